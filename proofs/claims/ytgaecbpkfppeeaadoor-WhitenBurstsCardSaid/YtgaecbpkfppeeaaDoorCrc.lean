/-
  The walk of the reference's Flip: inverted bits.
-/
import Derived.Test.YtgaecbpkfppeeaaDoorCrb
import Derived.OneCell
import Derived.Deep.RegionHeld3
namespace Go.Proofs.YtgaecbpkfppeeaaDoor
set_option linter.unusedVariables false
set_option linter.unusedSimpArgs false
open Go.RowKit

theorem own_set {w : World} {base : Nat} {e : TypeId} {g n cap j : Nat} {xs : List Value} (h : w.ownsRow base e 1 (.slice (some ⟨g, 0, none⟩) n cap) n xs) (hj : j < n) (u : Value) :
    (w.setCell ⟨g, j, none⟩ u).ownsRow base e 1 (.slice (some ⟨g, 0, none⟩) n cap) n (xs.set j u) ∧ base ≤ g ∧ w.frozen? ⟨g, j, none⟩ = false := by
  obtain ⟨h1, h2⟩ := h
  rcases h2 with ⟨h2, _⟩ | ⟨g', cap', cur, h2, hb, hh, hn, hm, hs, ht⟩
  · cases h2
  · injection h2 with h2 _ h3
    injection h2 with h2
    injection h2 with h2
    subst h2
    subst h3
    have hB : Blk w g e cur := hh
    refine ⟨⟨by rw [List.length_set]; exact h1, .inr ⟨g, cap, _, rfl, hb, hB.set_ j u, hn, hm, by simpa using hs, ?_⟩⟩, hb, hB.frozen j⟩
    rw [Array.toList_setIfInBounds, List.take_set, ht]
theorem bv_lset (l : List Nat) (k x : Nat) : (bv l).set k (.int .u8 (x : Int)) = bv (l.set k x) := by simp [bv, List.map_set]
theorem cflip_set {l : List Nat} {j x : Nat} (h : l[j / 8]? = some x) : cflip l j = l.set (j / 8) (x ^^^ 2 ^ (j % 8)) := by
  induction l generalizing j with
  | nil => simp at h
  | cons y l ih =>
    simp only [cflip]
    by_cases hj : j < 8
    · have h0 : j / 8 = 0 := by omega
      rw [h0] at h ⊢
      simp only [List.getElem?_cons_zero, Option.some.injEq] at h
      rw [if_pos hj, h, List.set_cons_zero, Nat.mod_eq_of_lt hj]
    · have h0 : j / 8 = (j - 8) / 8 + 1 := by omega
      have h1 : j % 8 = (j - 8) % 8 := by omega
      rw [h0, List.getElem?_cons_succ] at h
      rw [if_neg hj, h0, h1, List.set_cons_succ, ih h]
theorem cfits_succ {n a p k : Nat} (h : cfits n a p k) (hk : p / 2 ^ k % 2 = 1 → a + k < 8 * n) : cfits n a p (k + 1) := by
  intro i hi hp
  rcases Nat.lt_or_ge i k with h' | h'
  · exact h i h' hp
  · obtain rfl : i = k := by omega
    exact hk hp
theorem cburst_bytes {l : List Nat} (h : ∀ x ∈ l, x < 256) (a p k : Nat) : ∀ x ∈ cburst l a p k, x < 256 := by
  have hf : ∀ (l : List Nat) (j : Nat), (∀ x ∈ l, x < 256) → ∀ x ∈ cflip l j, x < 256 := by
    intro l
    induction l with
    | nil => intro j h; exact h
    | cons y l ih =>
      intro j h
      simp only [cflip]
      have hy := h y (by simp)
      split
      · rename_i hj
        intro x hx
        rcases List.mem_cons.1 hx with rfl | hx
        · exact Nat.xor_lt_two_pow (n := 8) (by omega) (Nat.pow_lt_pow_right (by omega) hj)
        · exact h x (by simp [hx])
      · intro x hx
        rcases List.mem_cons.1 hx with rfl | hx
        · exact hy
        · exact ih _ (fun x hx => h x (by simp [hx])) x hx
  induction k with
  | zero => exact h
  | succ k ih =>
    simp only [cburst]
    split
    · exact hf _ _ ih
    · exact ih
/-- What 'Flip' gives where it gives bytes. -/
def Flipped (w w' : World) (n : Nat) (l : List Nat) (at_ : Int) (p : Nat) (v : Value) (ok : Bool) : Prop :=
  ok = true → ∃ a : Nat, at_ = (a : Int) ∧ cfits n a p 24 ∧ w'.ownsRow w.heap.size 5 1 v n (bv (cburst l a p 24))
theorem flipped_no {w w' : World} {n : Nat} {l : List Nat} {at_ : Int} {p : Nat} {v : Value} : Flipped w w' n l at_ p v false := fun e => by cases e
set_option maxHeartbeats 2000000 in
theorem flip_any (A : Option Addr) (n c : Nat) (l : List Nat) (at_ : Int) (p : Nat) (w : World) (hA : Rd w 1 A n (bv l)) (hl : ∀ x ∈ l, x < 256) (hp : p < 4294967296) (hn : n ≤ 1000000) (hat : -9223372036854775808 ≤ at_ ∧ at_ ≤ 9223372036854775807) :
    Calls Tryd.prog 21 #[.slice A n c, .int .i64 at_, .int .u32 (p : Int)] w fun e w' => ∃ v ok, e = .returned (.tuple #[v, .bool ok]) ∧ Flipped w w' n l at_ p v ok ∧ Below w.heap.size w w' := by
  rcases (show at_ < 0 ∨ (0 ≤ at_ ∧ 8 * (n : Int) < at_) ∨ (0 ≤ at_ ∧ at_ ≤ 8 * (n : Int)) by omega) with h | ⟨h, h'⟩ | ⟨h, h'⟩
  · go_enter Tryd.func21, Tryd.ntmps21
    go_wp2_with (at_builtin; refine wpList_append_rd _ rfl (.tmp 10) (.tmp 11) _ rfl w.heap.size 5 (.int .u8 0) 1 1 under8 info8 rfl (by omega) (.slice (some ⟨w.heap.size, 0, none⟩) 0 0) 0 [] rfl (own_made w) A n c (bv l) rfl (hA.alloc _) (bv_one l) (by omega) (by omega) (by simp) ?_; intro v1 w1 hown hg _)
    have hb1 : Below w.heap.size w w1 := ((Below.refl _ _).alloc (Nat.le_refl _) _).grown hg (by simp) (by simp [Value.ownBlock])
    go_ret2
    exact ⟨_, false, rfl, flipped_no, hb1⟩
  · go_enter Tryd.func21, Tryd.ntmps21
    go_wp2_with (at_builtin; refine wpList_append_rd _ rfl (.tmp 10) (.tmp 11) _ rfl w.heap.size 5 (.int .u8 0) 1 1 under8 info8 rfl (by omega) (.slice (some ⟨w.heap.size, 0, none⟩) 0 0) 0 [] rfl (own_made w) A n c (bv l) rfl (hA.alloc _) (bv_one l) (by omega) (by omega) (by simp) ?_; intro v1 w1 hown hg _)
    have hb1 : Below w.heap.size w w1 := ((Below.refl _ _).alloc (Nat.le_refl _) _).grown hg (by simp) (by simp [Value.ownBlock])
    go_ret2
    exact ⟨_, false, rfl, flipped_no, hb1⟩
  · obtain ⟨a, rfl⟩ : ∃ a : Nat, at_ = (a : Int) := Int.eq_ofNat_of_zero_le h
    go_enter Tryd.func21, Tryd.ntmps21
    go_wp2_with (at_builtin; refine wpList_append_rd _ rfl (.tmp 10) (.tmp 11) _ rfl w.heap.size 5 (.int .u8 0) 1 1 under8 info8 rfl (by omega) (.slice (some ⟨w.heap.size, 0, none⟩) 0 0) 0 [] rfl (own_made w) A n c (bv l) rfl (hA.alloc _) (bv_one l) (by omega) (by omega) (by simp) ?_; intro v1 w1 hown hg _)
    have hb1 : Below w.heap.size w w1 := ((Below.refl _ _).alloc (Nat.le_refl _) _).grown hg (by simp) (by simp [Value.ownBlock])
    rw [Nat.zero_add, List.nil_append] at hown
    obtain ⟨V, hV⟩ : ∃ V, V = v1 := ⟨_, rfl⟩
    rw [← hV] at hown
    rw [← hV]
    clear hV hg
    have hsz := hb1.size
    go_loopw [2, 9] (fun q i wr => ∃ k r : Nat, k ≤ 24 ∧ i = .int .i64 k ∧ q = .int .u32 (r : Int) ∧ r ≤ p ∧ Hid (r = p / 2 ^ k) ∧ Hid (cfits n a p k) ∧ wr.ownsRow w.heap.size 5 1 V n (bv (cburst l a p k)) ∧ Below w.heap.size w wr) (fun _ i _ => 24 - (intOf i).toNat)
    case atStart => exact ⟨0, p, by omega, rfl, rfl, Nat.le_refl _, hide (by simp), hide (fun i hi => by omega), hown, hb1⟩
    case round =>
      obtain ⟨k, r, hk, rfl, rfl, hr, HR, HF, hownk, hbk⟩ := hrel
      by_cases hlt : k < 24
      · have hnext : r / 2 = p / 2 ^ (k + 1) := by rw [HR.out, Nat.div_div_eq_div_mul, Nat.pow_succ]
        have HN := hide hnext
        clear hnext
        by_cases hbit : r % 2 = 1
        · by_cases hin : (a + k) / 8 < n
          · obtain ⟨g, cap, rfl, hng⟩ : ∃ g cap, V = .slice (some ⟨g, 0, none⟩) n cap ∧ n ≤ cap := by
              rcases hownk.2 with ⟨_, h0⟩ | ⟨g, cap, cur, h1, _, _, h2, _⟩
              · omega
              · exact ⟨g, cap, h1, h2⟩
            obtain ⟨j, hj⟩ : ∃ j, j = (a + k) / 8 := ⟨_, rfl⟩
            obtain ⟨t, ht⟩ : ∃ t, t = (a + k) % 8 := ⟨_, rfl⟩
            have hji : ((a : Int) + (k : Int)) / 8 = (j : Int) := by omega
            have hti : ((a : Int) + (k : Int)) % 8 = (t : Int) := by omega
            have hjn : j < n := by omega
            have ht8 : t < 8 := by omega
            have hlen : (cburst l a p k).length = n := by rw [cburst_length]; exact hA.blen
            have hx : (cburst l a p k)[j]? = some ((cburst l a p k)[j]'(by omega)) := List.getElem?_eq_getElem (by omega)
            obtain ⟨x, hxx⟩ : ∃ x, x = (cburst l a p k)[j]'(by omega) := ⟨_, rfl⟩
            rw [← hxx] at hx
            have hx256 : x < 256 := cburst_bytes hl a p k x (List.mem_of_getElem? hx)
            have hcell : wr.cell? ⟨g, j, none⟩ = some (.int .u8 (x : Int)) := by
              have := hownk.cells (g := g) rfl j (.int .u8 (x : Int)) (by rw [bv_getElem?, hx]; rfl)
              rw [Addr.add_lit, Nat.zero_add] at this
              exact this
            obtain ⟨hset, hbg, hfr⟩ := own_set hownk hjn (.int .u8 ((x ^^^ 2 ^ t : Nat) : Int))
            rw [bv_lset, hj, ht, ← cflip_set (by rw [← hj]; exact hx)] at hset
            rw [← hj, ← ht, show cflip (cburst l a p k) (a + k) = cburst l a p (k + 1) from (if_pos (by rw [← HR.out]; exact hbit)).symm] at hset
            have h2t : 2 ^ t ≤ 128 := Nat.pow_le_pow_right (n := 2) (j := 7) (by omega) (by omega)
            have hxo := u8_xor x (2 ^ t) hx256 (by omega)
            have hfit : Hid (cfits n a p (k + 1)) := hide (cfits_succ HF.out (fun _ => by omega))
            obtain ⟨T, hT⟩ : ∃ T, T = 2 ^ t := ⟨_, rfl⟩
            obtain ⟨Y, hY⟩ : ∃ Y, Y = x ^^^ T := ⟨_, rfl⟩
            rw [← hT] at hset hxo
            rw [← hY] at hset hxo
            have hbit2 : (r : Int) % 2 = 1 := by omega
            have HT := hide hT
            have HS := hide hset
            have HK := hide hownk
            clear hx hxx hj ht hlen hset hT hY hownk h2t
            go_wp2_with fail
            have hsum : IntKind.i64.wrap ((a : Int) + (k : Int)) = ((a + k : Nat) : Int) := by rw [IntKind.wrap_i64]; omega
            obtain ⟨S, hS⟩ : ∃ S, S = a + k := ⟨_, rfl⟩
            have hq1 : IntKind.i64.wrap ((S : Int) / 8) = (j : Int) := by rw [IntKind.wrap_i64]; omega
            have hq2 : IntKind.i64.wrap ((S : Int) % 8) = (t : Int) := by rw [IntKind.wrap_i64]; omega
            have hq3 : (S : Int).tmod 8 = (t : Int) := by rw [Int.tmod_eq_emod_of_nonneg (by omega)]; omega
            rw [← hS] at hsum
            have HS2 := hide hS
            clear hS
            go_region_with (first
              | (go_at_call 30; (with_reducible refine (bit_any t ht8 _).mono ?_); rintro e w' ⟨rfl, rfl⟩; rw [← HT.out]))
            all_goals
              go_wp2
              go_roundw
              case rel => exact ⟨k + 1, r / 2, by omega, by go_num, by push_cast; rfl, by omega, hide HN.out, hfit, HS.out.drew, (hbk.setCell (p := ⟨g, j, none⟩) hbg _).drew⟩
              case measure => simp [intOf]; omega
          · go_wp2
            go_ret2
            exact ⟨_, false, rfl, flipped_no, hbk⟩
        · go_wp2
          go_roundw
          case rel => 
            refine ⟨k + 1, r / 2, by omega, by go_num, by push_cast; rfl, by omega, hide HN.out, hide (cfits_succ HF.out (fun e => absurd e (by rw [← HR.out]; exact hbit))), ?_, hbk⟩
            rw [show cburst l a p (k + 1) = cburst l a p k from if_neg (by rw [← HR.out]; exact hbit)]
            exact hownk
          case measure => simp [intOf]; omega
      · obtain rfl : k = 24 := by omega
        go_wp2
        go_ret2
        exact ⟨V, true, rfl, fun _ => ⟨a, rfl, HF.out, hownk⟩, hbk⟩
end Go.Proofs.YtgaecbpkfppeeaaDoor
