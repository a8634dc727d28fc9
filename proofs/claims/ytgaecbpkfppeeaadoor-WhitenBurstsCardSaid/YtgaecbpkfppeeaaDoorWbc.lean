/-
  The walk of the statement on bursts in whitened bytes: it returns true, and nothing that was there is written.
-/
import Derived.Test.YtgaecbpkfppeeaaDoorWbl
import Derived.Test.YtgaecbpkfppeeaaDoorCrf
import Derived.Test.YtgaecbpkfppeeaaDoorCrg
import Derived.Deep.RegionHeld3
namespace Go.Proofs.YtgaecbpkfppeeaaDoor
set_option linter.unusedVariables false
set_option linter.unusedSimpArgs false
open Go.RowKit

theorem zip_flip (l s : List Nat) (j : Nat) (h : l.length ≤ s.length) : List.zipWith (· ^^^ ·) (cflip l j) s = cflip (List.zipWith (· ^^^ ·) l s) j := by
  induction l generalizing s j with
  | nil => rfl
  | cons x l ih =>
    cases s with
    | nil => simp at h
    | cons y s =>
      simp only [cflip, List.zipWith_cons_cons]
      split
      · simp only [List.zipWith_cons_cons]
        rw [Nat.xor_assoc, Nat.xor_comm (2 ^ j) y, ← Nat.xor_assoc]
      · simp only [List.zipWith_cons_cons]
        rw [ih _ _ (by simpa using h)]
theorem wapply_burst (ch : Int) (l : List Nat) (a p k : Nat) : Wh.wapply ch (cburst l a p k) = cburst (Wh.wapply ch l) a p k := by
  induction k with
  | zero => rfl
  | succ k ih =>
    simp only [cburst]
    split
    · rw [← ih]
      unfold Wh.wapply
      rw [cflip_length]
      exact zip_flip _ _ _ (by rw [Wh.wseq_length]; exact Nat.le_refl _)
    · exact ih
theorem bitmod {p k : Nat} (h : k < 24) : p % 16777216 / 2 ^ k % 2 = 1 ↔ p / 2 ^ k % 2 = 1 := by
  have e1 := Nat.testBit_eq_decide_div_mod_eq (x := p % 16777216) (i := k)
  have e2 := Nat.testBit_eq_decide_div_mod_eq (x := p) (i := k)
  have e3 := Nat.testBit_mod_two_pow p 24 k
  rw [show (2 : Nat) ^ 24 = 16777216 from rfl] at e3
  simp only [h, decide_true, Bool.true_and] at e3
  rw [e1, e2] at e3
  simpa using e3
theorem cburst_mod (l : List Nat) (a p k : Nat) (h : k ≤ 24) : cburst l a (p % 16777216) k = cburst l a p k := by
  induction k with
  | zero => rfl
  | succ k ih =>
    simp only [cburst]
    rw [ih (by omega)]
    by_cases hb : p / 2 ^ k % 2 = 1
    · rw [if_pos hb, if_pos ((bitmod (by omega)).2 hb)]
    · rw [if_neg hb, if_neg (fun e => hb ((bitmod (by omega)).1 e))]
theorem cfits_mod {n a p : Nat} (h : cfits n a p 24) : cfits n a (p % 16777216) 24 := fun i hi hp => h i hi ((bitmod hi).1 hp)
theorem burst_ne {s : Nat} {l : List Nat} {a p : Nat} (h0 : csum s l = 0) (hp : p % 16777216 ≠ 0) (hf : cfits l.length a p 24) : csum s (cburst l a p 24) ≠ 0 := by
  rw [← cburst_mod _ _ _ _ (Nat.le_refl _)]
  exact csum_burst_ne s l a (p % 16777216) h0 (mod24 _) hp (cfits_mod hf)
theorem at3_blk {w : World} {g : Nat} {t : TypeId} {x y z : Value} (h : Blk w g t #[x, y, z]) : w.cell? ⟨g, 0, none⟩ = some x ∧ w.cell? ⟨g, 1, none⟩ = some y ∧ w.cell? ⟨g, 2, none⟩ = some z :=
  ⟨h.cell 0, h.cell 1, h.cell 2⟩
set_option maxHeartbeats 2000000 in
theorem whitenBursts_walk (a0 : Option Addr) (len0 cap0 : Nat) (l : List Nat) (ch at_ : Int) (p : Nat) (w : World)
    (f0 : Rd w 1 a0 len0 (bv l) ∧ (∀ x ∈ l, x < 256) ∧ len0 ≤ cap0 ∧ cap0 ≤ maxLen) (f1 : p < 4294967296 ∧ -9223372036854775808 ≤ at_ ∧ at_ ≤ 9223372036854775807) (hT : Tab w) :
    Calls Tryd.prog 9 #[.slice a0 len0 cap0, .agg #[.int .i64 ch, .int .i64 at_, .int .u32 (p : Int)]] w fun e w' => e = .returned (.bool true) ∧ Below w.heap.size w w' := by
  obtain ⟨hA, hl, hc, hm⟩ := f0
  obtain ⟨hp, hat⟩ := f1
  unfold maxLen at hm
  have hbx : Blk (w.alloc (.cells #[.int .i64 ch, .int .i64 at_, .int .u32 (p : Int)] 42)) w.heap.size 42 #[.int .i64 ch, .int .i64 at_, .int .u32 (p : Int)] := Blk.new _ _ _
  by_cases hbig : 4096 < len0
  · have hbig' : (4096 : Int) < (len0 : Int) := by omega
    go_enter Tryd.func9, Tryd.ntmps9
    go_wp2_with fail
    refine (Wh.lives_any _).mono ?_
    rintro e w1 ⟨rfl, hb1⟩
    go_wp2
    go_ret
    exact ⟨rfl, below_step (Below.refl _ _) _ hb1⟩
  · have h1 : (len0 : Int) ≤ 4096 := by omega
    have hlen := hA.blen
    obtain ⟨m, hml⟩ : ∃ m, m = l ++ ctail (csum (5592405 % 16777216) l) := ⟨_, rfl⟩
    have hmb : ∀ x ∈ m, x < 256 := by rw [hml]; exact tail_bytes (mod24 _) hl
    have hm0 : csum (5592405 % 16777216) m = 0 := by rw [hml]; exact csum_tail _ _ (mod24 _)
    have hmlen : m.length = len0 + 3 := by rw [hml, List.length_append, ctail_length, hlen]
    have hmt : m.take len0 = l := by rw [hml, List.take_left' hlen]
    have e1 := cerr_ok hmlen hm0
    rw [hmt] at e1
    have E1 := hide e1
    have HM := hide hml
    have HM0 := hide hm0
    have HML := hide hmlen
    have HL := hide hlen
    obtain ⟨S, hS⟩ : ∃ S, S = Wh.wapply ch m := ⟨_, rfl⟩
    have hSb : ∀ x ∈ S, x < 256 := by rw [hS]; exact Wh.wapply_bytes ch m hmb
    have HS := hide hS
    have HS2 := hide (show Wh.wapply ch S = m by rw [hS, Wh.wapply_twice])
    clear hml hm0 hmlen hlen hmt e1 hS
    go_enter Tryd.func9, Tryd.ntmps9
    go_wp2_with fail
    refine (Wh.lives_any _).mono ?_
    rintro e w1 ⟨rfl, hb1⟩
    have B1 := below_step (Below.refl _ w) _ hb1
    have hbx := hbx.below hb1 hbx.lt
    clear hb1
    obtain ⟨p0, p1, p2⟩ := at3_blk hbx
    have F : ∀ {w' : World}, Blk w' w.heap.size 42 #[.int .i64 ch, .int .i64 at_, .int .u32 (p : Int)] → Below w.heap.size w w' → w'.cell? ⟨w.heap.size, 0, none⟩ = some (.int .i64 ch) ∧ w'.cell? ⟨w.heap.size, 1, none⟩ = some (.int .i64 at_) ∧ w'.cell? ⟨w.heap.size, 2, none⟩ = some (.int .u32 (p : Int)) ∧ Below w.heap.size w w' := fun h1 h2 => ⟨h1.cell 0, h1.cell 1, h1.cell 2, h2⟩
    go_wp2_with fail
    go_region_held3 (fun w' => w'.cell? ⟨w.heap.size, 0, none⟩ = some (.int .i64 ch) ∧ w'.cell? ⟨w.heap.size, 1, none⟩ = some (.int .i64 at_) ∧ w'.cell? ⟨w.heap.size, 2, none⟩ = some (.int .u32 (p : Int)) ∧ Below w.heap.size w w') (first | assumption | exact F hbx B1 | exact F hbx.drew B1.drew | exact F hbx2 B2 | exact F hbx3 B3 | exact F hbx4 B4) (first
      | (go_at_call 24; (with_reducible refine (Wh.copied_any a0 len0 _ l _ ?_ ?_).mono ?_); exact (hA.below B1).drew; omega; rintro e w2 ⟨A2, c2, rfl, hc2, hr2, hb2⟩; have hbx2 := hbx.drew.below hb2 hbx.lt; have B2 := B1.drew.trans (hb2.mono B1.size))
      | (go_at_call 19; (refine (append_any 5592405 ?_ A2 len0 c2 l _ ?_ ?_ hl ?_).mono ?_); omega; exact hT.below B2; exact hr2; omega; rintro e w3 ⟨v3, rfl, hown3, hb3⟩; rw [← HM.out] at hown3; obtain ⟨A3, c3, rfl, hc3, hm3, hr3⟩ := own_rd hown3; have hbx3 := hbx2.below hb3 hbx2.lt; have B3 := B2.trans (hb3.mono B2.size))
      | (go_at_call 23; (with_reducible refine (Wh.apply_any ch A3 (len0 + 3) c3 m _ ?_ hmb ?_).mono ?_); exact hr3; omega; rintro e w4 ⟨A4, c4, rfl, hc4, hr4, hb4⟩; rw [← HS.out] at hr4; have hbx4 := hbx3.below hb4 hbx3.lt; have B4 := B3.trans (hb4.mono B3.size)))
    go_wp2_with fail
    go_region_held3 (fun w' => w'.cell? ⟨w.heap.size, 0, none⟩ = some (.int .i64 ch) ∧ w'.cell? ⟨w.heap.size, 1, none⟩ = some (.int .i64 at_) ∧ w'.cell? ⟨w.heap.size, 2, none⟩ = some (.int .u32 (p : Int)) ∧ Below w.heap.size w w') (first | assumption | exact F hbx4.drew B4.drew | exact F hbx4 B4 | exact F hbx5 B5 | exact F hbx6 B6 | exact F hbx7 B7) (first
      | (go_at_call 24; (with_reducible refine (Wh.copied_any A4 (len0 + 3) _ S _ ?_ ?_).mono ?_); exact hr4.drew; omega; rintro e w5 ⟨A5, c5, rfl, hc5, hr5, hb5⟩; have hbx5 := hbx4.drew.below hb5 hbx4.lt; have B5 := B4.drew.trans (hb5.mono B4.size))
      | (go_at_call 23; (with_reducible refine (Wh.apply_any ch A5 (len0 + 3) c5 S _ ?_ hSb ?_).mono ?_); exact hr5; omega; rintro e w6 ⟨A6, c6, rfl, hc6, hr6, hb6⟩; rw [HS2.out] at hr6; have hbx6 := hbx5.below hb6 hbx5.lt; have B6 := B5.trans (hb6.mono B5.size))
      | (go_at_call 16; (refine (check_any 5592405 ?_ A6 (len0 + 3) c6 m _ ?_ ?_ hmb hc6 ?_).mono ?_); omega; exact hT.below B6; exact hr6; omega; rintro e w7 ⟨v7, rfl, hown7, hb7⟩; rw [E1.out.1]; rw [E1.out.2, HL.out] at hown7; obtain ⟨A7, c7, rfl, hc7, hm7, hr7⟩ := own_rd hown7; have hbx7 := hbx6.below hb7 hbx6.lt; have B7 := B6.trans (hb7.mono B6.size)))
    clear hown3 hown7
    go_wp2_with fail
    refine (same_any A7 a0 len0 len0 c7 cap0 l l _ hr7 (hA.below B7) hl hl).mono ?_
    rintro e w' ⟨rfl, rfl⟩
    rw [decide_eq_true rfl]
    obtain ⟨q0, q1, q2⟩ := at3_blk hbx7
    have hr4 := ((hr4.drew.below hb5).below hb6).below hb7
    go_wp2_with fail
    have hSlen : S.length = len0 + 3 := by rw [HS.out, Wh.wapply_length, HML.out]
    have HSL := hide hSlen
    clear hSlen
    refine (flip_any A4 (len0 + 3) c4 S at_ p w7 hr4 hSb hp (by omega) hat).mono ?_
    rintro e w8 ⟨v8, ok, rfl, hfl, hb8⟩
    have hbx8 := hbx7.below hb8 hbx7.lt
    have B8 := B7.trans (hb8.mono B7.size)
    obtain ⟨t0, t1, t2⟩ := at3_blk hbx8
    clear p0 p1 p2 q0 q1 q2
    obtain ⟨q, hq⟩ : ∃ q, q = p % 16777216 := ⟨_, rfl⟩
    have hqi : (p : Int) % 16777216 = (q : Int) := by omega
    have HQ := hide hq
    clear hq
    cases ok
    · clear hfl
      go_wp2
      go_ret
      exact ⟨rfl, B8⟩
    · by_cases hz : q = 0
      · subst hz
        clear hfl
        go_wp2
        go_ret
        exact ⟨rfl, B8⟩
      · have hz1 : ((q : Int) == 0) = false := by rw [beq_eq_false_iff_ne]; omega
        obtain ⟨a, rfl, hfit, hown8⟩ := hfl rfl
        obtain ⟨A8, c8, rfl, hc8, hm8, hr8⟩ := own_rd hown8
        have hfit' : cfits m.length a p 24 := by rw [HML.out]; exact hfit
        have hne := burst_ne (s := 5592405 % 16777216) HM0.out (by rw [← HQ.out]; exact hz) hfit'
        have e1 := cerr_bad (n := len0) (by rw [cburst_length, HML.out]) hne
        have E2 := hide e1
        have HW := hide (show Wh.wapply ch (cburst S a p 24) = cburst m a p 24 by rw [wapply_burst, HS2.out])
        have hTb := cburst_bytes hSb a p 24
        have hMb := cburst_bytes hmb a p 24
        clear e1 hne hown8 hfl
        go_wp2_with fail
        refine (Wh.apply_any ch A8 (len0 + 3) c8 (cburst S a p 24) w8 hr8 hTb (by omega)).mono ?_
        rintro e w9 ⟨A9, c9, rfl, hc9, hr9, hb9⟩
        rw [HW.out] at hr9
        have B9 := B8.trans (hb9.mono B8.size)
        go_wp2_with fail
        refine (check_any 5592405 (by omega) A9 (len0 + 3) c9 (cburst m a p 24) w9 (hT.below B9) hr9 hMb hc9 (by omega)).mono ?_
        rintro e w10 ⟨v10, rfl, hown10, hb10⟩
        rw [E2.out.1]
        have B10 := B9.trans (hb10.mono B9.size)
        go_wp2
        go_ret
        exact ⟨rfl, B10⟩
section
variable {H : Type} {enc : TypeId × Value → H} {W : World} {base : Nat} {sp : Nat → Bool} {held : Bool}
theorem cells_i64 : Tryd.prog.cellsOf 3 = 1 := by kernel_rfl
theorem cells_dam : Tryd.prog.cellsOf 42 = 3 := by kernel_rfl
theorem list3 {α : Type} {l : List α} (h : l.length = 3) : ∃ a b c, l = [a, b, c] := by
  match l, h with
  | [a, b, c], _ => exact ⟨a, b, c, rfl⟩
theorem open_damage {r : Reach} {b0 : Nat} {v : Value} {d : DataW H} {p : List MemPlace} (hv : Value.okWide Tryd.prog W r b0 42 v) (h : DataW.Trod enc Tryd.prog W base sp held 42 v d p) :
    ∃ (ch at_ : Int) (p : Nat), v = .agg #[.int .i64 ch, .int .i64 at_, .int .u32 (p : Int)] ∧ (p < 4294967296 ∧ -9223372036854775808 ≤ at_ ∧ at_ ≤ 9223372036854775807) := by
  obtain ⟨cs, rfl, _⟩ := Go.WideShapes.okWide_struct Tryd.underlying42 hv
  obtain ⟨fuel, hf⟩ := h
  obtain ⟨l⟩ := cs
  obtain ⟨xs, n, _, _, hlen, hxl, hi⟩ := DataW.trod_struct Tryd.underlying42 hf
  rw [cells_dam] at hlen
  obtain ⟨x, y, z, hl⟩ := list3 hlen
  have hl' : l = [x, y, z] := hl
  subst hl'
  obtain ⟨y0, y1, y2, rfl⟩ := list3 (by simpa using hxl)
  have h0 := hi 0 _ rfl
  have h1 := hi 1 _ rfl
  have h2 := hi 2 _ rfl
  simp [cells_i64, cells_u32, Value.cells] at h0 h1 h2
  obtain ⟨c, e0, _⟩ := DataW.trod_int Tryd.underlying3 h0
  obtain ⟨i, e1, _, wi⟩ := DataW.trod_int Tryd.underlying3 h1
  obtain ⟨j, e2, _, wj⟩ := DataW.trod_int Tryd.underlying22 h2
  simp only [List.cons.injEq, and_true] at e0 e1 e2
  have b0 := wf_i64 wi
  have b1 := wf_u32 wj
  exact ⟨c, i, j.toNat, by rw [e0, e1, e2, Int.toNat_of_nonneg b1.1], by omega, b0⟩
end
end Go.Proofs.YtgaecbpkfppeeaaDoor
