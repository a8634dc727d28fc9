/-
  The walk of lives. Its contract; how the laws' arguments are opened.
-/
import Derived.Test.YtajhfmioidmacaaRpg
import Derived.ProofKit
import Derived.OpenShut
import Derived.ChangeOld
import Derived.Deep.Slices
namespace Go.Proofs.Ytajhfmioidmacaa
set_option linter.unusedVariables false
set_option linter.unusedSimpArgs false
open Go.RowKit

def idM : Msg := ⟨5, 2, 9⟩
theorem accept_lit (w : World) : Calls Try.prog 16 #[.slice none 0 0, .agg #[.int .u16 5, .int .u32 2, .int .u32 9]] w fun e w' => ∃ A c, e = .returned (.tuple #[.slice A 1 c, .int .i64 0]) ∧ Rd w' 3 A 1 (mv [idM]) ∧ Below w.heap.size w w' := by
  refine (accept_any none 0 0 [] idM w (Rd.none_ _ _ _) (Nat.le_refl _) (by decide)).mono ?_
  rintro e w1 ⟨v, rfl, hown, hb⟩
  have e1 : (acc [] idM) = ([idM], 0) := by decide +kernel
  rw [e1] at hown ⊢
  obtain ⟨A, c, rfl, _, _, hr⟩ := own_rdn hown
  exact ⟨A, c, rfl, hr, hb⟩
theorem check_lit (A : Option Addr) (c : Nat) (w : World) (hA : Rd w 3 A 1 (mv [idM])) : Calls Try.prog 18 #[.slice A 1 c, .agg #[.int .u16 5, .int .u32 2, .int .u32 9]] w fun e w' => e = .returned (.int .i64 16) ∧ Below w.heap.size w w' := by
  refine (check_any A 1 c [idM] idM w hA (by decide)).mono ?_
  rintro e w1 ⟨rfl, hb⟩
  have e1 : chk [idM] idM = 16 := by decide +kernel
  rw [e1]
  exact ⟨rfl, hb⟩
theorem check_lit3 (A : Option Addr) (c : Nat) (w : World) (hA : Rd w 3 A 1 (mv [idM])) : Calls Try.prog 18 #[.slice A 1 c, .agg #[.int .u16 5, .int .u32 3, .int .u32 0]] w fun e w' => e = .returned (.int .i64 0) ∧ Below w.heap.size w w' := by
  refine (check_any A 1 c [idM] ⟨5, 3, 0⟩ w hA (by decide)).mono ?_
  rintro e w1 ⟨rfl, hb⟩
  have e1 : chk [idM] ⟨5, 3, 0⟩ = 0 := by decide +kernel
  rw [e1]
  exact ⟨rfl, hb⟩
theorem remember_lit (w : World) : Calls Try.prog 12 #[.slice none 0 0, .agg #[.int .u16 5, .int .u32 2, .int .u32 9]] w fun e w' => ∃ A c, e = .returned (.slice A 1 c) ∧ Rd w' 3 A 1 (mv [idM]) ∧ Below w.heap.size w w' := by
  refine (remember_any none 0 0 [] idM w (Rd.none_ _ _ _) (Nat.le_refl _) (by decide)).mono ?_
  rintro e w1 ⟨v, rfl, hown, hb⟩
  have e1 : rem [] idM = [idM] := by decide +kernel
  rw [e1] at hown
  obtain ⟨A, c, rfl, _, _, hr⟩ := own_rdn hown
  exact ⟨A, c, rfl, hr, hb⟩
theorem seen_lit (A : Option Addr) (c : Nat) (w : World) (hA : Rd w 3 A 1 (mv [idM])) : Calls Try.prog 9 #[.slice A 1 c, .agg #[.int .u16 5, .int .u32 2, .int .u32 9]] w fun e w' => e = .returned (.bool true) ∧ Below w.heap.size w w' := by
  refine (seen_any A 1 c [idM] idM w hA (by decide)).mono ?_
  rintro e w1 ⟨rfl, hb⟩
  exact ⟨rfl, hb⟩
theorem newer_lit (w : World) : Calls Try.prog 14 #[.agg #[.int .u16 5, .int .u32 2, .int .u32 9], .agg #[.int .u16 0, .int .u32 1, .int .u32 100]] w fun e w' => e = .returned (.bool true) ∧ Below w.heap.size w w' := by
  refine (newer_any idM ⟨0, 1, 100⟩ w).mono ?_
  rintro e w1 ⟨rfl, hb⟩
  exact ⟨rfl, hb⟩
theorem newer_lit2 (w : World) : Calls Try.prog 14 #[.agg #[.int .u16 5, .int .u32 2, .int .u32 9], .agg #[.int .u16 5, .int .u32 2, .int .u32 9]] w fun e w' => e = .returned (.bool false) ∧ Below w.heap.size w w' := by
  refine (newer_any idM idM w).mono ?_
  rintro e w1 ⟨rfl, hb⟩
  exact ⟨rfl, hb⟩
set_option maxHeartbeats 2000000 in
theorem lives_any (w : World) : Calls Try.prog 8 #[] w fun e w' => e = .returned (.bool true) ∧ Below w.heap.size w w' := by
  have hB : Below w.heap.size w (w.alloc (.cells #[.int .u16 5, .int .u32 2, .int .u32 9] 26)) := (Below.refl _ _).alloc (Nat.le_refl _) _
  have k1 : Blk (w.alloc (.cells #[.int .u16 5, .int .u32 2, .int .u32 9] 26)) w.heap.size 26 #[.int .u16 5, .int .u32 2, .int .u32 9] := Blk.new _ _ _
  have F : ∀ {w' : World}, Blk w' w.heap.size 26 #[.int .u16 5, .int .u32 2, .int .u32 9] → Below w.heap.size w w' → w'.cell? ⟨w.heap.size, 0, none⟩ = some (.int .u16 5) ∧ w'.cell? ⟨w.heap.size, 1, none⟩ = some (.int .u32 2) ∧ w'.cell? ⟨w.heap.size, 2, none⟩ = some (.int .u32 9) ∧ Below w.heap.size w w' := fun h1 h2 => ⟨h1.cell 0, h1.cell 1, h1.cell 2, h2⟩
  go_enter Try.func8, Try.ntmps8
  go_wp2_with fail
  refine (accept_lit _).mono ?_
  rintro e w1 ⟨A1, c1, rfl, hr1, hb1⟩
  have B1 := hB.trans (hb1.mono hB.size)
  have m1 := k1.below hb1 k1.lt
  have F1 := F m1 B1
  have D1 := F m1.drew B1.drew
  go_wp2_with fail
  go_region_held3 (fun w' => w'.cell? ⟨w.heap.size, 0, none⟩ = some (.int .u16 5) ∧ w'.cell? ⟨w.heap.size, 1, none⟩ = some (.int .u32 2) ∧ w'.cell? ⟨w.heap.size, 2, none⟩ = some (.int .u32 9) ∧ Below w.heap.size w w') (first | assumption | exact F1 | exact D1 | exact F2 | exact F3 | exact F4 | exact F5 | exact F6 | exact F7) (first
    | (go_at_call_of 18 (Value.int IntKind.u32 2); refine (check_lit A1 c1 _ ?_).mono ?_; exact hr1.drew; rintro e w2 ⟨rfl, hb2⟩; have m2 := m1.drew.below hb2 m1.lt; have B2 : Below w.heap.size w w2 := B1.drew.trans (hb2.mono B1.size); have F2 := F m2 B2; have hr2 := hr1.drew.below hb2)
    | (go_at_call_of 18 (Value.int IntKind.u32 3); refine (check_lit3 A1 c1 _ ?_).mono ?_; exact hr2; rintro e w3 ⟨rfl, hb3⟩; have m3 := m2.below hb3 m2.lt; have B3 : Below w.heap.size w w3 := B2.trans (hb3.mono B2.size); have F3 := F m3 B3)
    | (go_at_call 12; refine (remember_lit _).mono ?_; rintro e w4 ⟨A4, c4, rfl, hr4, hb4⟩; have m4 := m3.below hb4 m3.lt; have B4 : Below w.heap.size w w4 := B3.trans (hb4.mono B3.size); have F4 := F m4 B4)
    | (go_at_call 9; refine (seen_lit A4 c4 _ ?_).mono ?_; exact hr4; rintro e w5 ⟨rfl, hb5⟩; have m5 := m4.below hb5 m4.lt; have B5 : Below w.heap.size w w5 := B4.trans (hb5.mono B4.size); have F5 := F m5 B5)
    | (go_at_call_of 14 (Value.int IntKind.u32 100); refine (newer_lit _).mono ?_; rintro e w6 ⟨rfl, hb6⟩; have m6 := m5.below hb6 m5.lt; have B6 : Below w.heap.size w w6 := B5.trans (hb6.mono B5.size); have F6 := F m6 B6)
    | (go_at_call 14; refine (newer_lit2 _).mono ?_; rintro e w7 ⟨rfl, hb7⟩; have m7 := m6.below hb7 m6.lt; have B7 : Below w.heap.size w w7 := B6.trans (hb7.mono B6.size); have F7 := F m7 B7))
  go_wp2
  go_ret
  exact ⟨rfl, B7⟩

open Go.ChangeShapes Go.WideShapes Go.Deep
section
variable {H : Type} {enc : TypeId × Value → H} {W : World} {base : Nat} {sp : Nat → Bool} {held : Bool}
theorem cells_u16 : Try.prog.cellsOf 23 = 1 := by kernel_rfl
theorem cells_u32 : Try.prog.cellsOf 24 = 1 := by kernel_rfl
theorem cells_seq : Try.prog.cellsOf 26 = 3 := by kernel_rfl
theorem cells_row : Try.prog.cellsOf 46 = 3 := by kernel_rfl
theorem list3 {α : Type} {l : List α} (h : l.length = 3) : ∃ a b c, l = [a, b, c] := by
  match l, h with
  | [a, b, c], _ => exact ⟨a, b, c, rfl⟩
theorem open_seqcs {fuel : Nat} {cs : List Value} {x : DataW H × List MemPlace} (h : DataW.trod enc Try.prog W base sp held fuel 26 cs = some x) : ∃ c : Msg, cs = c.cells := by
  obtain ⟨xs, n, _, _, hlen, hxl, hf⟩ := DataW.trod_struct Try.underlying26 h
  rw [cells_seq] at hlen
  obtain ⟨c0, c1, c2, rfl⟩ := list3 hlen
  obtain ⟨y0, y1, y2, rfl⟩ := list3 (by simpa using hxl)
  have h0 := hf 0 _ rfl
  have h1 := hf 1 _ rfl
  have h2 := hf 2 _ rfl
  simp [cells_u16, cells_u32] at h0 h1 h2
  obtain ⟨a, e0, _⟩ := DataW.trod_int Try.underlying23 h0
  obtain ⟨b, e1, _⟩ := DataW.trod_int Try.underlying24 h1
  obtain ⟨c, e2, _⟩ := DataW.trod_int Try.underlying24 h2
  simp only [List.cons.injEq, and_true] at e0 e1 e2
  exact ⟨⟨a, b, c⟩, by rw [e0, e1, e2]; rfl⟩
theorem open_rowcs {fuel : Nat} {cs : List Value} {x : DataW H × List MemPlace} (h : DataW.trod enc Try.prog W base sp held fuel 46 cs = some x) : ∃ c : Msg, cs = c.cells := by
  obtain ⟨xs, n, _, _, hlen, hxl, hf⟩ := DataW.trod_struct Try.underlying46 h
  rw [cells_row] at hlen
  obtain ⟨c0, c1, c2, rfl⟩ := list3 hlen
  obtain ⟨y0, y1, y2, rfl⟩ := list3 (by simpa using hxl)
  have h0 := hf 0 _ rfl
  have h1 := hf 1 _ rfl
  have h2 := hf 2 _ rfl
  simp [cells_u16, cells_u32] at h0 h1 h2
  obtain ⟨a, e0, _⟩ := DataW.trod_int Try.underlying23 h0
  obtain ⟨b, e1, _⟩ := DataW.trod_int Try.underlying24 h1
  obtain ⟨c, e2, _⟩ := DataW.trod_int Try.underlying24 h2
  simp only [List.cons.injEq, and_true] at e0 e1 e2
  exact ⟨⟨a, b, c⟩, by rw [e0, e1, e2]; rfl⟩
theorem open_seq {r : Reach} {b0 : Nat} {v : Value} {d : DataW H} {p : List MemPlace} (hv : Value.okWide Try.prog W r b0 26 v) (h : DataW.Trod enc Try.prog W base sp held 26 v d p) :
    ∃ x : Msg, v = .agg #[.int .u16 x.s, .int .u32 x.i, .int .u32 x.q] ∧ True := by
  obtain ⟨cs, rfl, _⟩ := Go.WideShapes.okWide_struct Try.underlying26 hv
  obtain ⟨fuel, hf⟩ := h
  obtain ⟨c, hc⟩ := open_seqcs hf
  obtain ⟨q⟩ := cs
  have hq : q = c.cells := hc
  exact ⟨c, by rw [hq]; rfl, trivial⟩
/-- A choice below n. -/
theorem choose_below {α : Type} [Inhabited α] {n : Nat} {p : Nat → α → Prop} (h : ∀ i, i < n → ∃ x, p i x) : ∃ f : Nat → α, ∀ i, i < n → p i (f i) := by
  have : ∀ i, ∃ x, i < n → p i x := fun i => by
    by_cases hi : i < n
    · obtain ⟨x, hx⟩ := h i hi
      exact ⟨x, fun _ => hx⟩
    · exact ⟨default, fun h => absurd h hi⟩
  exact ⟨fun i => (this i).choose, fun i => (this i).choose_spec⟩
/-- Elements of three cells each, read one by one, read as a list. -/
theorem rd_msgs {W : World} {a : Addr} {n : Nat} (hone : ∀ i, i < n → ∃ q : Msg, ∀ j u, q.cells[j]? = some u → W.cell? (a.add (i * 3 + j)) = some u) : ∃ l : List Msg, Rd W 3 (some a) n (mv l) := by
  obtain ⟨q, hq⟩ := choose_below (α := Msg) hone
  refine ⟨(List.range n).map q, by rw [mv_length]; simp, fun h0 => ?_⟩
  have hc0 := hq 0 h0 0 _ rfl
  obtain ⟨b, o, spt⟩ := a
  have hspt : spt = none := by simpa [Addr.add] using World.cell?_spot hc0
  subst hspt
  refine ⟨b, o, rfl, World.block_lt_of_cell? W ⟨b, o, none⟩ (by rw [Addr.add_lit] at hc0; exact hc0), fun j u hu => ?_⟩
  have hj : j < n * 3 := by
    have := (List.getElem?_eq_some_iff.1 hu).1
    rw [mv_length] at this
    simpa using this
  have hk : j / 3 < n := by omega
  have hg := mv_get ((List.range n).map q) (j / 3) (q (j / 3)) (by simp [hk]) (j % 3) (by omega)
  rw [show j / 3 * 3 + j % 3 = j by omega, hu] at hg
  have := hq (j / 3) hk (j % 3) u hg.symm
  rw [Addr.add_lit, show j / 3 * 3 + j % 3 = j by omega] at this
  exact this
theorem open_seqs {r : Reach} {b0 : Nat} {v : Value} {d : DataW H} {p : List MemPlace} (hv : Value.okWide Try.prog W r b0 22 v) (h : DataW.Trod enc Try.prog W 0 (fun _ => true) held 22 v d p) :
    ∃ (A : Option Addr) (n c : Nat) (l : List Msg), v = .slice A n c ∧ (Rd W 3 A n (mv l) ∧ n ≤ c ∧ c ≤ maxLen) := by
  obtain ⟨A, n, c, rfl⟩ := Go.WideShapes.okWide_slice underS hv
  obtain ⟨fuel, hf⟩ := h
  rcases open_slice underS hf with ⟨hcs, _⟩ | ⟨a, len, cap, m, k, D, Pl, hcs, _, hl, hm, hmm, _, hi⟩
  · simp [Value.cells] at hcs
    obtain ⟨rfl, rfl, rfl⟩ := hcs
    exact ⟨none, 0, 0, [], rfl, Rd.none_ _ _ _, Nat.le_refl _, by decide⟩
  · simp [Value.cells] at hcs
    obtain ⟨rfl, rfl, rfl⟩ := hcs
    have hlm : n ≤ m := by rw [hmm]; simpa using hl
    obtain ⟨l, hr⟩ := rd_msgs (W := W) (a := a) (n := n) (fun i hin => by
      obtain ⟨cs', hc', ht'⟩ := hi i (by omega)
      rw [cells_seq] at hc'
      obtain ⟨q, hq⟩ := open_seqcs ht'
      obtain ⟨_, hcl, hat⟩ := World.cells?_some hc'
      refine ⟨q, fun j u hu => ?_⟩
      have hj : j < 3 := (List.getElem?_eq_some_iff.1 hu).1
      have := hat j hj
      rw [hq, hu, Go.Deep.add_add] at this
      exact this)
    exact ⟨some a, n, c, l, rfl, hr, hl, hm⟩
theorem open_rows {r : Reach} {b0 : Nat} {v : Value} {d : DataW H} {p : List MemPlace} (hv : Value.okWide Try.prog W r b0 34 v) (h : DataW.Trod enc Try.prog W 0 (fun _ => true) held 34 v d p) :
    ∃ (A : Option Addr) (n c : Nat) (l : List Msg), v = .slice A n c ∧ (Rd W 3 A n (mv l) ∧ n ≤ c ∧ c ≤ maxLen) := by
  obtain ⟨A, n, c, rfl⟩ := Go.WideShapes.okWide_slice underR hv
  obtain ⟨fuel, hf⟩ := h
  rcases open_slice underR hf with ⟨hcs, _⟩ | ⟨a, len, cap, m, k, D, Pl, hcs, _, hl, hm, hmm, _, hi⟩
  · simp [Value.cells] at hcs
    obtain ⟨rfl, rfl, rfl⟩ := hcs
    exact ⟨none, 0, 0, [], rfl, Rd.none_ _ _ _, Nat.le_refl _, by decide⟩
  · simp [Value.cells] at hcs
    obtain ⟨rfl, rfl, rfl⟩ := hcs
    have hlm : n ≤ m := by rw [hmm]; simpa using hl
    obtain ⟨l, hr⟩ := rd_msgs (W := W) (a := a) (n := n) (fun i hin => by
      obtain ⟨cs', hc', ht'⟩ := hi i (by omega)
      rw [cells_row] at hc'
      obtain ⟨q, hq⟩ := open_rowcs ht'
      obtain ⟨_, hcl, hat⟩ := World.cells?_some hc'
      refine ⟨q, fun j u hu => ?_⟩
      have hj : j < 3 := (List.getElem?_eq_some_iff.1 hu).1
      have := hat j hj
      rw [hq, hu, Go.Deep.add_add] at this
      exact this)
    exact ⟨some a, n, c, l, rfl, hr, hl, hm⟩
end
end Go.Proofs.Ytajhfmioidmacaa
