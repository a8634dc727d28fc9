/-
  The walks of Check in the program and in the reference. Each function's contract.
-/
import Derived.Test.YtajhfmioidmacaaRpc
namespace Go.Proofs.Ytajhfmioidmacaa
set_option linter.unusedVariables false
set_option linter.unusedSimpArgs false
open Go.RowKit

/-- What Check answers. -/
def chk (l : List Msg) (x : Msg) : Nat := if rowOf l x.s < 0 then (if 32 ≤ l.length then 8 else 0) else if newer x (l.getD (rowOf l x.s).toNat x) then 0 else 16
theorem chk_cases (l : List Msg) (x : Msg) : (rowOf l x.s = -1 ∧ 32 ≤ l.length ∧ chk l x = 8) ∨ (rowOf l x.s = -1 ∧ l.length < 32 ∧ chk l x = 0) ∨ ∃ (k : Nat) (y : Msg), rowOf l x.s = (k : Int) ∧ l[k]? = some y ∧ ((newer x y = true ∧ chk l x = 0) ∨ (newer x y = false ∧ chk l x = 16)) := by
  unfold chk
  rcases rowOf_cases l x.s with ⟨h, _⟩ | ⟨k, y, h, hy, _⟩
  · rw [h]
    by_cases h2 : 32 ≤ l.length
    · left; exact ⟨rfl, h2, by simp [h2]⟩
    · right; left; exact ⟨rfl, by omega, by simp [h2]⟩
  · right; right
    refine ⟨k, y, h, hy, ?_⟩
    rw [h, if_neg (by omega), Int.toNat_natCast, List.getD_eq_getElem?_getD, hy, Option.getD_some]
    cases newer x y
    · right; exact ⟨rfl, rfl⟩
    · left; exact ⟨rfl, rfl⟩
theorem full_any (A : Option Addr) (n c : Nat) (w : World) :
    Calls Try.prog 28 #[.agg #[.slice A n c, .int .i64 32]] w fun e w' => e = .returned (.bool (decide (32 ≤ (n : Int)))) ∧ Below w.heap.size w w' := by
  go_enter Try.func28, Try.ntmps28
  go_wp2
  go_ret
  exact ⟨rfl, (Below.refl _ _).alloc (Nat.le_refl _) _⟩
set_option maxHeartbeats 1000000 in
theorem check_any (A : Option Addr) (n c : Nat) (l : List Msg) (x : Msg) (w : World) (hA : Rd w 3 A n (mv l)) (hn : n ≤ 1000000) :
    Calls Try.prog 18 #[.slice A n c, .agg #[.int .u16 x.s, .int .u32 x.i, .int .u32 x.q]] w fun e w' => e = .returned (.int .i64 ((chk l x : Nat) : Int)) ∧ Below w.heap.size w w' := by
  have hB : Below w.heap.size w (w.alloc (.cells #[.int .u16 x.s, .int .u32 x.i, .int .u32 x.q] 26)) := (Below.refl _ _).alloc (Nat.le_refl _) _
  have hbx : Blk (w.alloc (.cells #[.int .u16 x.s, .int .u32 x.i, .int .u32 x.q] 26)) w.heap.size 26 #[.int .u16 x.s, .int .u32 x.i, .int .u32 x.q] := Blk.new _ _ _
  have hlen := hA.mlen
  rcases chk_cases l x with ⟨hr, hs, he⟩ | ⟨hr, hs, he⟩ | ⟨k, y, hr, hy, hz⟩
  all_goals have HR := hide hr
  all_goals clear hr
  · have HE := hide he
    have h3 : decide (32 ≤ (n : Int)) = true := decide_eq_true (by omega)
    clear he
    go_enter Try.func18, Try.ntmps18
    go_wp2_with fail
    refine (row_any A n c l x.s _ (hA.below hB) hn).mono ?_
    rintro e w1 ⟨rfl, hb1⟩
    rw [HR.out]
    have hbx1 := hbx.below hb1 hbx.lt
    have B1 := hB.trans (hb1.mono hB.size)
    go_wp2_with fail
    go_region
    go_wp2_with fail
    refine (full_any A n c _).mono ?_
    rintro e w2 ⟨rfl, hb2⟩
    go_wp2
    go_ret
    exact ⟨ret_int (by rw [HE.out]; rfl), B1.drew.trans (hb2.mono B1.size)⟩
  · have HE := hide he
    have h3 : decide (32 ≤ (n : Int)) = false := decide_eq_false (by omega)
    clear he
    go_enter Try.func18, Try.ntmps18
    go_wp2_with fail
    refine (row_any A n c l x.s _ (hA.below hB) hn).mono ?_
    rintro e w1 ⟨rfl, hb1⟩
    rw [HR.out]
    have hbx1 := hbx.below hb1 hbx.lt
    have B1 := hB.trans (hb1.mono hB.size)
    go_wp2_with fail
    go_region
    go_wp2_with fail
    refine (full_any A n c _).mono ?_
    rintro e w2 ⟨rfl, hb2⟩
    go_wp2
    go_ret
    exact ⟨ret_int (by rw [HE.out]; rfl), B1.drew.trans (hb2.mono B1.size)⟩
  · obtain ⟨b, o, y', rfl, hbs, HX, p0, p1, p2⟩ := hA.msg (k := k) (by rw [← hlen]; exact (List.getElem?_eq_some_iff.1 hy).1)
    obtain rfl : y' = y := by have := HX.out; rw [hy] at this; injection this with this; exact this.symm
    have hkn : k < n := by rw [← hlen]; exact (List.getElem?_eq_some_iff.1 hy).1
    obtain ⟨R, hR, HE⟩ : ∃ R, newer x y' = R ∧ Hid (chk l x = if R then 0 else 16) := by
      rcases hz with ⟨h1, h2⟩ | ⟨h1, h2⟩
      · exact ⟨true, h1, hide h2⟩
      · exact ⟨false, h1, hide h2⟩
    have HN := hide hR
    clear hz hy hR
    go_enter Try.func18, Try.ntmps18
    go_wp2_with fail
    refine (row_any (some ⟨b, o, none⟩) n c l x.s _ (hA.below hB) hn).mono ?_
    rintro e w1 ⟨rfl, hb1⟩
    rw [HR.out]
    have hbx1 := hbx.below hb1 hbx.lt
    have B1 := hB.trans (hb1.mono hB.size)
    have F : ∀ {w' : World}, Blk w' w.heap.size 26 #[.int .u16 x.s, .int .u32 x.i, .int .u32 x.q] → Below w.heap.size w w' → w'.cell? ⟨w.heap.size, 0, none⟩ = some (.int .u16 x.s) ∧ w'.cell? ⟨w.heap.size, 1, none⟩ = some (.int .u32 x.i) ∧ w'.cell? ⟨w.heap.size, 2, none⟩ = some (.int .u32 x.q) ∧ w'.cell? ⟨b, o + k * 3 + 1, none⟩ = some (.int .u32 y'.i) ∧ w'.cell? ⟨b, o + k * 3 + 2, none⟩ = some (.int .u32 y'.q) ∧ Below w.heap.size w w' :=
      fun h1 h2 => ⟨h1.cell 0, h1.cell 1, h1.cell 2, (h2.cell (p := ⟨b, o + k * 3 + 1, none⟩) hbs).trans p1, (h2.cell (p := ⟨b, o + k * 3 + 2, none⟩) hbs).trans p2, h2⟩
    have F1 := F hbx1 B1
    have D1 := F hbx1.drew B1.drew
    clear p0 p1 p2
    go_wp2_with fail
    go_region_held3 (fun w' => w'.cell? ⟨w.heap.size, 0, none⟩ = some (.int .u16 x.s) ∧ w'.cell? ⟨w.heap.size, 1, none⟩ = some (.int .u32 x.i) ∧ w'.cell? ⟨w.heap.size, 2, none⟩ = some (.int .u32 x.q) ∧ w'.cell? ⟨b, o + k * 3 + 1, none⟩ = some (.int .u32 y'.i) ∧ w'.cell? ⟨b, o + k * 3 + 2, none⟩ = some (.int .u32 y'.q) ∧ Below w.heap.size w w') (first | assumption | exact F1 | exact D1 | exact F2) (first
      | (go_at_call 14; (refine (newer_any x ⟨0, y'.i, y'.q⟩ _).mono ?_); rintro e w2 ⟨rfl, hb2⟩; rw [show newer x ⟨0, y'.i, y'.q⟩ = R from HN.out]; have hbx2 := hbx1.drew.below hb2 hbx1.lt; have B2 : Below w.heap.size w w2 := B1.drew.trans (hb2.mono B1.size); have F2 := F hbx2 B2))
    cases R
    · go_wp2
      go_ret
      exact ⟨ret_int (by rw [HE.out]; rfl), B2⟩
    · go_wp2_with fail
      go_ret
      exact ⟨ret_int (by rw [HE.out]; rfl), B2⟩
set_option maxHeartbeats 1000000 in
theorem rcheck_any (A : Option Addr) (n c : Nat) (l : List Msg) (x : Msg) (w : World) (hA : Rd w 3 A n (mv l)) (hn : n ≤ 1000000) :
    Calls Try.prog 19 #[.slice A n c, .agg #[.int .u16 x.s, .int .u32 x.i, .int .u32 x.q]] w fun e w' => e = .returned (.int .i64 ((chk l x : Nat) : Int)) ∧ Below w.heap.size w w' := by
  have hB : Below w.heap.size w (w.alloc (.cells #[.int .u16 x.s, .int .u32 x.i, .int .u32 x.q] 26)) := (Below.refl _ _).alloc (Nat.le_refl _) _
  have hbx : Blk (w.alloc (.cells #[.int .u16 x.s, .int .u32 x.i, .int .u32 x.q] 26)) w.heap.size 26 #[.int .u16 x.s, .int .u32 x.i, .int .u32 x.q] := Blk.new _ _ _
  have hlen := hA.mlen
  rcases chk_cases l x with ⟨hr, hs, he⟩ | ⟨hr, hs, he⟩ | ⟨k, y, hr, hy, hz⟩
  all_goals have HR := hide hr
  all_goals clear hr
  · have HE := hide he
    have h3 : (32 : Int) ≤ (n : Int) := by omega
    clear he
    go_enter Try.func19, Try.ntmps19
    go_wp2_with fail
    refine (rrow_any A n c l x.s _ (hA.below hB) hn).mono ?_
    rintro e w1 ⟨rfl, hb1⟩
    rw [HR.out]
    have hbx1 := hbx.below hb1 hbx.lt
    have B1 := hB.trans (hb1.mono hB.size)
    go_wp2
    go_ret
    exact ⟨ret_int (by rw [HE.out]; rfl), B1⟩
  · have HE := hide he
    have h3 : ¬ (32 : Int) ≤ (n : Int) := by omega
    clear he
    go_enter Try.func19, Try.ntmps19
    go_wp2_with fail
    refine (rrow_any A n c l x.s _ (hA.below hB) hn).mono ?_
    rintro e w1 ⟨rfl, hb1⟩
    rw [HR.out]
    have hbx1 := hbx.below hb1 hbx.lt
    have B1 := hB.trans (hb1.mono hB.size)
    go_wp2
    go_ret
    exact ⟨ret_int (by rw [HE.out]; rfl), B1⟩
  · obtain ⟨b, o, y', rfl, hbs, HX, p0, p1, p2⟩ := hA.msg (k := k) (by rw [← hlen]; exact (List.getElem?_eq_some_iff.1 hy).1)
    obtain rfl : y' = y := by have := HX.out; rw [hy] at this; injection this with this; exact this.symm
    have hkn : k < n := by rw [← hlen]; exact (List.getElem?_eq_some_iff.1 hy).1
    obtain ⟨R, hR, HE⟩ : ∃ R, newer x y' = R ∧ Hid (chk l x = if R then 0 else 16) := by
      rcases hz with ⟨h1, h2⟩ | ⟨h1, h2⟩
      · exact ⟨true, h1, hide h2⟩
      · exact ⟨false, h1, hide h2⟩
    have HN := hide hR
    clear hz hy hR
    go_enter Try.func19, Try.ntmps19
    go_wp2_with fail
    refine (rrow_any (some ⟨b, o, none⟩) n c l x.s _ (hA.below hB) hn).mono ?_
    rintro e w1 ⟨rfl, hb1⟩
    rw [HR.out]
    have hbx1 := hbx.below hb1 hbx.lt
    have B1 := hB.trans (hb1.mono hB.size)
    have F : ∀ {w' : World}, Blk w' w.heap.size 26 #[.int .u16 x.s, .int .u32 x.i, .int .u32 x.q] → Below w.heap.size w w' → w'.cell? ⟨w.heap.size, 0, none⟩ = some (.int .u16 x.s) ∧ w'.cell? ⟨w.heap.size, 1, none⟩ = some (.int .u32 x.i) ∧ w'.cell? ⟨w.heap.size, 2, none⟩ = some (.int .u32 x.q) ∧ w'.cell? ⟨b, o + k * 3 + 1, none⟩ = some (.int .u32 y'.i) ∧ w'.cell? ⟨b, o + k * 3 + 2, none⟩ = some (.int .u32 y'.q) ∧ Below w.heap.size w w' :=
      fun h1 h2 => ⟨h1.cell 0, h1.cell 1, h1.cell 2, (h2.cell (p := ⟨b, o + k * 3 + 1, none⟩) hbs).trans p1, (h2.cell (p := ⟨b, o + k * 3 + 2, none⟩) hbs).trans p2, h2⟩
    have F1 := F hbx1 B1
    have D1 := F hbx1.drew B1.drew
    clear p0 p1 p2
    go_wp2_with fail
    go_region_held3 (fun w' => w'.cell? ⟨w.heap.size, 0, none⟩ = some (.int .u16 x.s) ∧ w'.cell? ⟨w.heap.size, 1, none⟩ = some (.int .u32 x.i) ∧ w'.cell? ⟨w.heap.size, 2, none⟩ = some (.int .u32 x.q) ∧ w'.cell? ⟨b, o + k * 3 + 1, none⟩ = some (.int .u32 y'.i) ∧ w'.cell? ⟨b, o + k * 3 + 2, none⟩ = some (.int .u32 y'.q) ∧ Below w.heap.size w w') (first | assumption | exact F1 | exact D1 | exact F2) (first
      | (go_at_call 15; (refine (rnewer_any x ⟨x.s, y'.i, y'.q⟩ _).mono ?_); rintro e w2 ⟨rfl, hb2⟩; rw [show newer x ⟨x.s, y'.i, y'.q⟩ = R from HN.out]; have hbx2 := hbx1.drew.below hb2 hbx1.lt; have B2 : Below w.heap.size w w2 := B1.drew.trans (hb2.mono B1.size); have F2 := F hbx2 B2))
    cases R
    · go_wp2
      go_ret
      exact ⟨ret_int (by rw [HE.out]; rfl), B2⟩
    · go_wp2
      go_ret
      exact ⟨ret_int (by rw [HE.out]; rfl), B2⟩
end Go.Proofs.Ytajhfmioidmacaa
