/-
  The walks of the first statements on checksums: each returns true, and nothing that was there is written.
-/
import Derived.Test.YtgaecbpkfppeeaaDoorCrl
import Derived.Deep.RegionHeld3
namespace Go.Proofs.YtgaecbpkfppeeaaDoor
set_option linter.unusedVariables false
set_option linter.unusedSimpArgs false
open Go.RowKit

theorem wf_u32 {n : Int} (h : (Lit.int .u32 n).wf = true) : 0 ≤ n ∧ n < 4294967296 := by
  simp [Lit.wf, IntKind.min, IntKind.max, IntKind.signed, IntKind.bits] at h
  omega
set_option maxHeartbeats 1000000 in
theorem crcShifts_walk (a0 a1 : Int) (w : World) (w0 : (Lit.int .u32 a0).wf = true) (w1 : (Lit.int .i64 a1).wf = true) (hT : Tab w) :
    Calls Tryd.prog 4 #[.int .u32 a0, .int .i64 a1] w fun e w' => e = .returned (.bool true) ∧ Below w.heap.size w w' := by
  obtain ⟨a, rfl⟩ : ∃ a : Nat, a0 = (a : Int) := Int.eq_ofNat_of_zero_le (wf_u32 w0).1
  have ha : a < 4294967296 := by have := (wf_u32 w0).2; omega
  clear w0 w1
  go_enter Tryd.func4, Tryd.ntmps4
  go_wp2_with fail
  refine (lives_any _ hT).mono ?_
  rintro e w1 ⟨rfl, hb1⟩
  go_wp2_with fail
  refine (shift_any a ha a1 _ (hT.below hb1)).mono ?_
  rintro e w' ⟨rfl, rfl⟩
  go_wp2_with fail
  refine (rshift_any a ha a1 _).mono ?_
  rintro e w' ⟨rfl, rfl⟩
  go_wp2
  go_ret
  exact ⟨rfl, hb1⟩
set_option maxHeartbeats 1000000 in
theorem crcSums_walk (a0 : Int) (a1 : Option Addr) (len1 cap1 : Nat) (z1 : List Int) (w : World) (w0 : (Lit.int .u32 a0).wf = true) (w1 : IsRow .u8 w a1 len1 cap1 z1) (hT : Tab w) :
    Calls Tryd.prog 3 #[.int .u32 a0, .slice a1 len1 cap1] w fun e w' => e = .returned (.bool true) ∧ Below w.heap.size w w' := by
  obtain ⟨a, rfl⟩ : ∃ a : Nat, a0 = (a : Int) := Int.eq_ofNat_of_zero_le (wf_u32 w0).1
  have ha : a < 4294967296 := by have := (wf_u32 w0).2; omega
  obtain ⟨l, hA, hl, hc, hm⟩ := w1.rd
  unfold maxLen at hm
  clear w0 w1
  by_cases hbig : 65536 < len1
  · have hbig' : (65536 : Int) < (len1 : Int) := by omega
    go_enter Tryd.func3, Tryd.ntmps3
    go_wp2_with fail
    refine (lives_any _ hT).mono ?_
    rintro e w1 ⟨rfl, hb1⟩
    go_wp2
    go_ret
    exact ⟨rfl, hb1⟩
  · have hbig' : (len1 : Int) ≤ (65536 : Int) := by omega
    go_enter Tryd.func3, Tryd.ntmps3
    go_wp2_with fail
    refine (lives_any _ hT).mono ?_
    rintro e w1 ⟨rfl, hb1⟩
    go_wp2_with fail
    refine (copied_any _ _ _ l _ (hA.below hb1) (by omega)).mono ?_
    rintro e w2 ⟨v2, rfl, hown2, hb2⟩
    obtain ⟨A2, c2, rfl, hc2, hm2, hr2⟩ := own_rd hown2
    have B2 := hb1.trans (hb2.mono hb1.size)
    go_wp2_with fail
    refine (sum_any a ha _ _ _ l _ (hT.below B2) hr2 hl (by omega)).mono ?_
    rintro e w' ⟨rfl, rfl⟩
    go_wp2_with fail
    refine (rsum_any a ha _ _ _ l _ (hA.below B2) hl (by omega)).mono ?_
    rintro e w' ⟨rfl, rfl⟩
    go_wp2
    go_ret
    exact ⟨rfl, B2⟩
end Go.Proofs.YtgaecbpkfppeeaaDoor
