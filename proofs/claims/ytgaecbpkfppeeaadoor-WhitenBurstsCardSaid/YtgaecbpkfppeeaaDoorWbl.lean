/-
  The examples that each statement on whitening asks for first: 'lives' returns true.
-/
import Derived.Test.YtgaecbpkfppeeaaDoorWbb
import Derived.Test.YtgaecbpkfppeeaaDoorCrl
namespace Go.Proofs.YtgaecbpkfppeeaaDoor.Wh

set_option linter.unusedVariables false
set_option linter.unusedSimpArgs false
open Go.RowKit Go.Proofs.YtgaecbpkfppeeaaDoor

set_option maxHeartbeats 1000000 in
theorem lives_any (w : World) :
    Calls Tryd.prog 22 #[] w fun e w' => e = .returned (.bool true) ∧ Below w.heap.size w w' := by
  go_enter Tryd.func22, Tryd.ntmps22
  go_wp2_with fail
  refine (state_any 0 8 _).mono ?_
  rintro e w' ⟨rfl, rfl⟩
  rw [show wstate 0 8 = 35 by decide +kernel]
  go_wp2_with fail
  refine (state_any 0 (-1) _).mono ?_
  rintro e w' ⟨rfl, rfl⟩
  rw [show wstate 0 (-1) = 64 by decide +kernel]
  go_wp2_with fail
  refine (state_any 37 1 _).mono ?_
  rintro e w' ⟨rfl, rfl⟩
  rw [show wstate 37 1 = 91 by decide +kernel]
  go_wp2_with fail
  refine (state_any 99 0 _).mono ?_
  rintro e w' ⟨rfl, rfl⟩
  rw [show wstate 99 0 = 103 by decide +kernel]
  go_wp2_with fail
  refine (stream_any 0 2 _).mono ?_
  rintro e w1 ⟨A1, c1, rfl, hr1, hb1⟩
  rw [show wlen 2 = 2 by decide +kernel] at hr1 ⊢
  rw [show wseq 2 (wfirst 0) = [201, 242] by decide +kernel] at hr1
  go_wp2_with fail
  refine (same_any _ _ _ _ _ _ [201, 242] [201, 242] _ (hr1.alloc _) (rd_const w1 _ [201, 242] 2 rfl) (by decide) (by decide)).mono ?_
  rintro e w2 ⟨rfl, rfl⟩
  rw [show decide ([201, 242] = [201, 242]) = true by decide]
  go_wp2_with fail
  refine (stream_any 0 (-3) _).mono ?_
  rintro e w3 ⟨A3, c3, rfl, hr3, hb3⟩
  rw [show wlen (-3) = 0 by decide +kernel]
  go_wp2_with fail
  refine (apply_any 0 _ _ _ [0, 255] _ (rd_const w3 _ [0, 255] 2 rfl) (by decide) (by omega)).mono ?_
  rintro e w4 ⟨A4, c4, rfl, hc4, hr4, hb4⟩
  rw [show wapply 0 [0, 255] = [201, 13] by decide +kernel] at hr4
  go_wp2_with fail
  refine (same_any _ _ _ _ _ _ [201, 13] [201, 13] _ (hr4.alloc _) (rd_const w4 _ [201, 13] 2 rfl) (by decide) (by decide)).mono ?_
  rintro e w5 ⟨rfl, rfl⟩
  rw [show decide ([201, 13] = [201, 13]) = true by decide]
  go_wp2
  go_ret
  refine ⟨rfl, ?_⟩
  have s1 := hb1.size
  have s3 := hb3.size
  have s4 := hb4.size
  simp at s3 s4
  have b1 := hb1.alloc s1 (.cells (bv [201, 242]).toArray 5)
  have b3 := (b1.trans (hb3.mono (by simp; omega))).alloc (by omega) (.cells (bv [0, 255]).toArray 5)
  exact (b3.trans (hb4.mono (by simp; omega))).alloc (by omega) _
end Go.Proofs.YtgaecbpkfppeeaaDoor.Wh
