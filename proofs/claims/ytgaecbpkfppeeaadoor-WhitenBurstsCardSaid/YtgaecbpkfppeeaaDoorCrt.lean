/-
  What the listed variable gives the walks: the table's cells; and the door's own heap meets the condition.
-/
import Derived.Test.YtgaecbpkfppeeaaDoorCra
import Derived.ProofKit
import Derived.LaidMore
import Derived.OpenShut
import Derived.Stop.Joined
import Derived.Lib.LaidTab
namespace Go.Proofs.YtgaecbpkfppeeaaDoor
set_option linter.unusedVariables false
open Go.RowKit

theorem own : ownKnob Tryd.prog.godebug = none := by kernel_rfl
theorem laidOut : laidOutB Tryd.prog = true := by kernel_rfl
theorem gSums : Tryd.prog.globalNamed "wireless/crc.sums" = some 0 := by kernel_rfl
theorem tSums : (Tryd.prog.globals[0]?).map (·.type) = some 52 := by kernel_rfl
def sumsInts : List Int := [0, 1788928, 3577856, 3003392, 7155712, 7764992, 6006784, 4252672, 14311424, 12659712, 15529984, 16233472, 12013568, 11279360, 8505344, 10126336]
theorem tab_of_laid {W : World} (h : laidMetH Tryd.prog [("wireless/crc.sums", Rows.laid_wireless_crc_sums)] W) : Tab W := by
  rw [MakeChecks.laidMetH_plain _ _ _ (by kernel_rfl)] at h
  have ht : Lib.TabIs Tryd.prog W "wireless/crc.sums" .u32 sumsInts := Lib.tabIs_of_head (zs := sumsInts) gSums tSums Tryd.underlying52 Tryd.underlying22 (by kernel_rfl) (by kernel_rfl) h
  have hc : ∀ i, i < 16 → W.cell? ⟨0, i, none⟩ = some (.int .u32 ((ctab.getD i 0 : Nat) : Int)) := by
    intro i hi
    rw [ht.cell gSums i hi]
    have : ∀ i : Fin 16, sumsInts.getD i.1 0 = ((ctab.getD i.1 0 : Nat) : Int) := by decide
    rw [this ⟨i, hi⟩]
  exact ⟨World.block_lt_of_cell? W ⟨0, 0, none⟩ (hc 0 (by omega)), hc⟩
theorem door_met (os : Os) (args : Array Value) : laidMetH Tryd.prog [("wireless/crc.sums", Rows.laid_wireless_crc_sums)] ((World.doorLaid Tryd.prog 14 os).forCall (fun _ _ => 0) ⟨#[], args, []⟩).memory :=
  laidMetH_of_parts3 (fuel := 8) (laidMet_of_run' 8 (by kernel_rfl) (by kernel_rfl)) (by kernel_rfl) (by kernel_rfl)
end Go.Proofs.YtgaecbpkfppeeaaDoor
