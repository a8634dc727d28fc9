/-
  The walks of package whiten's and its reference's small functions: step, first, State. Each function's contract.
-/
import Derived.Test.YtgaecbpkfppeeaaDoorRows
import Derived.Test.YtgaecbpkfppeeaaDoorWbp
import Derived.Test.YtgaecbpkfppeeaaDoorMem
import Derived.Test.YtgaecbpkfppeeaaDoorCrb
import Derived.WalkKit
import Derived.WalkSpells
import Derived.WalkLawsBesides
import Derived.Outline
import Derived.Deep.RegionLaw
namespace Go.Proofs.YtgaecbpkfppeeaaDoor.Wh

set_option linter.unusedVariables false
set_option linter.unusedSimpArgs false
open Go.RowKit Go.Proofs.YtgaecbpkfppeeaaDoor

theorem wst_bits (r : Nat) (hr : r < 128) (h : 64 ≤ r) : bits BinOp.xor IntKind.i64 (bits BinOp.and IntKind.i64 ((r : Int) * 2) 127) 17 = ((wst r : Nat) : Int) := by
  have : ∀ r : Fin 128, 64 ≤ r.1 → bits BinOp.xor IntKind.i64 (bits BinOp.and IntKind.i64 (((r.1 : Nat) : Int) * 2) 127) 17 = ((wst r.1 : Nat) : Int) := by decide +kernel
  exact this ⟨r, hr⟩ h
theorem wst_low (r : Nat) (h : r < 64) : wst r = 2 * r := by unfold wst; rw [if_pos h]

set_option maxHeartbeats 400000 in
theorem step_any (r : Nat) (hr : r < 128) (w : World) :
    Calls Tryd.prog 35 #[.int .i64 (r : Int)] w fun e w' => e = .returned (.tuple #[.int .i64 ((r / 64 : Nat) : Int), .int .i64 ((wst r : Nat) : Int)]) ∧ w = w' := by
  by_cases h : r < 64
  · go_enter Tryd.func35, Tryd.ntmps35
    go_wp2
    go_ret2
    exact ⟨ret_two (by omega) (by rw [wst_low r h]; omega), rfl⟩
  · go_enter Tryd.func35, Tryd.ntmps35
    go_wp2
    go_ret2
    exact ⟨ret_two (by omega) (wst_bits r hr (by omega)), rfl⟩
set_option maxHeartbeats 400000 in
theorem first_any (c : Int) (w : World) :
    Calls Tryd.prog 34 #[.int .i64 c] w fun e w' => e = .returned (.int .i64 ((wfirst c : Nat) : Int)) ∧ w = w' := by
  go_enter Tryd.func34, Tryd.ntmps34
  go_wp2
  all_goals (go_ret; exact ⟨ret_int (by unfold wfirst; split at * <;> omega), rfl⟩)
set_option maxHeartbeats 400000 in
theorem state_any (c n : Int) (w : World) :
    Calls Tryd.prog 31 #[.int .i64 c, .int .i64 n] w fun e w' => e = .returned (.int .i64 ((wstate c n : Nat) : Int)) ∧ w = w' := by
  obtain ⟨M, hM⟩ : ∃ M : Nat, M = wcut n % 127 := ⟨_, rfl⟩
  have hfin : wit M (wfirst c) = wstate c n := by rw [hM, wit_mod _ _ (wfirst_lt c)]; rfl
  have hc : (n < 0 ∧ (M : Int) ≤ 0) ∨ (524288 < n ∧ (M : Int) ≤ 32 ∧ 32 ≤ (M : Int)) ∨ (0 ≤ n ∧ n ≤ 524288 ∧ (M : Int) ≤ n % 127 ∧ n % 127 ≤ (M : Int)) := by
    rw [hM]; unfold wcut
    rcases (show n < 0 ∨ 524288 < n ∨ (0 ≤ n ∧ n ≤ 524288) from by omega) with h | h | ⟨h, h'⟩
    · exact .inl ⟨h, by omega⟩
    · exact .inr (.inl ⟨h, by omega, by omega⟩)
    · exact .inr (.inr ⟨h, h', by omega, by omega⟩)
  have HF := hide hfin
  clear hfin hM
  rcases hc with ⟨h, hM⟩ | ⟨h, hM, hM'⟩ | ⟨h, h', hM, hM'⟩
  all_goals
    go_enter Tryd.func31, Tryd.ntmps31
    go_wp2_with (go_at_call 34; refine (first_any _ _).mono ?_; rintro e w' ⟨rfl, rfl⟩)
    go_loop [5, 12] (fun r i => ∃ k : Nat, k ≤ M ∧ i = .int .i64 k ∧ r = .int .i64 ((wit k (wfirst c) : Nat) : Int)) (fun _ i => M - (intOf i).toNat)
    case atStart => exact ⟨0, Nat.zero_le _, rfl, rfl⟩
    case round =>
      obtain ⟨k, hk, rfl, rfl⟩ := hrel
      by_cases hlt : k < M
      · first
          | (exfalso; omega)
          | (go_wp2_with (go_at_call 35; refine (step_any _ (wit_lt _ _ (wfirst_lt c)) _).mono ?_; rintro e w' ⟨rfl, rfl⟩)
             go_round
             case rel => exact ⟨k + 1, by omega, by go_num, rfl⟩
             case measure => simp [intOf]; omega)
      · have hge : (M : Int) ≤ (k : Int) := by omega
        go_wp2
        go_ret
        exact ⟨ret_int (by rw [show k = M by omega, HF.out]), rfl⟩
end Go.Proofs.YtgaecbpkfppeeaaDoor.Wh
