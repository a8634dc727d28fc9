/-
  The walks of the small functions under package instant and its reference: serial numbers, Plan, Check.
-/
import Derived.Test.YtbpfloalncapcaaRows
import Derived.Test.YtbpfloalncapcaaMem
import Derived.WalkKit
import Derived.WalkSpells
import Derived.WalkLawsBesides
import Derived.Outline
namespace Go.Proofs.Ytbpfloalncapcaa
set_option linter.unusedVariables false
set_option linter.unusedSimpArgs false
open Go.RowKit

/-- Has the instant come? -/
def came (now inst : Nat) : Bool := decide ((now + 65536 - inst) % 65536 < 32768)
theorem wrap_i16' (n : Int) : IntKind.i16.wrap n = (n + 32768) % 65536 - 32768 := by
  simp [IntKind.wrap, IntKind.bits, IntKind.signed]
  split <;> omega
set_option maxHeartbeats 400000 in
theorem passed_any (a b : Nat) (ha : a < 65536) (hb : b < 65536) (w : World) :
    Calls Try.prog 22 #[.int .u16 (a : Int), .int .u16 (b : Int)] w fun e w' => e = .returned (.bool (came a b)) ∧ w = w' := by
  go_enter Try.func22, Try.ntmps22
  go_wp2
  go_ret
  exact ⟨ret_bool (by unfold came; rw [decide_eq_decide]; simp only [wrap64, wrap_i16', IntKind.wrap_u16]; omega), rfl⟩
set_option maxHeartbeats 400000 in
theorem rpassed_any (a b : Nat) (ha : a < 65536) (hb : b < 65536) (w : World) :
    Calls Try.prog 23 #[.int .u16 (a : Int), .int .u16 (b : Int)] w fun e w' => e = .returned (.bool (came a b)) ∧ w = w' := by
  go_enter Try.func23, Try.ntmps23
  go_wp2
  all_goals (go_ret; exact ⟨ret_bool (by unfold came; rw [decide_eq_decide]; omega), rfl⟩)
set_option maxHeartbeats 400000 in
theorem sadd_any (a : Nat) (n : Int) (ha : a < 65536) (h0 : 0 ≤ n) (h1 : n < 65536) (w : World) :
    Calls Try.prog 20 #[.int .u16 (a : Int), .int .i64 n] w fun e w' => e = .returned (.int .u16 ((((a : Int) + n) % 65536))) ∧ w = w' := by
  go_enter Try.func20, Try.ntmps20
  go_wp2
  go_ret
  exact ⟨ret_int (by simp only [IntKind.wrap_u16]), rfl⟩
set_option maxHeartbeats 400000 in
theorem rsadd_any (a : Nat) (n : Int) (ha : a < 65536) (h0 : 0 ≤ n) (h1 : n < 65536) (w : World) :
    Calls Try.prog 21 #[.int .u16 (a : Int), .int .i64 n] w fun e w' => e = .returned (.int .u16 ((((a : Int) + n) % 65536))) ∧ w = w' := by
  go_enter Try.func21, Try.ntmps21
  go_wp2
  go_ret
  exact ⟨rfl, rfl⟩
/-- By how much the instant is ahead, besides 6. -/
def lat (n : Int) : Int := min (max n 0) 499
/-- The instant that is planned. -/
def plan (a : Nat) (n : Int) : Nat := (((a : Int) + (6 + lat n)) % 65536).toNat
theorem plan_lt (a : Nat) (n : Int) : plan a n < 65536 := by unfold plan; omega
theorem plan_int (a : Nat) (n : Int) : ((plan a n : Nat) : Int) = ((a : Int) + (6 + lat n)) % 65536 := by unfold plan; omega
set_option maxHeartbeats 400000 in
theorem plan_any (a : Nat) (n : Int) (ha : a < 65536) (w : World) :
    Calls Try.prog 10 #[.int .u16 (a : Int), .int .i64 n] w fun e w' => e = .returned (.int .u16 ((plan a n : Nat) : Int)) ∧ w = w' := by
  have hc : (n < 0 ∧ 6 + lat n = 6) ∨ (499 < n ∧ 6 + lat n = 505) ∨ (0 ≤ n ∧ n ≤ 499 ∧ 6 + lat n = 6 + n) := by unfold lat; omega
  have hp := hide (plan_int a n)
  rcases hc with ⟨h, hl⟩ | ⟨h, hl⟩ | ⟨h, h', hl⟩
  all_goals
    have HL := hide hl
    clear hl
    go_enter Try.func10, Try.ntmps10
    go_wp2_with fail
    refine (sadd_any a _ ha (by omega) (by omega) _).mono ?_
    rintro e w' ⟨rfl, rfl⟩
    go_wp2
    go_ret
    exact ⟨ret_int (by rw [hp.out, HL.out]), rfl⟩
set_option maxHeartbeats 400000 in
theorem rplan_any (a : Nat) (n : Int) (ha : a < 65536) (w : World) :
    Calls Try.prog 11 #[.int .u16 (a : Int), .int .i64 n] w fun e w' => e = .returned (.int .u16 ((plan a n : Nat) : Int)) ∧ w = w' := by
  have hc : (n ≤ 0 ∧ 6 + lat n = 6) ∨ (499 < n ∧ 6 + lat n = 505) ∨ (0 < n ∧ n ≤ 499 ∧ 6 + lat n = 6 + n) := by unfold lat; omega
  have hp := hide (plan_int a n)
  rcases hc with ⟨h, hl⟩ | ⟨h, hl⟩ | ⟨h, h', hl⟩
  all_goals
    have HL := hide hl
    clear hl
    go_enter Try.func11, Try.ntmps11
    go_wp2_with fail
    refine (rsadd_any a _ ha (by omega) (by omega) _).mono ?_
    rintro e w' ⟨rfl, rfl⟩
    go_wp2
    go_ret
    exact ⟨ret_int (by rw [hp.out, HL.out]), rfl⟩

/-- What Check answers. -/
def ck (a : Nat) (k : Int) (i : Nat) : Int := if k = 0 ∨ k = 1 then (if came a i then 18 else 0) else 12
theorem ck_in (a : Nat) (k : Int) (i : Nat) : 0 ≤ ck a k i ∧ ck a k i ≤ 18 := by unfold ck; split <;> (try split) <;> omega
set_option maxHeartbeats 800000 in
theorem check_any (a : Nat) (k : Int) (i : Nat) (x0 x1 x2 x3 x4 m : Int) (ha : a < 65536) (hi : i < 65536) (w : World) :
    Calls Try.prog 12 #[.int .u16 (a : Int), .agg #[.int .i64 k, .int .u16 (i : Int), .int .i64 x0, .int .i64 x1, .int .i64 x2, .int .i64 x3, .int .i64 x4, .int .u64 m]] w fun e w' => e = .returned (.int .i64 (ck a k i)) ∧ Below w.heap.size w w' := by
  by_cases h0 : k = 0
  · subst h0
    cases hc : came a i
    all_goals
      have HF := hide (show ck a 0 i = _ from by unfold ck; rw [if_pos (by omega), hc])
      have HC := hide hc
      clear hc
      go_enter Try.func12, Try.ntmps12
      go_wp2_with fail
      refine (passed_any a i ha hi _).mono ?_
      rintro e w' ⟨rfl, rfl⟩
      rw [HC.out]
      go_wp2
      go_ret
      exact ⟨ret_int (by rw [HF.out]; rfl), (Below.refl _ _).alloc (Nat.le_refl _) _⟩
  by_cases h1 : k = 1
  · subst h1
    cases hc : came a i
    all_goals
      have HF := hide (show ck a 1 i = _ from by unfold ck; rw [if_pos (by omega), hc])
      have HC := hide hc
      clear hc
      go_enter Try.func12, Try.ntmps12
      go_wp2_with fail
      refine (passed_any a i ha hi _).mono ?_
      rintro e w' ⟨rfl, rfl⟩
      rw [HC.out]
      go_wp2
      go_ret
      exact ⟨ret_int (by rw [HF.out]; rfl), (Below.refl _ _).alloc (Nat.le_refl _) _⟩
  have HF := hide (show ck a k i = 12 from by unfold ck; rw [if_neg (by omega)])
  have e0 : (k != 0) = true := by rw [bne_iff_ne]; omega
  have e1 : (k != 1) = true := by rw [bne_iff_ne]; omega
  go_enter Try.func12, Try.ntmps12
  go_wp2
  go_ret
  exact ⟨ret_int (by rw [HF.out]), (Below.refl _ _).alloc (Nat.le_refl _) _⟩
set_option maxHeartbeats 800000 in
theorem rcheck_any (a : Nat) (k : Int) (i : Nat) (x0 x1 x2 x3 x4 m : Int) (ha : a < 65536) (hi : i < 65536) (w : World) :
    Calls Try.prog 13 #[.int .u16 (a : Int), .agg #[.int .i64 k, .int .u16 (i : Int), .int .i64 x0, .int .i64 x1, .int .i64 x2, .int .i64 x3, .int .i64 x4, .int .u64 m]] w fun e w' => e = .returned (.int .i64 (ck a k i)) ∧ Below w.heap.size w w' := by
  by_cases h0 : k = 0
  · subst h0
    cases hc : came a i
    all_goals
      have HF := hide (show ck a 0 i = _ from by unfold ck; rw [if_pos (by omega), hc])
      have HC := hide hc
      clear hc
      go_enter Try.func13, Try.ntmps13
      go_wp2_with fail
      refine (rpassed_any a i ha hi _).mono ?_
      rintro e w' ⟨rfl, rfl⟩
      rw [HC.out]
      go_wp2
      go_ret
      exact ⟨ret_int (by rw [HF.out]; rfl), (Below.refl _ _).alloc (Nat.le_refl _) _⟩
  by_cases h1 : k = 1
  · subst h1
    cases hc : came a i
    all_goals
      have HF := hide (show ck a 1 i = _ from by unfold ck; rw [if_pos (by omega), hc])
      have HC := hide hc
      clear hc
      go_enter Try.func13, Try.ntmps13
      go_wp2_with fail
      refine (rpassed_any a i ha hi _).mono ?_
      rintro e w' ⟨rfl, rfl⟩
      rw [HC.out]
      go_wp2
      go_ret
      exact ⟨ret_int (by rw [HF.out]; rfl), (Below.refl _ _).alloc (Nat.le_refl _) _⟩
  have HF := hide (show ck a k i = 12 from by unfold ck; rw [if_neg (by omega)])
  have e0 : (k != 0) = true := by rw [bne_iff_ne]; omega
  have e1 : (k != 1) = true := by rw [bne_iff_ne]; omega
  go_enter Try.func13, Try.ntmps13
  go_wp2
  go_ret
  exact ⟨ret_int (by rw [HF.out]), (Below.refl _ _).alloc (Nat.le_refl _) _⟩
end Go.Proofs.Ytbpfloalncapcaa
