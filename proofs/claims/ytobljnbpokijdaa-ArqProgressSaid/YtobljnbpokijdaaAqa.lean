/-
  The walks of the checks of packets and PDUs that the package arq calls: bit, Check, CheckPacket, Blank, IsBlank. Each function's contract.
-/
import Derived.Test.YtobljnbpokijdaaRows
import Derived.Test.YtobljnbpokijdaaMem
import Derived.WalkKit
import Derived.WalkSpells
import Derived.WalkLawsBesides
import Derived.Outline
namespace Go.Proofs.Ytobljnbpokijdaa
set_option linter.unusedVariables false
set_option linter.unusedSimpArgs false
open Go.RowKit

/-- A bit. -/
def dok (x : Int) : Bool := x == 0 || x == 1
/-- What is answered to a packet, and to a PDU. -/
def dpk (id : Int) (n : Nat) : Nat := if id < 1 ∨ 3 < id then 12 else if n = 0 ∧ id ≠ 1 then 1 else if 255 < n then 4 else 0
def dchk (sn ne md id : Int) (n : Nat) : Nat := if dok sn && dok ne && dok md then dpk id n else 5
theorem dchk_bad {sn ne md id : Int} {n : Nat} (h : (dok sn && dok ne && dok md) = false) : dchk sn ne md id n = 5 := by unfold dchk; rw [h]; rfl
theorem dchk_ok {sn ne md id : Int} {n : Nat} (h1 : dok sn = true) (h2 : dok ne = true) (h3 : dok md = true) : dchk sn ne md id n = dpk id n := by unfold dchk; rw [h1, h2, h3]; rfl
theorem dpk_cases (id : Int) (n : Nat) : (id < 1 ∧ dpk id n = 12) ∨ (1 ≤ id ∧ 3 < id ∧ dpk id n = 12) ∨ (1 ≤ id ∧ id ≤ 3 ∧ n = 0 ∧ id ≠ 1 ∧ dpk id n = 1) ∨ (id = 1 ∧ n = 0 ∧ dpk id n = 0) ∨
    (1 ≤ id ∧ id ≤ 3 ∧ 0 < n ∧ 255 < n ∧ dpk id n = 4) ∨ (1 ≤ id ∧ id ≤ 3 ∧ 0 < n ∧ n ≤ 255 ∧ dpk id n = 0) := by
  unfold dpk
  split
  · omega
  · split
    · omega
    · split <;> omega
theorem bit_any (n : Int) (w : World) : Calls Try.prog 33 #[.int .i64 n] w fun e w' => e = .returned (.bool (dok n)) ∧ w = w' := by
  rcases (show n = 0 ∨ n = 1 ∨ (n ≠ 0 ∧ n ≠ 1) by omega) with rfl | rfl | ⟨h0, h1⟩
  · go_enter Try.func33, Try.ntmps33
    go_wp2
    go_ret
    exact ⟨rfl, rfl⟩
  · go_enter Try.func33, Try.ntmps33
    go_wp2
    go_ret
    exact ⟨rfl, rfl⟩
  · have e0 : (n == 0) = false := by rw [beq_eq_false_iff_ne]; exact h0
    have e1 : (n == 1) = false := by rw [beq_eq_false_iff_ne]; exact h1
    have HD := hide (show dok n = false by unfold dok; rw [e0, e1]; rfl)
    clear h0 h1
    go_enter Try.func33, Try.ntmps33
    go_wp2
    go_ret
    exact ⟨ret_bool HD.out.symm, rfl⟩
theorem rbit_any (n : Int) (w : World) : Calls Try.prog 35 #[.int .i64 n] w fun e w' => e = .returned (.bool (dok n)) ∧ w = w' := by
  rcases (show n = 0 ∨ n = 1 ∨ (n ≠ 0 ∧ n ≠ 1) by omega) with rfl | rfl | ⟨h0, h1⟩
  · go_enter Try.func35, Try.ntmps35
    go_wp2
    go_ret
    exact ⟨rfl, rfl⟩
  · go_enter Try.func35, Try.ntmps35
    go_wp2
    go_ret
    exact ⟨rfl, rfl⟩
  · have e0 : (n == 0) = false := by rw [beq_eq_false_iff_ne]; exact h0
    have e1 : (n == 1) = false := by rw [beq_eq_false_iff_ne]; exact h1
    have HD := hide (show dok n = false by unfold dok; rw [e0, e1]; rfl)
    clear h0 h1
    go_enter Try.func35, Try.ntmps35
    go_wp2
    go_ret
    exact ⟨ret_bool HD.out.symm, rfl⟩
set_option maxHeartbeats 1000000 in
theorem rpacket_any (id : Int) (A : Option Addr) (n c : Nat) (w : World) :
    Calls Try.prog 36 #[.agg #[.int .i64 id, .slice A n c]] w fun e w' => e = .returned (.int .i64 ((dpk id n : Nat) : Int)) ∧ Below w.heap.size w w' := by
  have hB : Below w.heap.size w (w.alloc (.cells #[.int .i64 id, .slice A n c] 30)) := (Below.refl _ _).alloc (Nat.le_refl _) _
  rcases dpk_cases id n with ⟨h, e⟩ | ⟨h, h', e⟩ | ⟨h, h', rfl, h2, e⟩ | ⟨rfl, rfl, e⟩ | ⟨h, h', h0, h2, e⟩ | ⟨h, h', h0, h2, e⟩
  all_goals
    rw [e]
    clear e
    try have h3 : (255 : Int) < (n : Int) := by omega
    try have h3 : (n : Int) ≤ 255 := by omega
    try have h4 : (0 : Int) < (n : Int) := by omega
    try have h5 : ((n : Int) == 0) = false := by rw [beq_eq_false_iff_ne]; omega
    go_enter Try.func36, Try.ntmps36
    go_wp2
    go_ret
    exact ⟨rfl, hB⟩
set_option maxHeartbeats 2000000 in
theorem check_any (sn ne md id : Int) (A : Option Addr) (n c : Nat) (w : World) :
    Calls Try.prog 28 #[.agg #[.int .i64 sn, .int .i64 ne, .int .i64 md, .int .i64 id, .slice A n c]] w fun e w' => e = .returned (.int .i64 ((dchk sn ne md id n : Nat) : Int)) ∧ Below w.heap.size w w' := by
  have hB : Below w.heap.size w (w.alloc (.cells #[.int .i64 sn, .int .i64 ne, .int .i64 md, .int .i64 id, .slice A n c] 32)) := (Below.refl _ _).alloc (Nat.le_refl _) _
  rcases (show (dok sn = false) ∨ (dok sn = true ∧ dok ne = false) ∨ (dok sn = true ∧ dok ne = true ∧ dok md = false) ∨ (dok sn = true ∧ dok ne = true ∧ dok md = true) from by
    cases dok sn <;> cases dok ne <;> cases dok md <;> simp) with h | ⟨h, h1⟩ | ⟨h, h1, h2⟩ | ⟨h, h1, h2⟩
  · rw [dchk_bad (by rw [h]; rfl)]
    go_enter Try.func28, Try.ntmps28
    go_wp2_with (go_at_call 33; refine (bit_any _ _).mono ?_; rintro e w' ⟨rfl, rfl⟩)
    go_ret
    exact ⟨rfl, hB⟩
  · rw [dchk_bad (by rw [h, h1]; rfl)]
    go_enter Try.func28, Try.ntmps28
    go_wp2_with (go_at_call 33; refine (bit_any _ _).mono ?_; rintro e w' ⟨rfl, rfl⟩)
    go_ret
    exact ⟨rfl, hB⟩
  · rw [dchk_bad (by rw [h, h1, h2]; rfl)]
    go_enter Try.func28, Try.ntmps28
    go_wp2_with (go_at_call 33; refine (bit_any _ _).mono ?_; rintro e w' ⟨rfl, rfl⟩)
    go_ret
    exact ⟨rfl, hB⟩
  · rw [dchk_ok h h1 h2]
    rcases dpk_cases id n with ⟨i1, e⟩ | ⟨i1, i2, e⟩ | ⟨i1, i2, rfl, i3, e⟩ | ⟨rfl, rfl, e⟩ | ⟨i1, i2, i0, i3, e⟩ | ⟨i1, i2, i0, i3, e⟩
    all_goals
      rw [e]
      clear e
      try have h3 : (255 : Int) < (n : Int) := by omega
      try have h3 : (n : Int) ≤ 255 := by omega
      try have h4 : (0 : Int) < (n : Int) := by omega
      try have h5 : ((n : Int) == 0) = false := by rw [beq_eq_false_iff_ne]; omega
      go_enter Try.func28, Try.ntmps28
      go_wp2_with (go_at_call 33; refine (bit_any _ _).mono ?_; rintro e w' ⟨rfl, rfl⟩)
      go_ret
      exact ⟨rfl, hB⟩
set_option maxHeartbeats 2000000 in
theorem rcheck_any (sn ne md id : Int) (A : Option Addr) (n c : Nat) (w : World) :
    Calls Try.prog 31 #[.agg #[.int .i64 sn, .int .i64 ne, .int .i64 md, .int .i64 id, .slice A n c]] w fun e w' => e = .returned (.int .i64 ((dchk sn ne md id n : Nat) : Int)) ∧ Below w.heap.size w w' := by
  have hB : Below w.heap.size w (w.alloc (.cells #[.int .i64 sn, .int .i64 ne, .int .i64 md, .int .i64 id, .slice A n c] 32)) := (Below.refl _ _).alloc (Nat.le_refl _) _
  rcases (show (dok sn = false) ∨ (dok sn = true ∧ dok ne = false) ∨ (dok sn = true ∧ dok ne = true ∧ dok md = false) ∨ (dok sn = true ∧ dok ne = true ∧ dok md = true) from by
    cases dok sn <;> cases dok ne <;> cases dok md <;> simp) with h | ⟨h, h1⟩ | ⟨h, h1, h2⟩ | ⟨h, h1, h2⟩
  · rw [dchk_bad (by rw [h]; rfl)]
    go_enter Try.func31, Try.ntmps31
    go_wp2_with (go_at_call 35; refine (rbit_any _ _).mono ?_; rintro e w' ⟨rfl, rfl⟩)
    go_ret
    exact ⟨rfl, hB⟩
  · rw [dchk_bad (by rw [h, h1]; rfl)]
    go_enter Try.func31, Try.ntmps31
    go_wp2_with (go_at_call 35; refine (rbit_any _ _).mono ?_; rintro e w' ⟨rfl, rfl⟩)
    go_ret
    exact ⟨rfl, hB⟩
  · rw [dchk_bad (by rw [h, h1, h2]; rfl)]
    go_enter Try.func31, Try.ntmps31
    go_wp2_with (go_at_call 35; refine (rbit_any _ _).mono ?_; rintro e w' ⟨rfl, rfl⟩)
    go_ret
    exact ⟨rfl, hB⟩
  · rw [dchk_ok h h1 h2]
    go_enter Try.func31, Try.ntmps31
    go_wp2_with (go_at_call 35; refine (rbit_any _ _).mono ?_; rintro e w' ⟨rfl, rfl⟩)
    refine (rpacket_any id A n c _).mono ?_
    rintro e w2 ⟨rfl, hb2⟩
    go_wp2
    go_ret
    exact ⟨rfl, hB.trans (hb2.mono hB.size)⟩
/-- An empty packet. -/
def dblank (id : Int) (n : Nat) : Bool := id == 1 && (n : Int) == 0
theorem blank_any (id : Int) (A : Option Addr) (n c : Nat) (w : World) :
    Calls Try.prog 27 #[.agg #[.int .i64 id, .slice A n c]] w fun e w' => e = .returned (.bool (dblank id n)) ∧ Below w.heap.size w w' := by
  have hB : Below w.heap.size w (w.alloc (.cells #[.int .i64 id, .slice A n c] 30)) := (Below.refl _ _).alloc (Nat.le_refl _) _
  rcases (show dblank id n = true ∧ id = 1 ∧ n = 0 ∨ dblank id n = false ∧ id ≠ 1 ∨ dblank id n = false ∧ id = 1 ∧ n ≠ 0 from by
    unfold dblank
    by_cases h : id = 1
    · subst h
      by_cases h' : n = 0
      · subst h'; simp
      · right; right; refine ⟨?_, rfl, h'⟩; simp; omega
    · right; left; exact ⟨by simp [h], h⟩) with ⟨e, rfl, rfl⟩ | ⟨e, h⟩ | ⟨e, rfl, h⟩
  all_goals
    rw [e]
    clear e
    try have h1 : (id == 1) = false := by rw [beq_eq_false_iff_ne]; exact h
    try have h1 : ((n : Int) == 0) = false := by rw [beq_eq_false_iff_ne]; omega
    go_enter Try.func27, Try.ntmps27
    go_wp2
    go_ret
    exact ⟨rfl, hB⟩
theorem rblank_any (id : Int) (A : Option Addr) (n c : Nat) (w : World) :
    Calls Try.prog 30 #[.agg #[.int .i64 id, .slice A n c]] w fun e w' => e = .returned (.bool (dblank id n)) ∧ Below w.heap.size w w' := by
  have hB : Below w.heap.size w (w.alloc (.cells #[.int .i64 id, .slice A n c] 30)) := (Below.refl _ _).alloc (Nat.le_refl _) _
  rcases (show dblank id n = true ∧ id = 1 ∧ n = 0 ∨ dblank id n = false ∧ id ≠ 1 ∨ dblank id n = false ∧ id = 1 ∧ n ≠ 0 from by
    unfold dblank
    by_cases h : id = 1
    · subst h
      by_cases h' : n = 0
      · subst h'; simp
      · right; right; refine ⟨?_, rfl, h'⟩; simp; omega
    · right; left; exact ⟨by simp [h], h⟩) with ⟨e, rfl, rfl⟩ | ⟨e, h⟩ | ⟨e, rfl, h⟩
  all_goals
    rw [e]
    clear e
    try have h1 : (id == 1) = false := by rw [beq_eq_false_iff_ne]; exact h
    try have h1 : ((n : Int) == 0) = false := by rw [beq_eq_false_iff_ne]; omega
    go_enter Try.func30, Try.ntmps30
    go_wp2
    go_ret
    exact ⟨rfl, hB⟩
end Go.Proofs.Ytobljnbpokijdaa
