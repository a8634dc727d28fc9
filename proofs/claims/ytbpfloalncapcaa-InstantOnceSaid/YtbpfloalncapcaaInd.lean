/-
  The walks of the statements on instants: each returns true, and nothing that was there is written.
-/
import Derived.Test.YtbpfloalncapcaaInc
namespace Go.Proofs.Ytbpfloalncapcaa
set_option linter.unusedVariables false
set_option linter.unusedSimpArgs false
open Go.RowKit

theorem wf_u16 {n : Int} (h : (Lit.int .u16 n).wf = true) : 0 ≤ n ∧ n < 65536 := by
  simp [Lit.wf, IntKind.min, IntKind.max, IntKind.signed, IntKind.bits] at h
  omega
/-- What is known of a list of changes that came in. -/
def ChgIn (w : World) (A : Option Addr) (n c : Nat) (l : List Chg) : Prop := Rd w 8 A n (chv l) ∧ (∀ x ∈ l, x.i < 65536) ∧ n ≤ c ∧ c ≤ maxLen
theorem boxed {w w' : World} {x : Chg} (h : Blk w' w.heap.size 31 #[.int .i64 x.k, .int .u16 (x.i : Int), .int .i64 x.x0, .int .i64 x.x1, .int .i64 x.x2, .int .i64 x.x3, .int .i64 x.x4, .int .u64 x.m]) (hB : Below w.heap.size w w') : w'.cell? ⟨w.heap.size, 0, none⟩ = some (.int .i64 x.k) ∧ w'.cell? ⟨w.heap.size, 1, none⟩ = some (.int .u16 (x.i : Int)) ∧ w'.cell? ⟨w.heap.size, 2, none⟩ = some (.int .i64 x.x0) ∧ w'.cell? ⟨w.heap.size, 3, none⟩ = some (.int .i64 x.x1) ∧ w'.cell? ⟨w.heap.size, 4, none⟩ = some (.int .i64 x.x2) ∧ w'.cell? ⟨w.heap.size, 5, none⟩ = some (.int .i64 x.x3) ∧ w'.cell? ⟨w.heap.size, 6, none⟩ = some (.int .i64 x.x4) ∧ w'.cell? ⟨w.heap.size, 7, none⟩ = some (.int .u64 x.m) ∧ Below w.heap.size w w' := by
  obtain ⟨p0, p1, p2, p3, p4, p5, p6, p7⟩ := at8_blk h
  exact ⟨p0, p1, p2, p3, p4, p5, p6, p7, hB⟩
set_option maxHeartbeats 2000000 in
theorem instantPlans_walk (a0 a1 : Int) (w : World) (w0 : (Lit.int .u16 a0).wf = true) (w1 : (Lit.int .i64 a1).wf = true) :
    Calls Try.prog 3 #[.int .u16 a0, .int .i64 a1] w fun e w' => e = .returned (.bool true) ∧ Below w.heap.size w w' := by
  obtain ⟨a, rfl⟩ : ∃ a : Nat, a0 = (a : Int) := Int.eq_ofNat_of_zero_le (wf_u16 w0).1
  have ha : a < 65536 := by have := (wf_u16 w0).2; omega
  clear w0
  clear w1
  go_enter Try.func3, Try.ntmps3
  go_wp2_with fail
  refine (lives_any _).mono ?_
  rintro e w1 ⟨rfl, hb1⟩
  go_wp2_with fail
  refine (plan_any a a1 ha _).mono ?_
  rintro e w' ⟨rfl, rfl⟩
  go_wp2_with fail
  refine (rplan_any a a1 ha _).mono ?_
  rintro e w' ⟨rfl, rfl⟩
  go_wp2
  go_ret
  exact ⟨rfl, hb1⟩
set_option maxHeartbeats 2000000 in
theorem instantChecks_walk (a0 : Int) (x : Chg) (w : World) (w0 : (Lit.int .u16 a0).wf = true) (hx : x.i < 65536) :
    Calls Try.prog 4 #[.int .u16 a0, .agg #[.int .i64 x.k, .int .u16 (x.i : Int), .int .i64 x.x0, .int .i64 x.x1, .int .i64 x.x2, .int .i64 x.x3, .int .i64 x.x4, .int .u64 x.m]] w fun e w' => e = .returned (.bool true) ∧ Below w.heap.size w w' := by
  obtain ⟨a, rfl⟩ : ∃ a : Nat, a0 = (a : Int) := Int.eq_ofNat_of_zero_le (wf_u16 w0).1
  have ha : a < 65536 := by have := (wf_u16 w0).2; omega
  clear w0
  have hbx : Blk (w.alloc (.cells #[.int .i64 x.k, .int .u16 (x.i : Int), .int .i64 x.x0, .int .i64 x.x1, .int .i64 x.x2, .int .i64 x.x3, .int .i64 x.x4, .int .u64 x.m] 31)) w.heap.size 31 #[.int .i64 x.k, .int .u16 (x.i : Int), .int .i64 x.x0, .int .i64 x.x1, .int .i64 x.x2, .int .i64 x.x3, .int .i64 x.x4, .int .u64 x.m] := Blk.new _ _ _
  have hB : Below w.heap.size w (w.alloc (.cells #[.int .i64 x.k, .int .u16 (x.i : Int), .int .i64 x.x0, .int .i64 x.x1, .int .i64 x.x2, .int .i64 x.x3, .int .i64 x.x4, .int .u64 x.m] 31)) := (Below.refl _ _).alloc (Nat.le_refl _) _
  have F0 := boxed hbx hB
  have D0 := boxed hbx.drew hB.drew
  go_enter Try.func4, Try.ntmps4
  go_wp2
  go_region_held3 (fun w' => w'.cell? ⟨w.heap.size, 0, none⟩ = some (.int .i64 x.k) ∧ w'.cell? ⟨w.heap.size, 1, none⟩ = some (.int .u16 (x.i : Int)) ∧ w'.cell? ⟨w.heap.size, 2, none⟩ = some (.int .i64 x.x0) ∧ w'.cell? ⟨w.heap.size, 3, none⟩ = some (.int .i64 x.x1) ∧ w'.cell? ⟨w.heap.size, 4, none⟩ = some (.int .i64 x.x2) ∧ w'.cell? ⟨w.heap.size, 5, none⟩ = some (.int .i64 x.x3) ∧ w'.cell? ⟨w.heap.size, 6, none⟩ = some (.int .i64 x.x4) ∧ w'.cell? ⟨w.heap.size, 7, none⟩ = some (.int .u64 x.m) ∧ Below w.heap.size w w') (first | assumption | exact F0 | exact D0 | exact F1 | exact F2 | exact F3) (first
    | (go_at_call 9; (with_reducible refine (lives_any _).mono ?_); rintro e w1 ⟨rfl, hb1⟩; have hbx1 := hbx.drew.below hb1 hbx.lt; have hB1 : Below w.heap.size w w1 := hB.drew.trans (hb1.mono hB.size); have F1 := boxed hbx1 hB1)
    | (go_at_call 12; (with_reducible refine (check_any a x.k x.i x.x0 x.x1 x.x2 x.x3 x.x4 x.m ha hx _).mono ?_); rintro e w2 ⟨rfl, hb2⟩; have hbx2 := hbx1.below hb2 hbx1.lt; have hB2 : Below w.heap.size w w2 := hB1.trans (hb2.mono hB1.size); have F2 := boxed hbx2 hB2)
    | (go_at_call 13; (with_reducible refine (rcheck_any a x.k x.i x.x0 x.x1 x.x2 x.x3 x.x4 x.m ha hx _).mono ?_); rintro e w3 ⟨rfl, hb3⟩; have hbx3 := hbx2.below hb3 hbx2.lt; have hB3 : Below w.heap.size w w3 := hB2.trans (hb3.mono hB2.size); have F3 := boxed hbx3 hB3))
  go_wp2
  go_ret
  exact ⟨rfl, hB3⟩
set_option maxHeartbeats 2000000 in
theorem instantDues_walk (A : Option Addr) (n c : Nat) (l : List Chg) (a0 : Int) (w : World) (h0 : ChgIn w A n c l) (w0 : (Lit.int .u16 a0).wf = true) :
    Calls Try.prog 6 #[.slice A n c, .int .u16 a0] w fun e w' => e = .returned (.bool true) ∧ Below w.heap.size w w' := by
  obtain ⟨a, rfl⟩ : ∃ a : Nat, a0 = (a : Int) := Int.eq_ofNat_of_zero_le (wf_u16 w0).1
  have ha : a < 65536 := by have := (wf_u16 w0).2; omega
  clear w0
  obtain ⟨hA, hl, hnc, hm⟩ := h0
  unfold maxLen at hm
  by_cases hbig : 100 < n
  · have hbig' : (100 : Int) < (n : Int) := by omega
    go_enter Try.func6, Try.ntmps6
    go_wp2_with fail
    refine (lives_any _).mono ?_
    rintro e w1 ⟨rfl, hb1⟩
    go_wp2
    go_ret
    exact ⟨rfl, hb1⟩
  · have hbig' : (n : Int) ≤ (100 : Int) := by omega
    go_enter Try.func6, Try.ntmps6
    go_wp2_with fail
    refine (lives_any _).mono ?_
    rintro e w1 ⟨rfl, hb1⟩
    have hA1 := hA.below hb1
    go_wp2_with fail
    refine (copied_any A n c l _ hA1 (by omega)).mono ?_
    rintro e w2 ⟨A2, c2, rfl, hc2, hr2, hb2⟩
    have hB := hb1.trans (hb2.mono hb1.size)
    go_wp2_with fail
    refine (due_any A2 n c2 a l _ hr2 (by omega) hc2 ha hl).mono ?_
    rintro e w3 ⟨R3, Q3, nr3, nq3, cr3, cq3, rfl, hrr, hrq, hb3⟩
    have hA3 := (hA1.below hb2).below hb3
    have hB := hB.trans (hb3.mono hB.size)
    go_wp2_with fail
    refine (rdue_any A n c a l _ hA3 (by omega) hnc ha hl).mono ?_
    rintro e w4 ⟨R4, Q4, nr4, nq4, cr4, cq4, rfl, hsr, hsq, hb4⟩
    have hrr := hrr.below hb4
    have hrq := hrq.below hb4
    have hB := hB.trans (hb4.mono hB.size)
    have hl1 := (dueL_le a l l.length)
    rw [List.take_length] at hl1
    have hlen := hA.clen
    have g1 := hrr.clen
    have g2 := hrq.clen
    have g3 := hsr.clen
    have g4 := hsq.clen
    have b1 : nr3 ≤ 1000000 := by omega
    have b2 : nq3 ≤ 1000000 := by omega
    have b3 : nr4 ≤ 1000000 := by omega
    have b4 : nq4 ≤ 1000000 := by omega
    clear g1 g2 g3 g4 hlen hl1
    go_wp2_with fail
    refine (same_any R3 R4 nr3 nr4 cr3 cr4 (restL a l) (restL a l) _ hrr hsr b1 b3).mono ?_
    rintro e w5 ⟨rfl, hb5⟩
    rw [decide_eq_true rfl]
    have hB := hB.trans (hb5.mono hB.size)
    go_wp2_with fail
    refine (same_any Q3 Q4 nq3 nq4 cq3 cq4 (dueL a l) (dueL a l) _ (hrq.below hb5) (hsq.below hb5) b2 b4).mono ?_
    rintro e w6 ⟨rfl, hb6⟩
    rw [decide_eq_true rfl]
    have hB := hB.trans (hb6.mono hB.size)
    go_wp2
    go_ret
    exact ⟨rfl, hB⟩
set_option maxHeartbeats 2000000 in
theorem instantAdds_walk (A : Option Addr) (n c : Nat) (l : List Chg) (a0 : Int) (x : Chg) (w : World) (h0 : ChgIn w A n c l) (w0 : (Lit.int .u16 a0).wf = true) (hx : x.i < 65536) :
    Calls Try.prog 5 #[.slice A n c, .int .u16 a0, .agg #[.int .i64 x.k, .int .u16 (x.i : Int), .int .i64 x.x0, .int .i64 x.x1, .int .i64 x.x2, .int .i64 x.x3, .int .i64 x.x4, .int .u64 x.m]] w fun e w' => e = .returned (.bool true) ∧ Below w.heap.size w w' := by
  obtain ⟨a, rfl⟩ : ∃ a : Nat, a0 = (a : Int) := Int.eq_ofNat_of_zero_le (wf_u16 w0).1
  have ha : a < 65536 := by have := (wf_u16 w0).2; omega
  clear w0
  obtain ⟨hA, hl, hnc, hm⟩ := h0
  unfold maxLen at hm
  have hbx : Blk (w.alloc (.cells #[.int .i64 x.k, .int .u16 (x.i : Int), .int .i64 x.x0, .int .i64 x.x1, .int .i64 x.x2, .int .i64 x.x3, .int .i64 x.x4, .int .u64 x.m] 31)) w.heap.size 31 #[.int .i64 x.k, .int .u16 (x.i : Int), .int .i64 x.x0, .int .i64 x.x1, .int .i64 x.x2, .int .i64 x.x3, .int .i64 x.x4, .int .u64 x.m] := Blk.new _ _ _
  have hB : Below w.heap.size w (w.alloc (.cells #[.int .i64 x.k, .int .u16 (x.i : Int), .int .i64 x.x0, .int .i64 x.x1, .int .i64 x.x2, .int .i64 x.x3, .int .i64 x.x4, .int .u64 x.m] 31)) := (Below.refl _ _).alloc (Nat.le_refl _) _
  by_cases hbig : 100 < n
  · have hbig' : (100 : Int) < (n : Int) := by omega
    go_enter Try.func5, Try.ntmps5
    go_wp2_with fail
    refine (lives_any _).mono ?_
    rintro e w1 ⟨rfl, hb1⟩
    go_wp2
    go_ret
    exact ⟨rfl, hB.trans (hb1.mono hB.size)⟩
  · have hbig' : (n : Int) ≤ (100 : Int) := by omega
    go_enter Try.func5, Try.ntmps5
    go_wp2_with fail
    refine (lives_any _).mono ?_
    rintro e w1 ⟨rfl, hb1⟩
    have hA1 := (hA.alloc _).below hb1
    have hbx := hbx.below hb1 hbx.lt
    have hB := hB.trans (hb1.mono hB.size)
    go_wp2_with fail
    have F1 := boxed hbx hB
    have D1 := boxed hbx.drew hB.drew
    go_region_held3 (fun w' => w'.cell? ⟨w.heap.size, 0, none⟩ = some (.int .i64 x.k) ∧ w'.cell? ⟨w.heap.size, 1, none⟩ = some (.int .u16 (x.i : Int)) ∧ w'.cell? ⟨w.heap.size, 2, none⟩ = some (.int .i64 x.x0) ∧ w'.cell? ⟨w.heap.size, 3, none⟩ = some (.int .i64 x.x1) ∧ w'.cell? ⟨w.heap.size, 4, none⟩ = some (.int .i64 x.x2) ∧ w'.cell? ⟨w.heap.size, 5, none⟩ = some (.int .i64 x.x3) ∧ w'.cell? ⟨w.heap.size, 6, none⟩ = some (.int .i64 x.x4) ∧ w'.cell? ⟨w.heap.size, 7, none⟩ = some (.int .u64 x.m) ∧ Below w.heap.size w w') (first | assumption | exact F1 | exact D1 | exact F2 | exact F3) (first
      | (go_at_call 15; (with_reducible refine (copied_any A n c l _ ?_ ?_).mono ?_); exact hA1.drew; omega; rintro e w2 ⟨A2, c2, rfl, hc2, hr2, hb2⟩; have hbx2 := hbx.drew.below hb2 hbx.lt; have hB2 : Below w.heap.size w w2 := hB.drew.trans (hb2.mono hB.size); have F2 := boxed hbx2 hB2)
      | (go_at_call 14; (with_reducible refine (add_any A2 n c2 a x l _ ?_ ?_ ?_ ?_).mono ?_); exact hr2; omega; exact ha; exact hx; rintro e w3 ⟨A3, n3, c3, rfl, hr3, hb3⟩; have hbx3 := hbx2.below hb3 hbx2.lt; have hB3 : Below w.heap.size w w3 := hB2.trans (hb3.mono hB2.size); have F3 := boxed hbx3 hB3))
    obtain ⟨p0, p1, p2, p3, p4, p5, p6, p7⟩ := at8_blk hbx3
    clear F1 D1 F2 F3
    go_wp2_with fail
    refine (radd_any A n c a x l _ (((hA1.drew.below hb2).below hb3)) (by omega) ha hx).mono ?_
    rintro e w4 ⟨A4, n4, c4, rfl, hr4, hb4⟩
    have hB4 := hB3.trans (hb4.mono hB3.size)
    have hl1 : (addL a x l).1.length ≤ l.length + 1 := by unfold addL; split <;> (try split) <;> simp
    have hlen := hA.clen
    have g1 := hr3.clen
    have g2 := hr4.clen
    have b1 : n3 ≤ 1000000 := by omega
    have b2 : n4 ≤ 1000000 := by omega
    clear g1 g2 hl1 hlen p0 p1 p2 p3 p4 p5 p6 p7
    go_wp2_with fail
    refine (same_any A3 A4 n3 n4 c3 c4 _ _ _ (hr3.below hb4) hr4 b1 b2).mono ?_
    rintro e w5 ⟨rfl, hb5⟩
    rw [decide_eq_true rfl]
    have hB5 := hB4.trans (hb5.mono hB4.size)
    go_wp2
    go_ret
    exact ⟨rfl, hB5⟩

end Go.Proofs.Ytbpfloalncapcaa
