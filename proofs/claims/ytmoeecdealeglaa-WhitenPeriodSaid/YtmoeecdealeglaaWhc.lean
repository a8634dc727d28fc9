/-
  The walks of the five statements on whitening: each returns true, and nothing that was there is written.
-/
import Derived.Test.YtmoeecdealeglaaWhl
import Derived.Deep.RegionHeld3
namespace Go.Proofs.Ytmoeecdealeglaa
set_option linter.unusedVariables false
set_option linter.unusedSimpArgs false
open Go.RowKit

set_option maxHeartbeats 1000000 in
theorem whitenStates_walk (a0 a1 : Int) (w : World) (w0 : (Lit.int .i64 a0).wf = true) (w1 : (Lit.int .i64 a1).wf = true) :
    Calls Try.prog 3 #[.int .i64 a0, .int .i64 a1] w fun e w' => e = .returned (.bool true) ∧ Below w.heap.size w w' := by
  clear w0 w1
  go_enter Try.func3, Try.ntmps3
  go_wp2_with fail
  refine (lives_any _).mono ?_
  rintro e w1 ⟨rfl, hb1⟩
  go_wp2_with fail
  refine (state_any a0 a1 _).mono ?_
  rintro e w' ⟨rfl, rfl⟩
  go_wp2_with fail
  refine (rstate_any a0 a1 _).mono ?_
  rintro e w' ⟨rfl, rfl⟩
  go_wp2
  go_ret
  exact ⟨rfl, hb1⟩
set_option maxHeartbeats 1000000 in
theorem whitenStreams_walk (a0 a1 : Int) (w : World) (w0 : (Lit.int .i64 a0).wf = true) (w1 : (Lit.int .i64 a1).wf = true) :
    Calls Try.prog 4 #[.int .i64 a0, .int .i64 a1] w fun e w' => e = .returned (.bool true) ∧ Below w.heap.size w w' := by
  clear w0 w1
  go_enter Try.func4, Try.ntmps4
  go_wp2_with fail
  refine (lives_any _).mono ?_
  rintro e w1 ⟨rfl, hb1⟩
  go_wp2_with fail
  refine (stream_any a0 a1 _).mono ?_
  rintro e w2 ⟨A2, c2, rfl, hr2, hb2⟩
  go_wp2_with fail
  refine (rstream_any a0 a1 _).mono ?_
  rintro e w3 ⟨A3, c3, rfl, hr3, hb3⟩
  go_wp2_with fail
  refine (same_any _ _ _ _ _ _ _ _ _ (hr2.below hb3) hr3 (wseq_bytes _ _ (wfirst_lt a0)) (wseq_bytes _ _ (wfirst_lt a0))).mono ?_
  rintro e w' ⟨rfl, rfl⟩
  rw [decide_eq_true rfl]
  go_wp2
  go_ret
  exact ⟨rfl, hb1.trans ((hb2.mono hb1.size).trans (hb3.mono (Nat.le_trans hb1.size hb2.size)))⟩
set_option maxHeartbeats 1000000 in
theorem whitenApplies_walk (a0 : Int) (a1 : Option Addr) (len1 cap1 : Nat) (z1 : List Int) (w : World) (w0 : (Lit.int .i64 a0).wf = true) (w1 : IsRow .u8 w a1 len1 cap1 z1) :
    Calls Try.prog 5 #[.int .i64 a0, .slice a1 len1 cap1] w fun e w' => e = .returned (.bool true) ∧ Below w.heap.size w w' := by
  obtain ⟨l, hA, hl, hc, hm⟩ := w1.rd
  unfold maxLen at hm
  clear w0 w1
  by_cases hbig : 65536 < len1
  · have hbig' : (65536 : Int) < (len1 : Int) := by omega
    go_enter Try.func5, Try.ntmps5
    go_wp2_with fail
    refine (lives_any _).mono ?_
    rintro e w1 ⟨rfl, hb1⟩
    go_wp2
    go_ret
    exact ⟨rfl, hb1⟩
  · have hbig' : (len1 : Int) ≤ (65536 : Int) := by omega
    go_enter Try.func5, Try.ntmps5
    go_wp2_with fail
    refine (lives_any _).mono ?_
    rintro e w1 ⟨rfl, hb1⟩
    go_wp2_with fail
    refine (copied_any _ _ _ l _ (hA.below hb1) (by omega)).mono ?_
    rintro e w2 ⟨A2, c2, rfl, hc2, hr2, hb2⟩
    go_wp2_with fail
    refine (apply_any a0 _ _ _ l _ hr2 hl (by omega)).mono ?_
    rintro e w3 ⟨A3, c3, rfl, hc3, hr3, hb3⟩
    go_wp2_with fail
    refine (rapply_any a0 _ _ _ l _ (((hA.below hb1).below hb2).below hb3) hl (by omega)).mono ?_
    rintro e w4 ⟨A4, c4, rfl, hc4, hr4, hb4⟩
    go_wp2_with fail
    refine (same_any _ _ _ _ _ _ _ _ _ (hr3.below hb4) hr4 (wapply_bytes a0 l hl) (wapply_bytes a0 l hl)).mono ?_
    rintro e w' ⟨rfl, rfl⟩
    rw [decide_eq_true rfl]
    go_wp2
    go_ret
    have s1 := hb1.size
    have s2 := hb2.size
    have s3 := hb3.size
    exact ⟨rfl, hb1.trans ((hb2.mono s1).trans ((hb3.mono (by omega)).trans (hb4.mono (by omega))))⟩
set_option maxHeartbeats 2000000 in
theorem whitenPeriod_walk (a0 a1 a2 : Int) (w : World) (w0 : (Lit.int .i64 a0).wf = true) (w1 : (Lit.int .i64 a1).wf = true) (w2 : (Lit.int .i64 a2).wf = true) :
    Calls Try.prog 7 #[.int .i64 a0, .int .i64 a1, .int .i64 a2] w fun e w' => e = .returned (.bool true) ∧ Below w.heap.size w w' := by
  clear w0 w1 w2
  by_cases hin : 0 ≤ a1 ∧ a1 ≤ 65536 ∧ 1 ≤ a2 ∧ a2 ≤ 126
  · obtain ⟨h1, h2, h3, h4⟩ := hin
    have f1 : wcut (a1 + 127) = 127 + wcut a1 := by unfold wcut; omega
    have f2 : wcut (a1 + a2) = a2.toNat + wcut a1 := by unfold wcut; omega
    have e1 : wstate a0 (a1 + 127) = wstate a0 a1 := by unfold wstate; rw [f1, wit_add, wit_period _ (wit_lt _ _ (wfirst_lt a0))]
    have e2 : wstate a0 (a1 + a2) ≠ wstate a0 a1 := by
      unfold wstate
      rw [f2, wit_add]
      exact wit_no _ _ (wit_pos _ _ (by have := wfirst_ge a0; omega) (wfirst_lt a0)) (wit_lt _ _ (wfirst_lt a0)) (by omega) (by omega)
    have e3 : 1 ≤ wstate a0 a1 := wit_pos _ _ (by have := wfirst_ge a0; omega) (wfirst_lt a0)
    have e4 := wstate_lt a0 a1
    generalize hs : wstate a0 a1 = s at *
    generalize ht : wstate a0 (a1 + a2) = t at *
    have E1 := hide e1
    have ES := hide hs
    have ET := hide ht
    have hne : ((t : Int) == (s : Int)) = false := by rw [beq_eq_false_iff_ne]; omega
    have hne2 : ((t : Int) != (s : Int)) = true := by rw [bne_iff_ne]; omega
    clear f1 f2 e1 e2 hs ht
    go_enter Try.func7, Try.ntmps7
    go_wp2_with fail
    refine (lives_any _).mono ?_
    rintro e w1 ⟨rfl, hb1⟩
    go_wp2_with fail
    refine (state_any a0 a1 _).mono ?_
    rintro e w' ⟨rfl, rfl⟩
    rw [ES.out]
    go_wp2_with fail
    refine (state_any a0 _ _).mono ?_
    rintro e w' ⟨rfl, rfl⟩
    rw [E1.out]
    go_wp2_with fail
    refine (state_any a0 _ _).mono ?_
    rintro e w' ⟨rfl, rfl⟩
    rw [ET.out]
    go_wp2
    go_ret
    exact ⟨rfl, hb1⟩
  · rcases (show a1 < 0 ∨ (0 ≤ a1 ∧ 65536 < a1) ∨ (0 ≤ a1 ∧ a1 ≤ 65536 ∧ a2 < 1) ∨ (0 ≤ a1 ∧ a1 ≤ 65536 ∧ 1 ≤ a2 ∧ 126 < a2) from by omega) with h | ⟨h, h'⟩ | ⟨h, h', h''⟩ | ⟨h, h', h'', h3⟩
    all_goals
      clear hin
      go_enter Try.func7, Try.ntmps7
      go_wp2_with fail
      refine (lives_any _).mono ?_
      rintro e w1 ⟨rfl, hb1⟩
      go_wp2
      go_ret
      exact ⟨rfl, hb1⟩

set_option maxHeartbeats 2000000 in
theorem whitenInverse_walk (a0 : Int) (a1 : Option Addr) (len1 cap1 : Nat) (z1 : List Int) (a2 : Int) (w : World) (w0 : (Lit.int .i64 a0).wf = true) (w1 : IsRow .u8 w a1 len1 cap1 z1) (w2 : (Lit.int .i64 a2).wf = true) :
    Calls Try.prog 6 #[.int .i64 a0, .slice a1 len1 cap1, .int .i64 a2] w fun e w' => e = .returned (.bool true) ∧ Below w.heap.size w w' := by
  obtain ⟨l, hA, hl, hc, hm⟩ := w1.rd
  unfold maxLen at hm
  clear w0 w1 w2
  by_cases hbig : 65536 < len1
  · have hbig' : (65536 : Int) < (len1 : Int) := by omega
    go_enter Try.func6, Try.ntmps6
    go_wp2_with fail
    refine (lives_any _).mono ?_
    rintro e w1 ⟨rfl, hb1⟩
    go_wp2
    go_ret
    exact ⟨rfl, hb1⟩
  · have hbig' : (len1 : Int) ≤ (65536 : Int) := by omega
    obtain ⟨M, hM⟩ : ∃ M : Nat, M = (max 0 (min a2 len1)).toNat := ⟨_, rfl⟩
    have hMl : M ≤ len1 := by omega
    have hcs : (a2 ≤ 0 ∧ a2 ≤ (len1 : Int) ∧ (0 : Int) = M) ∨ (0 < a2 ∧ (len1 : Int) < a2 ∧ 0 < (len1 : Int) ∧ (len1 : Int) = M) ∨ (0 < a2 ∧ (len1 : Int) < a2 ∧ (len1 : Int) ≤ 0 ∧ (0 : Int) = M) ∨ (0 < a2 ∧ a2 ≤ (len1 : Int) ∧ a2 = M) := by omega
    clear hM
    rcases hcs with ⟨h, h', hM⟩ | ⟨h, h', h'', hM⟩ | ⟨h, h', h'', hM⟩ | ⟨h, h', hM⟩
    all_goals
      have HM := hide hM
      clear hM
      go_enter Try.func6, Try.ntmps6
      go_wp2_with fail
      refine (lives_any _).mono ?_
      rintro e w1 ⟨rfl, hb1⟩
      go_wp2_with fail
      refine (copied_any _ _ _ l _ (hA.below hb1) (by omega)).mono ?_
      rintro e w2 ⟨A2, c2, rfl, hc2, hr2, hb2⟩
      go_wp2_with fail
      refine (apply_any a0 _ _ _ l _ hr2 hl (by omega)).mono ?_
      rintro e w3 ⟨A3, c3, rfl, hc3, hr3, hb3⟩
      go_wp2_with fail
      rw [HM.out]
      have hwb := wapply_bytes a0 l hl
      have hlb : ∀ x ∈ l.take M, x < 256 := fun x hx => hl x (List.mem_of_mem_take hx)
      have hwtb : ∀ x ∈ (wapply a0 l).take M, x < 256 := fun x hx => hwb x (List.mem_of_mem_take hx)
      have HA := hide (((hA.below hb1).below hb2).below hb3)
      have Htw := hide (wapply_twice a0 l)
      have Htk := hide (wapply_take a0 l M (by rw [hA.blen]; exact hMl))
      have s1 := hb1.size
      have s2 := hb2.size
      have s3 := hb3.size
      have B3 : Below w.heap.size w w3 := hb1.trans ((hb2.mono s1).trans (hb3.mono (by omega)))
      have i0 : (0 : Int) ≤ (M : Int) := by omega
      have i1 : (M : Int) ≤ (cap1 : Int) := by omega
      have i2 : (M : Int) ≤ (c3 : Int) := by omega
      go_region_held3 (fun w' => Below w.heap.size w w') (first | exact B3 | exact B3.drew | assumption) (first
        | (go_at_call 15; (with_reducible refine (copied_any A3 len1 c3 (wapply a0 l) _ ?_ ?_).mono ?_); exact hr3; omega; rintro e w4 ⟨A4, c4, rfl, hc4, hr4, hb4⟩; have B4 : Below w.heap.size w w4 := B3.drew.trans (hb4.mono B3.size))
        | (go_at_call 14; (with_reducible refine (apply_any a0 A4 len1 c4 (wapply a0 l) _ ?_ ?_ ?_).mono ?_); exact hr4; exact hwb; omega; rintro e w5 ⟨A5, c5, rfl, hc5, hr5, hb5⟩; have B5 : Below w.heap.size w w5 := B4.trans (hb5.mono B4.size))
        | (go_at_call 11; (with_reducible refine (same_any A5 a1 len1 len1 c5 cap1 l l _ ?_ ?_ ?_ ?_).mono ?_); rw [← Htw.out]; exact hr5; exact ((HA.out.drew.below hb4).below hb5); exact hl; exact hl; rintro e w6 ⟨rfl, rfl⟩)
        | (go_at_call 15; (with_reducible refine (copied_any a1 M cap1 (l.take M) _ ?_ ?_).mono ?_); rw [← bv_take]; exact (((HA.out.drew.below hb4).below hb5).take hMl); omega; rintro e w7 ⟨A7, c7, rfl, hc7, hr7, hb7⟩; have B7 : Below w.heap.size w w7 := B5.trans (hb7.mono B5.size))
        | (go_at_call 14; (with_reducible refine (apply_any a0 A7 M c7 (l.take M) _ ?_ ?_ ?_).mono ?_); exact hr7; exact hlb; omega; rintro e w8 ⟨A8, c8, rfl, hc8, hr8, hb8⟩; have B8 : Below w.heap.size w w8 := B7.trans (hb8.mono B7.size))
        | (go_at_call 11; (with_reducible refine (same_any A8 A3 M M c8 c3 ((wapply a0 l).take M) ((wapply a0 l).take M) _ ?_ ?_ ?_ ?_).mono ?_); rw [← Htk.out]; exact hr8; rw [← bv_take]; exact (((((hr3.drew.below hb4).below hb5).below hb7).below hb8).take hMl); exact hwtb; exact hwtb; rintro e w9 ⟨rfl, rfl⟩))
      go_wp2
      go_ret
      exact ⟨rfl, by assumption⟩
end Go.Proofs.Ytmoeecdealeglaa
