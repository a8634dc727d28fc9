/-
  The walks of the last two statements on instants: InstantPlanned, InstantOnce.
-/
import Derived.Test.YtbpfloalncapcaaInd
namespace Go.Proofs.Ytbpfloalncapcaa
set_option linter.unusedVariables false
set_option linter.unusedSimpArgs false
open Go.RowKit
set_option maxHeartbeats 2000000 in
theorem instantPlanned_walk (a0 a1 a2 : Int) (w : World) (w0 : (Lit.int .u16 a0).wf = true) (w1 : (Lit.int .i64 a1).wf = true) (w2 : (Lit.int .i64 a2).wf = true) :
    Calls Try.prog 7 #[.int .u16 a0, .int .i64 a1, .int .i64 a2] w fun e w' => e = .returned (.bool true) ∧ Below w.heap.size w w' := by
  obtain ⟨a, rfl⟩ : ∃ a : Nat, a0 = (a : Int) := Int.eq_ofNat_of_zero_le (wf_u16 w0).1
  have ha : a < 65536 := by have := (wf_u16 w0).2; omega
  clear w0
  clear w1 w2
  by_cases hin : 0 ≤ a2 ∧ a2 ≤ 16384
  · obtain ⟨h0, h1⟩ := hin
    have hck : ck (((a : Int) + a2) % 65536).toNat 0 (plan a a1) = if a2 ≤ 5 + lat a1 then 0 else 18 := by
      have hp := plan_int a a1
      have hl : 0 ≤ lat a1 ∧ lat a1 ≤ 499 := by unfold lat; omega
      unfold ck came
      rw [if_pos (Or.inl rfl)]
      by_cases h : a2 ≤ 5 + lat a1
      · rw [if_pos h, if_neg (by simp; omega)]
      · rw [if_neg h, if_pos (by simp; omega)]
    go_enter Try.func7, Try.ntmps7
    go_wp2_with fail
    refine (lives_any _).mono ?_
    rintro e w1 ⟨rfl, hb1⟩
    go_wp2_with fail
    refine (plan_any a a1 ha _).mono ?_
    rintro e w' ⟨rfl, rfl⟩
    go_wp2_with fail
    obtain ⟨ev, hev⟩ : ∃ ev : Nat, ev = (((a : Int) + a2) % 65536).toNat := ⟨_, rfl⟩
    have hev1 : IntKind.u16.wrap ((a : Int) + a2) = (ev : Int) := by rw [IntKind.wrap_u16, hev]; omega
    have hev2 : ev < 65536 := by omega
    rw [← hev] at hck
    rw [hev1]
    refine (add_any none 0 0 ev (⟨0, plan a a1, 0, 0, 0, 0, 0, 0⟩ : Chg) [] _ (Rd.none_ _ _ _) (by omega) hev2 (plan_lt a a1)).mono ?_
    rintro e w2 ⟨A2, n2, c2, rfl, hr2, hb2⟩
    clear hev hev1
    have hB := (hb1.alloc hb1.size _).trans (hb2.mono (by have := hb1.size; simp; omega))
    have hc : (a1 ≤ 0 ∧ lat a1 = 0) ∨ (499 < a1 ∧ lat a1 = 499) ∨ (0 < a1 ∧ a1 ≤ 499 ∧ lat a1 = a1) := by unfold lat; omega
    by_cases h : a2 ≤ 5 + lat a1
    · rw [if_pos h] at hck
      rw [show (addL ev (⟨0, plan a a1, 0, 0, 0, 0, 0, 0⟩ : Chg) []).2 = 0 from by unfold addL; rw [if_pos hck, if_pos rfl]]
      clear hck hr2
      rcases hc with ⟨g, hl⟩ | ⟨g, hl⟩ | ⟨g, g', hl⟩
      all_goals
        rw [hl] at h
        clear hl
        go_wp2
        go_ret
        exact ⟨ret_bool (by simp <;> omega), hB⟩
    · rw [if_neg h] at hck
      rw [show (addL ev (⟨0, plan a a1, 0, 0, 0, 0, 0, 0⟩ : Chg) []).2 = 18 from by unfold addL; rw [if_neg (by rw [hck]; omega)]; exact hck]
      clear hck hr2
      rcases hc with ⟨g, hl⟩ | ⟨g, hl⟩ | ⟨g, g', hl⟩
      all_goals
        rw [hl] at h
        clear hl
        have h := Int.lt_of_not_ge h
        go_wp2
        go_ret
        exact ⟨ret_bool (by simp <;> omega), hB⟩
  · rcases (show a2 < 0 ∨ (0 ≤ a2 ∧ 16384 < a2) from by omega) with h | ⟨h, h'⟩
    all_goals
      clear hin
      go_enter Try.func7, Try.ntmps7
      go_wp2_with fail
      refine (lives_any _).mono ?_
      rintro e w1 ⟨rfl, hb1⟩
      go_wp2
      go_ret
      exact ⟨rfl, hb1⟩
set_option maxHeartbeats 2000000 in
theorem instantOnce_walk (a0 : Int) (x : Chg) (w : World) (w0 : (Lit.int .u16 a0).wf = true) (hx : x.i < 65536) :
    Calls Try.prog 8 #[.int .u16 a0, .agg #[.int .i64 x.k, .int .u16 (x.i : Int), .int .i64 x.x0, .int .i64 x.x1, .int .i64 x.x2, .int .i64 x.x3, .int .i64 x.x4, .int .u64 x.m]] w fun e w' => e = .returned (.bool true) ∧ Below w.heap.size w w' := by
  obtain ⟨a, rfl⟩ : ∃ a : Nat, a0 = (a : Int) := Int.eq_ofNat_of_zero_le (wf_u16 w0).1
  have ha : a < 65536 := by have := (wf_u16 w0).2; omega
  clear w0
  have hbx : Blk (w.alloc (.cells #[.int .i64 x.k, .int .u16 (x.i : Int), .int .i64 x.x0, .int .i64 x.x1, .int .i64 x.x2, .int .i64 x.x3, .int .i64 x.x4, .int .u64 x.m] 31)) w.heap.size 31 #[.int .i64 x.k, .int .u16 (x.i : Int), .int .i64 x.x0, .int .i64 x.x1, .int .i64 x.x2, .int .i64 x.x3, .int .i64 x.x4, .int .u64 x.m] := Blk.new _ _ _
  have hB : Below w.heap.size w (w.alloc (.cells #[.int .i64 x.k, .int .u16 (x.i : Int), .int .i64 x.x0, .int .i64 x.x1, .int .i64 x.x2, .int .i64 x.x3, .int .i64 x.x4, .int .u64 x.m] 31)) := (Below.refl _ _).alloc (Nat.le_refl _) _
  go_enter Try.func8, Try.ntmps8
  go_wp2_with fail
  refine (lives_any _).mono ?_
  rintro e w1 ⟨rfl, hb1⟩
  have hbx := hbx.below hb1 hbx.lt
  have hB := hB.trans (hb1.mono hB.size)
  obtain ⟨p0, p1, p2, p3, p4, p5, p6, p7⟩ := at8_blk hbx
  go_wp2_with fail
  refine (add_any none 0 0 a x [] _ (Rd.none_ _ _ _) (by omega) ha hx).mono ?_
  rintro e w2 ⟨A2, n2, c2, rfl, hr2, hb2⟩
  clear p0 p1 p2 p3 p4 p5 p6 p7
  have hbx := hbx.below hb2 hbx.lt
  have hB := hB.trans (hb2.mono hB.size)
  obtain ⟨q0, q1, q2, q3, q4, q5, q6, q7⟩ := at8_blk hbx
  by_cases hck : ck a x.k x.i = 0
  · rw [show addL a x [] = ([x], 0) from by unfold addL; rw [if_pos hck, if_pos rfl]] at hr2 ⊢
    obtain rfl : n2 = 1 := by simpa using hr2.clen.symm
    obtain ⟨d, hd⟩ : ∃ d : Nat, d = (x.i + 65536 - a) % 65536 := ⟨_, rfl⟩
    have hdw : IntKind.u16.wrap ((x.i : Int) - (a : Int)) = (d : Int) := by rw [IntKind.wrap_u16, hd]; omega
    have hdb : d < 65536 := by omega
    have hd1 : 1 ≤ d := by
      unfold ck came at hck
      split at hck
      · split at hck
        · omega
        · rename_i h; simp at h; omega
      · omega
    have hcame : ∀ k, k ≤ d + 3 → d ≤ 600 → came ((a + k) % 65536) x.i = decide (d ≤ k) := by
      intro k hk h6
      unfold came
      rw [decide_eq_decide]
      omega
    have hdx : (a + d) % 65536 = x.i := by omega
    by_cases h6 : d ≤ 600
    · have hdx2 : ∀ k, k ≤ d + 3 → (a + k) % 65536 = x.i → k = d := by intro k hk; omega
      clear hck hd
      have HC := hide hcame
      have HX := hide hdx
      clear hcame hdx hdx2
      go_wp2
      clear hdw
      clear q0 q1 q2 q3 q4 q5 q6 q7
      go_loopw [5, 8, 9] (fun v t i wr => ∃ (k t' n : Nat) (A : Option Addr) (c : Nat) (L : List Chg), k ≤ d + 4 ∧ i = .int .i64 k ∧ t = .int .i64 (t' : Int) ∧ v = .slice A n c ∧ Hid (t' = (if k ≤ d then 0 else 1) ∧ L = (if k ≤ d then [x] else [])) ∧ Rd wr 8 A n (chv L) ∧ Hid (Blk wr w.heap.size 31 #[.int .i64 x.k, .int .u16 (x.i : Int), .int .i64 x.x0, .int .i64 x.x1, .int .i64 x.x2, .int .i64 x.x3, .int .i64 x.x4, .int .u64 x.m]) ∧ Below w.heap.size w wr) (fun _ _ i _ => d + 4 - (intOf i).toNat)
      case atStart => exact ⟨0, 0, 1, A2, c2, [x], by omega, rfl, rfl, rfl, hide ⟨by simp, by simp⟩, hr2, hide hbx, hB⟩
      case round =>
        obtain ⟨k, t', n, A, c, L, hk, rfl, rfl, rfl, HT, hr, HB, hbe⟩ := hrel
        by_cases hlt : k ≤ d + 3
        · obtain ⟨ev, hev⟩ : ∃ ev : Nat, ev = (a + k) % 65536 := ⟨_, rfl⟩
          have hev1 : IntKind.u16.wrap ((a : Int) + (k : Int)) = (ev : Int) := by rw [IntKind.wrap_u16, hev]; omega
          have hev2 : ev < 65536 := by omega
          have HE := hide hev
          clear hev
          have hLx : ∀ y ∈ L, y.i < 65536 := by
            rw [HT.out.2]
            split
            · simpa using hx
            · simp
          have hLn : n ≤ 1 := by
            have := hr.clen
            rw [HT.out.2] at this
            split at this <;> simp at this <;> omega
          go_wp2_with fail
          clear hev1
          refine (copied_any A n c L _ hr (by omega)).mono ?_
          rintro e w3 ⟨A3, c3, rfl, hc3, hr3, hb3⟩
          go_wp2_with fail
          refine (due_any A3 n c3 ev L _ hr3 (by omega) hc3 hev2 hLx).mono ?_
          rintro e w4 ⟨R4, Q4, nr, nq, cr, cq, rfl, hrr, hrq, hb4⟩
          have hbx4 : Blk w4 w.heap.size 31 #[.int .i64 x.k, .int .u16 (x.i : Int), .int .i64 x.x0, .int .i64 x.x1, .int .i64 x.x2, .int .i64 x.x3, .int .i64 x.x4, .int .u64 x.m] := (HB.out.below hb3 HB.out.lt).below hb4 (HB.out.below hb3 HB.out.lt).lt
          have hB4 : Below w.heap.size w w4 := (hbe.trans (hb3.mono hbe.size)).trans (hb4.mono (hbe.trans (hb3.mono hbe.size)).size)
          have hcm := HC.out k hlt h6
          rw [← HE.out] at hcm
          rcases Nat.lt_trichotomy k d with hkd | hkd | hkd
          · have e1 : t' = 0 ∧ L = [x] := ⟨by rw [HT.out.1, if_pos (by omega)], by rw [HT.out.2, if_pos (by omega)]⟩
            obtain ⟨rfl, rfl⟩ := e1
            have e2 : came ev x.i = false := by rw [hcm]; simp; omega
            rw [show restL ev [x] = [x] from by simp [restL, e2]] at hrr
            rw [show dueL ev [x] = [] from by simp [dueL, e2]] at hrq
            obtain rfl : nr = 1 := by simpa using hrr.clen.symm
            obtain rfl : nq = 0 := by simpa using hrq.clen.symm
            clear e2 hcm
            go_wp2
            go_roundw
            case rel => exact ⟨k + 1, 0, 1, R4, cr, [x], by omega, by go_num, rfl, rfl, hide ⟨by rw [if_pos (by omega)], by rw [if_pos (by omega)]⟩, hrr, hide hbx4, hB4⟩
            case measure => simp [intOf]; omega
          · have e1 : t' = 0 ∧ L = [x] := ⟨by rw [HT.out.1, if_pos (by omega)], by rw [HT.out.2, if_pos (by omega)]⟩
            obtain ⟨rfl, rfl⟩ := e1
            have e2 : came ev x.i = true := by rw [hcm]; simp; omega
            rw [show restL ev [x] = [] from by simp [restL, e2]] at hrr
            rw [show dueL ev [x] = [x] from by simp [dueL, e2]] at hrq
            obtain rfl : nr = 0 := by simpa using hrr.clen.symm
            obtain rfl : nq = 1 := by simpa using hrq.clen.symm
            have e3 : ((ev : Int) != (x.i : Int)) = false := by
              have := HX.out
              have := HE.out
              rw [bne_eq_false_iff_eq]
              rw [hkd] at this
              omega
            clear e2 hcm
            obtain ⟨r0, r1, r2, r3, r4, r5, r6, r7⟩ := at8_blk hbx4
            go_wp2_with fail
            refine (same_any Q4 _ 1 1 cq 1 [x] [x] _ (hrq.alloc _) (rd8_one w4 x) (by omega) (by omega)).mono ?_
            rintro e w5 ⟨rfl, hb5⟩
            rw [decide_eq_true rfl]
            have hbx5 := (hbx4.alloc _).below hb5 (hbx4.alloc _).lt
            have hB5 := (hB4.alloc hB4.size _).trans (hb5.mono (by have := hB4.size; simp; omega))
            have hrr5 := (hrr.alloc _).below hb5
            clear r0 r1 r2 r3 r4 r5 r6 r7
            go_wp2
            go_roundw
            case rel => exact ⟨k + 1, 1, 0, R4, cr, [], by omega, by go_num, rfl, rfl, hide ⟨by rw [if_neg (by omega)], by rw [if_neg (by omega)]⟩, hrr5, hide hbx5, hB5⟩
            case measure => simp [intOf]; omega
          · have e1 : t' = 1 ∧ L = [] := ⟨by rw [HT.out.1, if_neg (by omega)], by rw [HT.out.2, if_neg (by omega)]⟩
            obtain ⟨rfl, rfl⟩ := e1
            rw [show restL ev [] = [] from rfl] at hrr
            rw [show dueL ev [] = [] from rfl] at hrq
            obtain rfl : nr = 0 := by simpa using hrr.clen.symm
            obtain rfl : nq = 0 := by simpa using hrq.clen.symm
            clear hcm
            go_wp2
            go_roundw
            case rel => exact ⟨k + 1, 1, 0, R4, cr, [], by omega, by go_num, rfl, rfl, hide ⟨by rw [if_neg (by omega)], by rw [if_neg (by omega)]⟩, hrr, hide hbx4, hB4⟩
            case measure => simp [intOf]; omega
        · have e1 : t' = 1 ∧ L = [] := ⟨by rw [HT.out.1, if_neg (by omega)], by rw [HT.out.2, if_neg (by omega)]⟩
          obtain ⟨rfl, rfl⟩ := e1
          obtain rfl : n = 0 := by simpa using hr.clen.symm
          go_wp2
          go_ret
          exact ⟨rfl, hbe⟩
    · have h6' : (600 : Int) < (d : Int) := by omega
      clear hck hd hcame hdx
      go_wp2
      go_ret
      exact ⟨rfl, hB⟩
  · have hne : (ck a x.k x.i != 0) = true := by simpa using hck
    rw [show addL a x [] = ([], ck a x.k x.i) from by unfold addL; rw [if_neg hck]] at hr2 ⊢
    clear hck
    go_wp2
    go_ret
    exact ⟨rfl, hB⟩

end Go.Proofs.Ytbpfloalncapcaa
