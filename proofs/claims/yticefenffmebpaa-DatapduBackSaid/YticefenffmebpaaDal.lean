/-
  The walks of the laws DatapduBack, DatapduUnique.
-/
import Derived.Test.YticefenffmebpaaDai
import Derived.Test.YticefenffmebpaaDaj
namespace Go.Proofs.Yticefenffmebpaa
set_option linter.unusedVariables false
set_option linter.unusedSimpArgs false
open Go.RowKit

set_option maxHeartbeats 1000000 in
theorem datapduBack_walk (sn ne md id : Int) (A : Option Addr) (n c : Nat) (l : List Nat) (w : World) (h0 : Rd w 1 A n (bv l) ∧ (∀ x ∈ l, x < 256) ∧ n ≤ c ∧ c ≤ maxLen) :
    Calls Try.prog 6 #[.agg #[.int .i64 sn, .int .i64 ne, .int .i64 md, .int .i64 id, .slice A n c]] w fun e w' => e = .returned (.bool true) ∧ Below w.heap.size w w' := by
  obtain ⟨hA, hl, hnc, hm⟩ := h0
  have hbx : Blk (w.alloc (.cells #[.int .i64 sn, .int .i64 ne, .int .i64 md, .int .i64 id, .slice A n c] 26)) w.heap.size 26 #[.int .i64 sn, .int .i64 ne, .int .i64 md, .int .i64 id, .slice A n c] := Blk.new _ _ _
  have hB : Below w.heap.size w (w.alloc (.cells #[.int .i64 sn, .int .i64 ne, .int .i64 md, .int .i64 id, .slice A n c] 26)) := (Below.refl _ _).alloc (Nat.le_refl _) _
  by_cases hbig : 1000 < n
  · have hbig' : (1000 : Int) < (n : Int) := by omega
    go_enter Try.func6, Try.ntmps6
    go_wp2_with fail
    refine (example_any _).mono ?_
    rintro e w1 ⟨rfl, hb1⟩
    go_wp2
    go_ret
    exact ⟨rfl, hB.trans (hb1.mono hB.size)⟩
  · have hbig' : (n : Int) ≤ (1000 : Int) := by omega
    have hlen := hA.blen
    by_cases hz : dchk sn ne md id n = 0
    · obtain ⟨k1, k2, k3, k4, k5, k6⟩ := dback (l := l) (by rw [hlen]; exact hz)
      have hbytes := denc_bytes (l := l) (by rw [hlen]; exact hz) hl
      have hdl : (denc sn ne md id l).length = n + 2 := by simp [denc, hlen]
      obtain ⟨L, hL⟩ : ∃ L, L = denc sn ne md id l := ⟨_, rfl⟩
      have hd : L.drop 2 = l := by rw [hL]; rfl
      have hg : L.getD 0 0 = dhead sn ne md id := by rw [hL]; rfl
      rw [← hL] at k1 hbytes hdl
      rw [← hg] at k2 k3 k4 k5
      have hdr : (L.drop 2).length = n := by rw [hd, hlen]
      have hn255 : n ≤ 255 := (dchk_zero hz).2.2.2.1
      have C := fun A' c' w' h hnc' => dec_ok L k1 A' (n + 2) c' w' h hbytes hnc' (by omega)
      rw [k2, k3, k4, k5, hdr, hd] at C
      have CC := hide C
      have HL := hide hL
      have HZ := hide hz
      clear C hL hz k1 k2 k3 k4 k5 k6 hd hg hdr
      go_enter Try.func6, Try.ntmps6
      go_wp2_with fail
      refine (check_any sn ne md id A n c _).mono ?_
      rintro e w1 ⟨rfl, hb1⟩
      rw [HZ.out]
      have B1 := hB.trans (hb1.mono hB.size)
      have hbx1 := hbx.below hb1 hbx.lt
      have q0 := hbx1.cell 0
      have q1 := hbx1.cell 1
      have q2 := hbx1.cell 2
      have q3 := hbx1.cell 3
      have q4 := hbx1.cell 4
      simp only [List.getElem?_toArray, List.getElem?_cons_zero, List.getElem?_cons_succ] at q0 q1 q2 q3 q4
      go_wp2_with fail
      refine (encode_any sn ne md id A n c l _ (hA.below B1) (by omega)).mono ?_
      rintro e w2 ⟨v2, rfl, hown2, hb2⟩
      rw [HZ.out, if_pos rfl, if_pos rfl, ← HL.out] at hown2
      rw [HZ.out]
      obtain ⟨A2, c2, hv2, hc2, _, hr2⟩ := own_rd hown2
      rw [hv2]
      have B2 := B1.trans (hb2.mono B1.size)
      have hbx2 := hbx1.below hb2 hbx1.lt
      clear hown2
      go_wp2_with fail
      refine (CC.out A2 c2 _ hr2 hc2).mono ?_
      rintro e w3 ⟨A3, c3, rfl, hr3, hc3, hb3⟩
      have B3 := (B2.trans (hb3.mono B2.size)).alloc (B2.trans (hb3.mono B2.size)).size (.cells #[.int .i64 sn, .int .i64 ne, .int .i64 md, .int .i64 id, .slice A3 n c3] 26)
      have hbx3 := (hbx2.below hb3 hbx2.lt).alloc (.cells #[.int .i64 sn, .int .i64 ne, .int .i64 md, .int .i64 id, .slice A3 n c3] 26)
      have hr3' := hr3.alloc (.cells #[.int .i64 sn, .int .i64 ne, .int .i64 md, .int .i64 id, .slice A3 n c3] 26)
      have r0 := hbx3.cell 0
      have r1 := hbx3.cell 1
      have r2 := hbx3.cell 2
      have r3 := hbx3.cell 3
      have r4 := hbx3.cell 4
      simp only [List.getElem?_toArray, List.getElem?_cons_zero, List.getElem?_cons_succ] at r0 r1 r2 r3 r4
      have e2 : ((n : Int) + 2 == 2 + (n : Int)) = true := by rw [beq_iff_eq]; omega
      go_wp2_with fail
      refine (samepdu_any sn ne md id A A3 n c n c3 l _ (hA.below B3) hr3' hl).mono ?_
      rintro e w4 ⟨rfl, hb4⟩
      have B4 := B3.trans (hb4.mono B3.size)
      go_wp2_with fail
      refine (example_any _).mono ?_
      rintro e w5 ⟨rfl, hb5⟩
      go_wp2
      go_ret
      exact ⟨rfl, B4.trans (hb5.mono B4.size)⟩
    · have h1 : (((dchk sn ne md id n : Nat) : Int) != 0) = true := by rw [bne_iff_ne]; omega
      obtain ⟨E, hE⟩ : ∃ E, E = dchk sn ne md id n := ⟨_, rfl⟩
      rw [← hE] at h1
      have HE := hide hE
      clear hE hz
      go_enter Try.func6, Try.ntmps6
      go_wp2_with fail
      refine (check_any sn ne md id A n c _).mono ?_
      rintro e w1 ⟨rfl, hb1⟩
      rw [← HE.out]
      have B1 := hB.trans (hb1.mono hB.size)
      go_wp2_with fail
      refine (example_any _).mono ?_
      rintro e w2 ⟨rfl, hb2⟩
      go_wp2
      go_ret
      exact ⟨rfl, B1.trans (hb2.mono B1.size)⟩
set_option maxHeartbeats 1000000 in
theorem datapduUnique_walk (A : Option Addr) (n c : Nat) (l : List Nat) (w : World) (h0 : Rd w 1 A n (bv l) ∧ (∀ x ∈ l, x < 256) ∧ n ≤ c ∧ c ≤ maxLen) :
    Calls Try.prog 7 #[.slice A n c] w fun e w' => e = .returned (.bool true) ∧ Below w.heap.size w w' := by
  obtain ⟨hA, hl, hnc, hm⟩ := h0
  by_cases hbig : 1000 < n
  · have hbig' : (1000 : Int) < (n : Int) := by omega
    go_enter Try.func7, Try.ntmps7
    go_wp2_with fail
    refine (example_any _).mono ?_
    rintro e w1 ⟨rfl, hb1⟩
    go_wp2
    go_ret
    exact ⟨rfl, hb1⟩
  · have hbig' : (n : Int) ≤ (1000 : Int) := by omega
    have hlen := hA.blen
    by_cases hz : derr l = 0
    · obtain ⟨u1, u2, u3, u4⟩ := dunique hl hz
      have C1 := dec_ok l hz A n c w hA hl hnc (by omega)
      obtain ⟨s, hs⟩ : ∃ s, s = l.getD 0 0 / 8 % 2 := ⟨_, rfl⟩
      obtain ⟨e, he⟩ : ∃ e, e = l.getD 0 0 / 4 % 2 := ⟨_, rfl⟩
      obtain ⟨m, hm'⟩ : ∃ m, m = l.getD 0 0 / 16 % 2 := ⟨_, rfl⟩
      obtain ⟨i, hi⟩ : ∃ i, i = l.getD 0 0 % 4 := ⟨_, rfl⟩
      obtain ⟨N, hN⟩ : ∃ N, N = (l.drop 2).length := ⟨_, rfl⟩
      rw [← hs, ← he, ← hm', ← hi, ← hN] at C1 u3
      rw [← hs, ← he, ← hm', ← hi] at u4
      have hN2 : N + 2 = n := by rw [hN, List.length_drop]; omega
      have HC1 := hide C1
      have U3 := hide u3
      have U4 := hide u4
      have HN2 := hide hN2
      clear hs he hm' hi hN C1 u3 u4 hz
      have hN1 : N ≤ 1000 := by omega
      clear hN2
      go_enter Try.func7, Try.ntmps7
      go_wp2_with fail
      refine HC1.out.mono ?_
      rintro e1 w1 ⟨A1, c1, rfl, hr1, hc1, hb1⟩
      have B1 := hb1.alloc hb1.size (.cells #[.int .i64 (s : Int), .int .i64 (e : Int), .int .i64 (m : Int), .int .i64 (i : Int), .slice A1 N c1] 26)
      have hr1' := hr1.alloc (.cells #[.int .i64 (s : Int), .int .i64 (e : Int), .int .i64 (m : Int), .int .i64 (i : Int), .slice A1 N c1] 26)
      go_wp2_with fail
      refine (encode_any s e m i A1 N c1 (l.drop 2) _ hr1' hN1).mono ?_
      rintro e2 w2 ⟨v2, rfl, hown2, hb2⟩
      rw [U3.out, if_pos rfl, if_pos rfl, U4.out, HN2.out] at hown2
      rw [U3.out]
      obtain ⟨A2, c2, hv2, hc2, _, hr2⟩ := own_rd hown2
      rw [hv2]
      have B2 := B1.trans (hb2.mono B1.size)
      clear hown2
      go_wp2_with fail
      refine (same_any A A2 n n c c2 l l _ (hA.below B2) hr2 hl hl).mono ?_
      rintro e3 w' ⟨rfl, rfl⟩
      rw [decide_eq_true rfl]
      go_wp2_with fail
      refine (example_any _).mono ?_
      rintro e4 w4 ⟨rfl, hb4⟩
      go_wp2
      go_ret
      exact ⟨rfl, B2.trans (hb4.mono B2.size)⟩
    · have h1 : (((derr l : Nat) : Int) != 0) = true := by rw [bne_iff_ne]; omega
      obtain ⟨E, hE⟩ : ∃ E, E = derr l := ⟨_, rfl⟩
      have C1 := dec_bad l E hE.symm (by rw [hE]; exact hz) A n c w hA hl hnc (by omega)
      rw [← hE] at h1
      have HE := hide hE
      have HC := hide C1
      clear hE hz C1
      go_enter Try.func7, Try.ntmps7
      go_wp2_with fail
      refine HC.out.mono ?_
      rintro e1 w1 ⟨A1, c1, rfl, hb1⟩
      have B1 := hb1.alloc hb1.size (.cells #[.int .i64 0, .int .i64 0, .int .i64 0, .int .i64 0, .slice A1 0 c1] 26)
      go_wp2_with fail
      refine (samepdu_any 0 0 0 0 A1 none 0 c1 0 0 [] _ (Rd.none_ _ _ _) (Rd.none_ _ _ _) (by simp)).mono ?_
      rintro e2 w2 ⟨rfl, hb2⟩
      have B2 := B1.trans (hb2.mono B1.size)
      go_wp2_with fail
      refine (example_any _).mono ?_
      rintro e3 w3 ⟨rfl, hb3⟩
      go_wp2
      go_ret
      exact ⟨rfl, B2.trans (hb3.mono B2.size)⟩
end Go.Proofs.Yticefenffmebpaa
