/-
  The walks of the laws DatapduChecks, DatapduEncodes, DatapduDecodes.
-/
import Derived.Test.YticefenffmebpaaDai
import Derived.Test.YticefenffmebpaaDaj
namespace Go.Proofs.Yticefenffmebpaa
set_option linter.unusedVariables false
set_option linter.unusedSimpArgs false
open Go.RowKit

theorem box5 {w' w : World} {g B : Nat} {t : TypeId} {a b c d e : Value} (h : Blk w' g t #[a, b, c, d, e]) (hB : Below B w w') :
    w'.cell? ⟨g, 0, none⟩ = some a ∧ w'.cell? ⟨g, 1, none⟩ = some b ∧ w'.cell? ⟨g, 2, none⟩ = some c ∧ w'.cell? ⟨g, 3, none⟩ = some d ∧ w'.cell? ⟨g, 4, none⟩ = some e ∧ Below B w w' :=
  ⟨h.cell 0, h.cell 1, h.cell 2, h.cell 3, h.cell 4, hB⟩
set_option maxHeartbeats 2000000 in
theorem datapduChecks_walk (sn ne md id : Int) (A : Option Addr) (n c : Nat) (l : List Nat) (w : World) (h0 : Rd w 1 A n (bv l) ∧ (∀ x ∈ l, x < 256) ∧ n ≤ c ∧ c ≤ maxLen) :
    Calls Try.prog 3 #[.agg #[.int .i64 sn, .int .i64 ne, .int .i64 md, .int .i64 id, .slice A n c]] w fun e w' => e = .returned (.bool true) ∧ Below w.heap.size w w' := by
  obtain ⟨hA, hl, hnc, hm⟩ := h0
  have hbx : Blk (w.alloc (.cells #[.int .i64 sn, .int .i64 ne, .int .i64 md, .int .i64 id, .slice A n c] 26)) w.heap.size 26 #[.int .i64 sn, .int .i64 ne, .int .i64 md, .int .i64 id, .slice A n c] := Blk.new _ _ _
  have hB : Below w.heap.size w (w.alloc (.cells #[.int .i64 sn, .int .i64 ne, .int .i64 md, .int .i64 id, .slice A n c] 26)) := (Below.refl _ _).alloc (Nat.le_refl _) _
  by_cases hbig : 1000 < n
  · have hbig' : (1000 : Int) < (n : Int) := by omega
    go_enter Try.func3, Try.ntmps3
    go_wp2_with fail
    refine (example_any _).mono ?_
    rintro e w1 ⟨rfl, hb1⟩
    go_wp2
    go_ret
    exact ⟨rfl, hB.trans (hb1.mono hB.size)⟩
  · have hbig' : (n : Int) ≤ (1000 : Int) := by omega
    have F0 := box5 hbx hB
    have D0 := box5 hbx.drew hB.drew
    go_enter Try.func3, Try.ntmps3
    go_wp2_with fail
    go_region_held3 (fun w' => w'.cell? ⟨w.heap.size, 0, none⟩ = some (.int .i64 sn) ∧ w'.cell? ⟨w.heap.size, 1, none⟩ = some (.int .i64 ne) ∧ w'.cell? ⟨w.heap.size, 2, none⟩ = some (.int .i64 md) ∧ w'.cell? ⟨w.heap.size, 3, none⟩ = some (.int .i64 id) ∧ w'.cell? ⟨w.heap.size, 4, none⟩ = some (.slice A n c) ∧ Below w.heap.size w w') (first | assumption | exact F0 | exact D0 | exact F1 | exact F2 | exact F3 | exact F4 | exact F5) (first
      | (go_at_call 10; (with_reducible refine (check_any sn ne md id A n c _).mono ?_); rintro e w1 ⟨rfl, hb1⟩; have hbx1 := hbx.drew.below hb1 hbx.lt; have hB1 : Below w.heap.size w w1 := hB.drew.trans (hb1.mono hB.size); have F1 := box5 hbx1 hB1)
      | (go_at_call 11; (with_reducible refine (rcheck_any sn ne md id A n c _).mono ?_); rintro e w2 ⟨rfl, hb2⟩; have hbx2 := hbx1.below hb2 hbx1.lt; have hB2 : Below w.heap.size w w2 := hB1.trans (hb2.mono hB1.size); have F2 := box5 hbx2 hB2)
      | (go_at_call 12; (with_reducible refine (blank_any id A n c _).mono ?_); rintro e w3 ⟨rfl, hb3⟩; have hbx3 := hbx2.below hb3 hbx2.lt; have hB3 : Below w.heap.size w w3 := hB2.trans (hb3.mono hB2.size); have F3 := box5 hbx3 hB3)
      | (go_at_call 13; (with_reducible refine (rblank_any id A n c _).mono ?_); rintro e w4 ⟨rfl, hb4⟩; have hbx4 := hbx3.below hb4 hbx3.lt; have hB4 : Below w.heap.size w w4 := hB3.trans (hb4.mono hB3.size); have F4 := box5 hbx4 hB4)
      | (go_at_call 9; (with_reducible refine (example_any _).mono ?_); rintro e w5 ⟨rfl, hb5⟩; have hbx5 := hbx4.below hb5 hbx4.lt; have hB5 : Below w.heap.size w w5 := hB4.trans (hb5.mono hB4.size); have F5 := box5 hbx5 hB5))
    go_wp2
    go_ret
    exact ⟨rfl, hB5⟩
set_option maxHeartbeats 1000000 in
theorem datapduEncodes_walk (sn ne md id : Int) (A : Option Addr) (n c : Nat) (l : List Nat) (w : World) (h0 : Rd w 1 A n (bv l) ∧ (∀ x ∈ l, x < 256) ∧ n ≤ c ∧ c ≤ maxLen) :
    Calls Try.prog 4 #[.agg #[.int .i64 sn, .int .i64 ne, .int .i64 md, .int .i64 id, .slice A n c]] w fun e w' => e = .returned (.bool true) ∧ Below w.heap.size w w' := by
  obtain ⟨hA, hl, hnc, hm⟩ := h0
  have hbx : Blk (w.alloc (.cells #[.int .i64 sn, .int .i64 ne, .int .i64 md, .int .i64 id, .slice A n c] 26)) w.heap.size 26 #[.int .i64 sn, .int .i64 ne, .int .i64 md, .int .i64 id, .slice A n c] := Blk.new _ _ _
  have hB : Below w.heap.size w (w.alloc (.cells #[.int .i64 sn, .int .i64 ne, .int .i64 md, .int .i64 id, .slice A n c] 26)) := (Below.refl _ _).alloc (Nat.le_refl _) _
  by_cases hbig : 1000 < n
  · have hbig' : (1000 : Int) < (n : Int) := by omega
    go_enter Try.func4, Try.ntmps4
    go_wp2_with fail
    refine (example_any _).mono ?_
    rintro e w1 ⟨rfl, hb1⟩
    go_wp2
    go_ret
    exact ⟨rfl, hB.trans (hb1.mono hB.size)⟩
  · have hbig' : (n : Int) ≤ (1000 : Int) := by omega
    have hlen := hA.blen
    have hbytes : ∀ x ∈ (if dchk sn ne md id n = 0 then denc sn ne md id l else []), x < 256 := by
      split
      · exact denc_bytes (by rw [hlen]; assumption) hl
      · intro x hx; cases hx
    obtain ⟨N, hN⟩ : ∃ N, N = (if dchk sn ne md id n = 0 then n + 2 else 0) := ⟨_, rfl⟩
    obtain ⟨L, hL⟩ : ∃ L, L = (if dchk sn ne md id n = 0 then denc sn ne md id l else []) := ⟨_, rfl⟩
    rw [← hL] at hbytes
    have HN := hide hN
    have HL := hide hL
    clear hN hL
    go_enter Try.func4, Try.ntmps4
    go_wp2_with fail
    refine (encode_any sn ne md id A n c l _ (hA.below hB) (by omega)).mono ?_
    rintro e w1 ⟨v1, rfl, hown1, hb1⟩
    rw [← HN.out, ← HL.out] at hown1
    obtain ⟨A1, c1, hv1, _, _, hr1⟩ := own_rd hown1
    rw [hv1]
    have B1 := hB.trans (hb1.mono hB.size)
    have hbx1 := hbx.below hb1 hbx.lt
    have q0 := hbx1.cell 0
    have q1 := hbx1.cell 1
    have q2 := hbx1.cell 2
    have q3 := hbx1.cell 3
    have q4 := hbx1.cell 4
    simp only [List.getElem?_toArray, List.getElem?_cons_zero, List.getElem?_cons_succ] at q0 q1 q2 q3 q4
    clear hown1
    go_wp2_with fail
    refine (rencode_any sn ne md id A n c l _ (hA.below B1) (by omega)).mono ?_
    rintro e w2 ⟨v2, rfl, hown2, hb2⟩
    rw [← HN.out, ← HL.out] at hown2
    obtain ⟨A2, c2, hv2, _, _, hr2⟩ := own_rd hown2
    rw [hv2]
    have B2 := B1.trans (hb2.mono B1.size)
    clear hown2
    go_wp2_with fail
    refine (same_any A1 A2 N N c1 c2 L L _ (hr1.below hb2) hr2 hbytes hbytes).mono ?_
    rintro e w' ⟨rfl, rfl⟩
    rw [decide_eq_true rfl]
    go_wp2_with fail
    refine (example_any _).mono ?_
    rintro e w3 ⟨rfl, hb3⟩
    go_wp2
    go_ret
    exact ⟨rfl, B2.trans (hb3.mono B2.size)⟩
set_option maxHeartbeats 1000000 in
theorem datapduDecodes_walk (A : Option Addr) (n c : Nat) (l : List Nat) (w : World) (h0 : Rd w 1 A n (bv l) ∧ (∀ x ∈ l, x < 256) ∧ n ≤ c ∧ c ≤ maxLen) :
    Calls Try.prog 5 #[.slice A n c] w fun e w' => e = .returned (.bool true) ∧ Below w.heap.size w w' := by
  obtain ⟨hA, hl, hnc, hm⟩ := h0
  by_cases hbig : 1000 < n
  · have hbig' : (1000 : Int) < (n : Int) := by omega
    go_enter Try.func5, Try.ntmps5
    go_wp2_with fail
    refine (example_any _).mono ?_
    rintro e w1 ⟨rfl, hb1⟩
    go_wp2
    go_ret
    exact ⟨rfl, hb1⟩
  · have hbig' : (n : Int) ≤ (1000 : Int) := by omega
    have hlp : ∀ x ∈ dpl l, x < 256 := by
      intro x hx
      unfold dpl at hx
      split at hx
      · exact hl x (List.mem_of_mem_drop hx)
      · cases hx
    obtain ⟨s, hs⟩ : ∃ s, s = dsn l := ⟨_, rfl⟩
    obtain ⟨e, he⟩ : ∃ e, e = dne l := ⟨_, rfl⟩
    obtain ⟨m, hm'⟩ : ∃ m, m = dmd l := ⟨_, rfl⟩
    obtain ⟨i, hi⟩ : ∃ i, i = did l := ⟨_, rfl⟩
    obtain ⟨E, hE⟩ : ∃ E, E = derr l := ⟨_, rfl⟩
    obtain ⟨N, hN⟩ : ∃ N, N = (dpl l).length := ⟨_, rfl⟩
    have c1 := decode_any A n c l w hA hl hnc (by omega)
    rw [← hs, ← he, ← hm', ← hi, ← hE, ← hN] at c1
    have c2 := fun w' h => rdecode_any A n c l w' h hl hnc (by omega)
    rw [← hs, ← he, ← hm', ← hi, ← hE, ← hN] at c2
    have C1 := hide c1
    have C2 := hide c2
    clear hs he hm' hi hE hN c1 c2
    go_enter Try.func5, Try.ntmps5
    go_wp2_with fail
    refine C1.out.mono ?_
    rintro e w1 ⟨v1, rfl, hown1, hb1⟩
    obtain ⟨A1, k1, hv1, _, _, hr1⟩ := own_rd hown1
    rw [hv1]
    have B1 := hb1
    have B1' := B1.alloc B1.size (.cells #[.int .i64 (s : Int), .int .i64 (e : Int), .int .i64 (m : Int), .int .i64 (i : Int), .slice A1 N k1] 26)
    have hp1 : Blk (w1.alloc (.cells #[.int .i64 (s : Int), .int .i64 (e : Int), .int .i64 (m : Int), .int .i64 (i : Int), .slice A1 N k1] 26)) w1.heap.size 26 #[.int .i64 (s : Int), .int .i64 (e : Int), .int .i64 (m : Int), .int .i64 (i : Int), .slice A1 N k1] := Blk.new _ _ _
    clear hown1
    go_wp2_with fail
    refine (C2.out _ (hA.below B1')).mono ?_
    rintro e2 w2 ⟨v2, rfl, hown2, hb2⟩
    obtain ⟨A2, k2, hv2, _, _, hr2⟩ := own_rd hown2
    rw [hv2]
    clear hown2
    have B2 := (B1'.trans (hb2.mono B1'.size)).alloc ((B1'.trans (hb2.mono B1'.size)).size) (.cells #[.int .i64 (s : Int), .int .i64 (e : Int), .int .i64 (m : Int), .int .i64 (i : Int), .slice A2 N k2] 26)
    have hp1' := (hp1.below hb2 hp1.lt).alloc (.cells #[.int .i64 (s : Int), .int .i64 (e : Int), .int .i64 (m : Int), .int .i64 (i : Int), .slice A2 N k2] 26)
    have hr1' := ((hr1.alloc (.cells #[.int .i64 (s : Int), .int .i64 (e : Int), .int .i64 (m : Int), .int .i64 (i : Int), .slice A1 N k1] 26)).below hb2).alloc (.cells #[.int .i64 (s : Int), .int .i64 (e : Int), .int .i64 (m : Int), .int .i64 (i : Int), .slice A2 N k2] 26)
    have hr2' := hr2.alloc (.cells #[.int .i64 (s : Int), .int .i64 (e : Int), .int .i64 (m : Int), .int .i64 (i : Int), .slice A2 N k2] 26)
    have q0 := hp1'.cell 0
    have q1 := hp1'.cell 1
    have q2 := hp1'.cell 2
    have q3 := hp1'.cell 3
    have q4 := hp1'.cell 4
    simp only [List.getElem?_toArray, List.getElem?_cons_zero, List.getElem?_cons_succ] at q0 q1 q2 q3 q4
    go_wp2_with fail
    refine (samepdu_any s e m i A1 A2 N k1 N k2 (dpl l) _ hr1' hr2' hlp).mono ?_
    rintro e3 w3 ⟨rfl, hb3⟩
    have B3 := B2.trans (hb3.mono B2.size)
    go_wp2_with fail
    refine (example_any _).mono ?_
    rintro e4 w4 ⟨rfl, hb4⟩
    go_wp2
    go_ret
    exact ⟨rfl, B3.trans (hb4.mono B3.size)⟩
end Go.Proofs.Yticefenffmebpaa
