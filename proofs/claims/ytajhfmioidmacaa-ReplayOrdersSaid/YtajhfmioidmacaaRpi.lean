/-
  The walks of the laws ReplayCaches, ReplayChecks, ReplayOrders.
-/
import Derived.Test.YtajhfmioidmacaaRph
namespace Go.Proofs.Ytajhfmioidmacaa
set_option linter.unusedVariables false
set_option linter.unusedSimpArgs false
open Go.RowKit

theorem box3 {w' w : World} {g B : Nat} {t : TypeId} {a b c : Value} (h : Blk w' g t #[a, b, c]) (hB : Below B w w') :
    w'.cell? ⟨g, 0, none⟩ = some a ∧ w'.cell? ⟨g, 1, none⟩ = some b ∧ w'.cell? ⟨g, 2, none⟩ = some c ∧ Below B w w' := ⟨h.cell 0, h.cell 1, h.cell 2, hB⟩
set_option maxHeartbeats 2000000 in
theorem replayCaches_walk (A : Option Addr) (n c : Nat) (l : List Msg) (x : Msg) (w : World) (h0 : Rd w 3 A n (mv l) ∧ n ≤ c ∧ c ≤ maxLen) (_h1 : True) :
    Calls Try.prog 3 #[.slice A n c, .agg #[.int .u16 x.s, .int .u32 x.i, .int .u32 x.q]] w fun e w' => e = .returned (.bool true) ∧ Below w.heap.size w w' := by
  obtain ⟨hA, hnc, hm⟩ := h0
  have hB : Below w.heap.size w (w.alloc (.cells #[.int .u16 x.s, .int .u32 x.i, .int .u32 x.q] 26)) := (Below.refl _ _).alloc (Nat.le_refl _) _
  have k1 : Blk (w.alloc (.cells #[.int .u16 x.s, .int .u32 x.i, .int .u32 x.q] 26)) w.heap.size 26 #[.int .u16 x.s, .int .u32 x.i, .int .u32 x.q] := Blk.new _ _ _
  by_cases hbig : 600 < n
  · have hbig' : (600 : Int) < (n : Int) := by omega
    go_enter Try.func3, Try.ntmps3
    go_wp2_with fail
    refine (lives_any _).mono ?_
    rintro e w1 ⟨rfl, hb1⟩
    go_wp2
    go_ret
    exact ⟨rfl, hB.trans (hb1.mono hB.size)⟩
  · have hbig' : (n : Int) ≤ (600 : Int) := by omega
    have F0 := box3 k1 hB
    have D0 := box3 k1.drew hB.drew
    have hLn := rem_len l x
    obtain ⟨L, hL⟩ : ∃ L, L = rem l x := ⟨_, rfl⟩
    rw [← hL] at hLn
    have hLn2 : L.length ≤ 1000000 := Nat.le_trans hLn (by decide)
    have HL := hide hL
    clear hL hLn
    go_enter Try.func3, Try.ntmps3
    go_wp2_with fail
    go_region_held3 (fun w' => w'.cell? ⟨w.heap.size, 0, none⟩ = some (.int .u16 x.s) ∧ w'.cell? ⟨w.heap.size, 1, none⟩ = some (.int .u32 x.i) ∧ w'.cell? ⟨w.heap.size, 2, none⟩ = some (.int .u32 x.q) ∧ Below w.heap.size w w') (first | assumption | exact F0 | exact D0 | exact F1 | exact F2 | exact F3 | exact F4 | exact F5 | exact F6) (first
      | (go_at_call 8; (with_reducible refine (lives_any _).mono ?_); rintro e w1 ⟨rfl, hb1⟩; have m1 := k1.drew.below hb1 k1.lt; have B1 : Below w.heap.size w w1 := hB.drew.trans (hb1.mono hB.size); have F1 := box3 m1 B1)
      | (go_at_call 9; (with_reducible refine (seen_any A n c l x _ ?_ ?_).mono ?_); exact hA.below B1; omega; rintro e w2 ⟨rfl, hb2⟩; have m2 := m1.below hb2 m1.lt; have B2 : Below w.heap.size w w2 := B1.trans (hb2.mono B1.size); have F2 := box3 m2 B2)
      | (go_at_call 10; (with_reducible refine (rseen_any A n c l x _ ?_ ?_).mono ?_); exact hA.below B2; omega; rintro e w3 ⟨rfl, hb3⟩; have m3 := m2.below hb3 m2.lt; have B3 : Below w.heap.size w w3 := B2.trans (hb3.mono B2.size); have F3 := box3 m3 B3)
      | (go_at_call 12; (with_reducible refine (remember_any A n c l x _ ?_ hnc ?_).mono ?_); exact hA.below B3; omega; rintro e w4 ⟨v4, rfl, hown4, hb4⟩; rw [← HL.out] at hown4; obtain ⟨A4, c4, rfl, _, _, hr4⟩ := own_rdn hown4; have m4 := m3.below hb4 m3.lt; have B4 : Below w.heap.size w w4 := B3.trans (hb4.mono B3.size); have F4 := box3 m4 B4)
      | (go_at_call 13; (with_reducible refine (rremember_any A n c l x _ ?_ hnc ?_).mono ?_); exact hA.below B4; omega; rintro e w5 ⟨A5, c5, rfl, hr5, hb5⟩; rw [← HL.out] at hr5; rw [← HL.out]; have m5 := m4.below hb5 m4.lt; have B5 : Below w.heap.size w w5 := B4.trans (hb5.mono B4.size); have F5 := box3 m5 B5; have hr4' := hr4.below hb5)
      | (go_at_call 11; (with_reducible refine (same_any A4 A5 L.length L.length c4 c5 L L _ ?_ ?_ ?_ ?_).mono ?_); exact hr4'; exact hr5; exact hLn2; exact hLn2; rintro e w6 ⟨rfl, hb6⟩; rw [decide_eq_true rfl]; have m6 := m5.below hb6 m5.lt; have B6 : Below w.heap.size w w6 := B5.trans (hb6.mono B5.size); have F6 := box3 m6 B6))
    go_wp2
    go_ret
    exact ⟨rfl, B6⟩
set_option maxHeartbeats 2000000 in
theorem replayChecks_walk (A : Option Addr) (n c : Nat) (l : List Msg) (x : Msg) (w : World) (h0 : Rd w 3 A n (mv l) ∧ n ≤ c ∧ c ≤ maxLen) (_h1 : True) :
    Calls Try.prog 6 #[.slice A n c, .agg #[.int .u16 x.s, .int .u32 x.i, .int .u32 x.q]] w fun e w' => e = .returned (.bool true) ∧ Below w.heap.size w w' := by
  obtain ⟨hA, hnc, hm⟩ := h0
  have hlen := hA.mlen
  have hB : Below w.heap.size w (w.alloc (.cells #[.int .u16 x.s, .int .u32 x.i, .int .u32 x.q] 26)) := (Below.refl _ _).alloc (Nat.le_refl _) _
  have k1 : Blk (w.alloc (.cells #[.int .u16 x.s, .int .u32 x.i, .int .u32 x.q] 26)) w.heap.size 26 #[.int .u16 x.s, .int .u32 x.i, .int .u32 x.q] := Blk.new _ _ _
  by_cases hbig : 100 < n
  · have hbig' : (100 : Int) < (n : Int) := by omega
    go_enter Try.func6, Try.ntmps6
    go_wp2_with fail
    refine (lives_any _).mono ?_
    rintro e w1 ⟨rfl, hb1⟩
    go_wp2
    go_ret
    exact ⟨rfl, hB.trans (hb1.mono hB.size)⟩
  · have hbig' : (n : Int) ≤ (100 : Int) := by omega
    have haln : (acc l x).1.length ≤ 101 := by
      rcases acc_cases l x with ⟨_, h⟩ | ⟨_, _, h⟩ | ⟨k, _, _, _, h⟩ <;> rw [h] <;> simp <;> omega
    obtain ⟨L, hL⟩ : ∃ L, L = (acc l x).1 := ⟨_, rfl⟩
    obtain ⟨E, hE⟩ : ∃ E, E = (acc l x).2 := ⟨_, rfl⟩
    rw [← hL] at haln
    have HL := hide hL
    have HE := hide hE
    clear hL hE
    go_enter Try.func6, Try.ntmps6
    go_wp2_with fail
    refine (accept_any A n c l x _ (hA.below hB) hnc (by omega)).mono ?_
    rintro e w1 ⟨v1, rfl, hown1, hb1⟩
    rw [← HL.out] at hown1
    rw [← HE.out]
    obtain ⟨A1, c1, hv1, _, _, hr1⟩ := own_rdn hown1
    rw [hv1]
    have B1 := hB.trans (hb1.mono hB.size)
    have m1 := k1.below hb1 k1.lt
    obtain ⟨p0, p1, p2⟩ := at3 m1
    clear hown1
    go_wp2_with fail
    refine (raccept_any A n c l x _ (hA.below B1) hnc (by omega)).mono ?_
    rintro e w2 ⟨v2, rfl, hown2, hb2⟩
    rw [← HL.out] at hown2
    rw [← HE.out]
    obtain ⟨A2, c2, hv2, _, _, hr2⟩ := own_rdn hown2
    rw [hv2]
    have B2 := B1.trans (hb2.mono B1.size)
    have m2 := m1.below hb2 m1.lt
    have hr1' := hr1.below hb2
    clear hown2 hv1 hv2 p0 p1 p2
    have F2 := box3 m2 B2
    have D2 := box3 m2.drew B2.drew
    go_wp2_with fail
    go_region_held3 (fun w' => w'.cell? ⟨w.heap.size, 0, none⟩ = some (.int .u16 x.s) ∧ w'.cell? ⟨w.heap.size, 1, none⟩ = some (.int .u32 x.i) ∧ w'.cell? ⟨w.heap.size, 2, none⟩ = some (.int .u32 x.q) ∧ Below w.heap.size w w') (first | assumption | exact F2 | exact D2 | exact F3 | exact F4 | exact F5 | exact F6) (first
      | (go_at_call 8; (with_reducible refine (lives_any _).mono ?_); rintro e w3 ⟨rfl, hb3⟩; have m3 := m2.drew.below hb3 m2.lt; have B3 : Below w.heap.size w w3 := B2.drew.trans (hb3.mono B2.size); have F3 := box3 m3 B3; have hr13 := hr1'.drew.below hb3; have hr23 := hr2.drew.below hb3)
      | (go_at_call 18; (with_reducible refine (check_any A n c l x _ ?_ ?_).mono ?_); exact hA.below B3; omega; rintro e w4 ⟨rfl, hb4⟩; have m4 := m3.below hb4 m3.lt; have B4 : Below w.heap.size w w4 := B3.trans (hb4.mono B3.size); have F4 := box3 m4 B4)
      | (go_at_call 19; (with_reducible refine (rcheck_any A n c l x _ ?_ ?_).mono ?_); exact hA.below B4; omega; rintro e w5 ⟨rfl, hb5⟩; have m5 := m4.below hb5 m4.lt; have B5 : Below w.heap.size w w5 := B4.trans (hb5.mono B4.size); have F5 := box3 m5 B5; have hr15 := (hr13.below hb4).below hb5; have hr25 := (hr23.below hb4).below hb5)
      | (go_at_call 20; (with_reducible refine (samerows_any A1 A2 L.length L.length c1 c2 L L _ ?_ ?_ ?_ ?_).mono ?_); exact hr15; exact hr25; omega; omega; rintro e w6 ⟨rfl, hb6⟩; rw [decide_eq_true rfl]; have m6 := m5.below hb6 m5.lt; have B6 : Below w.heap.size w w6 := B5.trans (hb6.mono B5.size); have F6 := box3 m6 B6))
    go_wp2
    go_ret
    exact ⟨rfl, B6⟩
end Go.Proofs.Ytajhfmioidmacaa
