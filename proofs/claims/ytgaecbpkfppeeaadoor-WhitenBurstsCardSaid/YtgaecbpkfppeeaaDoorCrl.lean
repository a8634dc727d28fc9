/-
  The examples that each statement on checksums asks for first: 'lives' returns true.
-/
import Derived.Test.YtgaecbpkfppeeaaDoorCrb
namespace Go.Proofs.YtgaecbpkfppeeaaDoor
set_option linter.unusedVariables false
set_option linter.unusedSimpArgs false
open Go.RowKit

theorem rd_const (w : World) (t : TypeId) (l : List Nat) (n : Nat) (h : l.length = n) : Rd (w.alloc (.cells (bv l).toArray t)) 1 (some ⟨w.heap.size, 0, none⟩) n (bv l) := (Blk.new w t _).rd (by rw [bv_length, h])
theorem rd_const2 (w : World) (t : TypeId) (l : List Nat) (n : Nat) (h : l.length = n) {b : Nat} (hb : b = w.heap.size) : Rd (w.alloc (.cells (bv l).toArray t)) 1 (some ⟨b, 0, none⟩) n (bv l) := by
  subst hb
  exact rd_const w t l n h
theorem below_step {w w1 w2 : World} (h : Below w.heap.size w w1) (o : Obj) (h2 : Below (w1.alloc o).heap.size (w1.alloc o) w2) : Below w.heap.size w w2 :=
  (h.alloc h.size o).trans (h2.mono (h.alloc h.size o).size)
set_option maxHeartbeats 4000000 in
theorem lives_any (w : World) (hT : Tab w) :
    Calls Tryd.prog 10 #[] w fun e w' => e = .returned (.bool true) ∧ Below w.heap.size w w' := by
  go_enter Tryd.func10, Tryd.ntmps10
  go_wp2_with fail
  refine (check_any 0 (by omega) _ 4 4 [128, 0, 96, 218] _ (hT.alloc _) (rd_const w _ [128, 0, 96, 218] 4 rfl) (by decide) (by omega) (by omega)).mono ?_
  rintro e w1 ⟨v1, rfl, hown1, hb1⟩
  rw [show cerr (0 % 16777216) [128, 0, 96, 218] = 0 by decide +kernel]
  rw [show cout (0 % 16777216) [128, 0, 96, 218] = [128] by decide +kernel] at hown1
  obtain ⟨A1, c1, rfl, hc1, hm1, hr1⟩ := own_rd hown1
  have B1 := below_step (Below.refl _ w) _ hb1
  have T1 := hT.below B1
  clear hown1 hb1
  go_wp2_with fail
  refine (check_any 0 (by omega) _ 4 4 [128, 0, 96, 219] _ (T1.alloc _) (rd_const w1 _ [128, 0, 96, 219] 4 rfl) (by decide) (by omega) (by omega)).mono ?_
  rintro e w2 ⟨v2, rfl, hown2, hb2⟩
  rw [show cerr (0 % 16777216) [128, 0, 96, 219] = 10 by decide +kernel]
  have B2 := below_step B1 _ hb2
  have T2 := hT.below B2
  have hr2 := (hr1.alloc _).below hb2
  clear hown2 hb2
  go_wp2_with fail
  refine (sum_any 5592405 (by omega) none 0 0 [] w2 T2 (Rd.none_ _ _ _) (by simp) (by omega)).mono ?_
  rintro e w' ⟨rfl, rfl⟩
  rw [show csum (5592405 % 16777216) [] = 5592405 by decide +kernel]
  go_wp2_with fail
  refine (sum_any 16777216 (by omega) none 0 0 [] w2 T2 (Rd.none_ _ _ _) (by simp) (by omega)).mono ?_
  rintro e w' ⟨rfl, rfl⟩
  rw [show csum (16777216 % 16777216) [] = 0 by decide +kernel]
  go_wp2_with fail
  have B3 := B2.alloc B2.size (.cells (bv [128]).toArray 5)
  have hr3 := hr2.alloc (.cells (bv [128]).toArray 5)
  have hs3 := rd_const w2 5 [128] 1 rfl
  obtain ⟨w3, hw3⟩ : ∃ w3, w3 = w2.alloc (.cells (bv [128]).toArray 5) := ⟨_, rfl⟩
  rw [← hw3] at B3 hr3 hs3
  have T3 := hT.below B3
  change Calls _ _ _ (w2.alloc (.cells (bv [128]).toArray 5)) _
  rw [← hw3]
  clear hw3
  refine (sum_any 0 (by omega) _ 1 1 [128] w3 T3 hs3 (by decide) (by omega)).mono ?_
  rintro e w' ⟨rfl, rfl⟩
  rw [show csum (0 % 16777216) [128] = 14311424 by decide +kernel]
  go_wp2_with fail
  have B4 := B3.alloc B3.size (.cells (bv [1]).toArray 5)
  have hr4 := hr3.alloc (.cells (bv [1]).toArray 5)
  have hs4 := rd_const w3 5 [1] 1 rfl
  obtain ⟨w4, hw4⟩ : ∃ w4, w4 = w3.alloc (.cells (bv [1]).toArray 5) := ⟨_, rfl⟩
  rw [← hw4] at B4 hr4 hs4
  have T4 := hT.below B4
  change Calls _ _ _ (w3.alloc (.cells (bv [1]).toArray 5)) _
  rw [← hw4]
  clear hw4
  refine (sum_any 0 (by omega) _ 1 1 [1] w4 T4 hs4 (by decide) (by omega)).mono ?_
  rintro e w' ⟨rfl, rfl⟩
  rw [show csum (0 % 16777216) [1] = 111808 by decide +kernel]
  go_wp2_with fail
  refine (shift_any 1 (by omega) 1 w4 T4).mono ?_
  rintro e w' ⟨rfl, rfl⟩
  rw [show cz (8 * ccut 1) (1 % 16777216) = 111808 by decide +kernel]
  go_wp2_with fail
  refine (append_any 0 (by omega) _ 1 1 [128] _ (T4.alloc _) (rd_const w4 _ [128] 1 rfl) (by decide) (by omega)).mono ?_
  rintro e w5 ⟨v5, rfl, hown5, hb5⟩
  rw [show [128] ++ ctail (csum (0 % 16777216) [128]) = [128, 0, 96, 218] by decide +kernel] at hown5
  obtain ⟨A5, c5, rfl, hc5, hm5, hr5⟩ := own_rd hown5
  have B5 := below_step B4 _ hb5
  have hr6 := (hr4.alloc _).below hb5
  clear hown5 hb5
  go_wp2_with fail
  refine (same_any _ _ _ _ _ _ [128, 0, 96, 218] [128, 0, 96, 218] _ (hr5.alloc _) (rd_const w5 _ [128, 0, 96, 218] 4 rfl) (by decide) (by decide)).mono ?_
  rintro e w6 ⟨rfl, rfl⟩
  rw [show decide ([128, 0, 96, 218] = [128, 0, 96, 218]) = true by decide]
  have B6 := B5.alloc B5.size (.cells (bv [128, 0, 96, 218]).toArray 5)
  have hr7 := hr6.alloc (.cells (bv [128, 0, 96, 218]).toArray 5)
  go_wp2_with fail
  refine (same_any A1 (some ⟨w5.heap.size + 1, 0, none⟩) 1 1 c1 1 [128] [128] ((w5.alloc (.cells (bv [128, 0, 96, 218]).toArray 5)).alloc (.cells (bv [128]).toArray 5)) (hr7.alloc _) (rd_const2 (w5.alloc (.cells (bv [128, 0, 96, 218]).toArray 5)) 5 [128] 1 rfl (by simp)) (by decide) (by decide)).mono ?_
  rintro e w7 ⟨rfl, rfl⟩
  rw [show decide ([128] = [128]) = true by decide]
  go_wp2
  go_ret
  exact ⟨rfl, B6.alloc B6.size _⟩
end Go.Proofs.YtgaecbpkfppeeaaDoor
