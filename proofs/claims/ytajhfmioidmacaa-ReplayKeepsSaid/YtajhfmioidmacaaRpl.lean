/-
  The walk of the law ReplayKeeps.
-/
import Derived.Test.YtajhfmioidmacaaRph
import Derived.Test.YtajhfmioidmacaaRpk
namespace Go.Proofs.Ytajhfmioidmacaa
set_option linter.unusedVariables false
set_option linter.unusedSimpArgs false
open Go.RowKit

theorem nodup_at {l : List Msg} {i j : Nat} {x y : Msg} (h : l.Nodup) (hi : l[i]? = some x) (hj : l[j]? = some y) (hij : i < j) : x ≠ y := by
  obtain ⟨hli, rfl⟩ := List.getElem?_eq_some_iff.1 hi
  obtain ⟨hlj, rfl⟩ := List.getElem?_eq_some_iff.1 hj
  intro e
  have := (List.nodup_iff_pairwise_ne.1 h)
  rw [List.pairwise_iff_getElem] at this
  exact this i j hli hlj hij e
theorem rem_grow {C : List Msg} {x : Msg} (h : x ∉ C) (hC : C.length + 1 ≤ 256) : rem C x = C ++ [x] := by
  rw [rem_fresh h, show C.length + 1 - CS = 0 by have := cs_eq; omega, List.drop_zero]
theorem rem_shift {C : List Msg} {x : Msg} (h : x ∉ C) (hC : C.length = 256) : rem C x = C.drop 1 ++ [x] := by
  rw [rem_fresh h, show C.length + 1 - CS = 1 by have := cs_eq; omega]
set_option maxRecDepth 100000 in
set_option maxHeartbeats 8000000 in
theorem replayKeeps_walk (A : Option Addr) (n c : Nat) (l : List Msg) (w : World) (h0 : Rd w 3 A n (mv l) ∧ n ≤ c ∧ c ≤ maxLen) :
    Calls Try.prog 4 #[.slice A n c] w fun e w' => e = .returned (.bool true) ∧ Below w.heap.size w w' := by
  obtain ⟨hA, hnc, hm⟩ := h0
  by_cases hbig : 400 < n
  · have hbig' : (400 : Int) < (n : Int) := by omega
    go_enter Try.func4, Try.ntmps4
    go_wp2_with fail
    refine (lives_any _).mono ?_
    rintro e w1 ⟨rfl, hb1⟩
    go_wp2
    go_ret
    exact ⟨rfl, hb1⟩
  · have hbig' : (n : Int) ≤ (400 : Int) := by omega
    have HL := hide hA.mlen
    go_enter Try.func4, Try.ntmps4
    go_wp2
    go_loopw [3, 4] (fun v i wr => ∃ (k m cap : Nat) (C : List Msg) (B : Option Addr), k ≤ n ∧ i = .int .i64 k ∧ v = .slice B m cap ∧ m ≤ cap ∧ Hid (C = caches (l.take k)) ∧ Rd wr 3 B m (mv C) ∧ Below w.heap.size w wr) (fun _ i _ => n - (intOf i).toNat)
    case atStart => exact ⟨0, 0, 0, [], none, Nat.zero_le _, rfl, rfl, Nat.le_refl _, hide rfl, Rd.none_ _ _ _, Below.refl _ _⟩
    case round =>
      obtain ⟨k, m, cap, C, B, hk, rfl, rfl, hmc, HC, hC, hbe⟩ := hrel
      have hgood := caches_good (l.take k)
      rw [← HC.out] at hgood
      obtain ⟨hC256, hCn⟩ := hgood
      have hCm := hC.mlen
      have hm256 : (m : Int) ≤ 256 := by omega
      have HN := hide hCn
      have HC256 := hide hC256
      have HCm := hide hCm
      clear hCn hC256 hCm
      by_cases hlt : k < n
      · obtain ⟨b, o, x, rfl, hbs, HX, p0, p1, p2⟩ := (hA.below hbe).msg hlt
        have hsz := hbe.size
        have HN1 := hide (caches_snoc HX.out)
        by_cases hx : x ∈ C
        · have HR := hide (rem_known hx HC256.out)
          have HRL := hide HCm.out
          have HM := hide (decide_eq_true hx)
          have HM2 := HM
          have hm0 : ((m : Int) == 0) = false := by
            rw [beq_eq_false_iff_ne]
            have := List.length_pos_of_mem hx
            have := HCm.out
            omega
          have hm1 : 0 < m := by
            have := List.length_pos_of_mem hx
            have := HCm.out
            omega
          clear hx
          go_wp2_with fail
          refine (seen_any B m cap C x _ hC (by omega)).mono ?_
          rintro e w1 ⟨rfl, hb1⟩
          rw [HM.out]
          have q0 := (hb1.cell (p := ⟨b, o + k * 3, none⟩) hbs).trans p0
          have q1 := (hb1.cell (p := ⟨b, o + k * 3 + 1, none⟩) hbs).trans p1
          have q2 := (hb1.cell (p := ⟨b, o + k * 3 + 2, none⟩) hbs).trans p2
          go_wp2_with fail
          refine (remember_any B m cap C x _ (hC.below hb1) hmc (by omega)).mono ?_
          rintro e w2 ⟨v2, rfl, hown2, hb2⟩
          rw [HR.out, HRL.out] at hown2
          obtain ⟨A2, c2, hv2, hc2, _, hr2⟩ := own_rdn hown2
          rw [hv2]
          clear hown2 hv2 q0 q1 q2
          have hb12 := hb1.trans (hb2.mono hb1.size)
          have s0 := (hb12.cell (p := ⟨b, o + k * 3, none⟩) hbs).trans p0
          have s1 := (hb12.cell (p := ⟨b, o + k * 3 + 1, none⟩) hbs).trans p1
          have s2 := (hb12.cell (p := ⟨b, o + k * 3 + 2, none⟩) hbs).trans p2
          go_wp2_with fail
          refine (seen_any A2 m c2 C x _ hr2 (by omega)).mono ?_
          rintro e w3 ⟨rfl, hb3⟩
          rw [HM2.out]
          have hb123 := hb12.trans (hb3.mono hb12.size)
          have B3 := hbe.trans (hb123.mono hsz)
          have hr3 := hr2.below hb3
          have hC3 := hC.below hb123
          clear s0 s1 s2 hr2 hb1 hb2 hb12
          go_wp2_with fail
          refine wp_region_held_drew (S := fun w' => Below w.heap.size w w') (by kernel_rfl) ?_ (fun hHeld => ?_)
          · exact B3.drew
          refine' wpAnyH_take (i := 0) ?hibx0 ?hsbx0 ?hfbx0 ?hrbx0 ?hQbx0 ?hybx0 ?hSbx0 ?restbx0
          case hibx0 =>
            simp only [List.getElem?_toArray, List.getElem?_cons_succ, List.getElem?_cons_zero]
            all_goals rfl
          case hsbx0 => kernel_rfl
          case hfbx0 => kernel_rfl
          case hrbx0 => kernel_rfl
          case hQbx0 => exact fun _ _ _ h => h
          case hSbx0 => assumption
          case hybx0 =>
            refine Or.inl ⟨by rfl, ?_⟩
            intro w hSw
            try dsimp only at hSw
            go_simp
            all_goals with_reducible rfl
          try simp only [Act.put, List.setIfInBounds_toArray, List.set_cons_zero, List.set_cons_succ]
          refine' wpAnyH_take (i := 1) ?hibx1 ?hsbx1 ?hfbx1 ?hrbx1 ?hQbx1 ?hybx1 ?hSbx1 ?restbx1
          case hibx1 =>
            simp only [List.getElem?_toArray, List.getElem?_cons_succ, List.getElem?_cons_zero]
            all_goals rfl
          case hsbx1 => kernel_rfl
          case hfbx1 => kernel_rfl
          case hrbx1 => kernel_rfl
          case hQbx1 => exact fun _ _ _ h => h
          case hSbx1 => assumption
          case hybx1 =>
            refine Or.inl ⟨by rfl, ?_⟩
            intro w hSw
            try dsimp only at hSw
            go_simp
            all_goals with_reducible rfl
          try simp only [Act.put, List.setIfInBounds_toArray, List.set_cons_zero, List.set_cons_succ]
          refine' wpAnyH_take (i := 2) ?hibx2 ?hsbx2 ?hfbx2 ?hrbx2 ?hQbx2 ?hybx2 ?hSbx2 ?restbx2
          case hibx2 =>
            simp only [List.getElem?_toArray, List.getElem?_cons_succ, List.getElem?_cons_zero]
            all_goals rfl
          case hsbx2 => kernel_rfl
          case hfbx2 => kernel_rfl
          case hrbx2 => kernel_rfl
          case hQbx2 => exact fun _ _ _ h => h
          case hSbx2 => assumption
          case hybx2 =>
            refine Or.inl ⟨by rfl, ?_⟩
            intro w hSw
            try dsimp only at hSw
            go_simp
            all_goals with_reducible rfl
          try simp only [Act.put, List.setIfInBounds_toArray, List.set_cons_zero, List.set_cons_succ]
          refine' wpAnyH_take (i := 3) ?hibx3 ?hsbx3 ?hfbx3 ?hrbx3 ?hQbx3 ?hybx3 ?hSbx3 ?restbx3
          case hibx3 =>
            simp only [List.getElem?_toArray, List.getElem?_cons_succ, List.getElem?_cons_zero]
            all_goals rfl
          case hsbx3 => kernel_rfl
          case hfbx3 => kernel_rfl
          case hrbx3 => kernel_rfl
          case hQbx3 => exact fun _ _ _ h => h
          case hSbx3 => assumption
          case hybx3 =>
            refine Or.inl ⟨by rfl, ?_⟩
            intro w hSw
            try dsimp only at hSw
            go_simp
            all_goals with_reducible rfl
          try simp only [Act.put, List.setIfInBounds_toArray, List.set_cons_zero, List.set_cons_succ]
          refine wpAnyH_ready (rs := [4]) (by kernel_rfl) (by simp) ?_
          refine AllReadyH.cons rfl (fun K hK => ?_) AllReadyH.nil
          go_simp
          refine (same_any A2 B m m c2 cap C C _ hr3.drew hC3.drew (by omega) (by omega)).mono ?_
          rintro e w4 ⟨rfl, hbw4⟩
          rw [decide_eq_true rfl]
          have Bw4 : Below w.heap.size w w4 := B3.drew.trans (hbw4.mono B3.drew.size)
          try go_wp2_with fail
          refine hK.out _ _ ?_ (fun hHeld => ?_)
          · exact Bw4
          clear hK K
          try simp only [Act.put, List.setIfInBounds_toArray, List.set_cons_zero, List.set_cons_succ]
          refine' wpAnyH_take (i := 5) ?hibx5 ?hsbx5 ?hfbx5 ?hrbx5 ?hQbx5 ?hybx5 ?hSbx5 ?restbx5
          case hibx5 =>
            simp only [List.getElem?_toArray, List.getElem?_cons_succ, List.getElem?_cons_zero]
            all_goals rfl
          case hsbx5 => kernel_rfl
          case hfbx5 => kernel_rfl
          case hrbx5 => kernel_rfl
          case hQbx5 => exact fun _ _ _ h => h
          case hSbx5 => assumption
          case hybx5 =>
            refine Or.inl ⟨by rfl, ?_⟩
            intro w hSw
            try dsimp only at hSw
            go_simp
            all_goals with_reducible rfl
          try simp only [Act.put, List.setIfInBounds_toArray, List.set_cons_zero, List.set_cons_succ]
          refine' wpAnyH_take (i := 6) ?hibx6 ?hsbx6 ?hfbx6 ?hrbx6 ?hQbx6 ?hybx6 ?hSbx6 ?restbx6
          case hibx6 =>
            simp only [List.getElem?_toArray, List.getElem?_cons_succ, List.getElem?_cons_zero]
            all_goals rfl
          case hsbx6 => kernel_rfl
          case hfbx6 => kernel_rfl
          case hrbx6 => kernel_rfl
          case hQbx6 => exact fun _ _ _ h => h
          case hSbx6 => assumption
          case hybx6 =>
            refine Or.inl ⟨by rfl, ?_⟩
            intro w hSw
            try dsimp only at hSw
            go_simp
            all_goals with_reducible rfl
          try simp only [Act.put, List.setIfInBounds_toArray, List.set_cons_zero, List.set_cons_succ]
          refine' wpAnyH_take (i := 7) ?hibx7 ?hsbx7 ?hfbx7 ?hrbx7 ?hQbx7 ?hybx7 ?hSbx7 ?restbx7
          case hibx7 =>
            simp only [List.getElem?_toArray, List.getElem?_cons_succ, List.getElem?_cons_zero]
            all_goals rfl
          case hsbx7 => kernel_rfl
          case hfbx7 => kernel_rfl
          case hrbx7 => kernel_rfl
          case hQbx7 => exact fun _ _ _ h => h
          case hSbx7 => assumption
          case hybx7 =>
            refine Or.inl ⟨by rfl, ?_⟩
            intro w hSw
            try dsimp only at hSw
            go_simp
            all_goals with_reducible rfl
          try simp only [Act.put, List.setIfInBounds_toArray, List.set_cons_zero, List.set_cons_succ]
          refine' wpAnyH_take (i := 8) ?hibx8 ?hsbx8 ?hfbx8 ?hrbx8 ?hQbx8 ?hybx8 ?hSbx8 ?restbx8
          case hibx8 =>
            simp only [List.getElem?_toArray, List.getElem?_cons_succ, List.getElem?_cons_zero]
            all_goals rfl
          case hsbx8 => kernel_rfl
          case hfbx8 => kernel_rfl
          case hrbx8 => kernel_rfl
          case hQbx8 => exact fun _ _ _ h => h
          case hSbx8 => assumption
          case hybx8 =>
            refine Or.inl ⟨by rfl, ?_⟩
            intro w hSw
            try dsimp only at hSw
            go_simp
            all_goals with_reducible rfl
          try simp only [Act.put, List.setIfInBounds_toArray, List.set_cons_zero, List.set_cons_succ]
          refine' wpAnyH_take (i := 9) ?hibx9 ?hsbx9 ?hfbx9 ?hrbx9 ?hQbx9 ?hybx9 ?hSbx9 ?restbx9
          case hibx9 =>
            simp only [List.getElem?_toArray, List.getElem?_cons_succ, List.getElem?_cons_zero]
            all_goals rfl
          case hsbx9 => kernel_rfl
          case hfbx9 => kernel_rfl
          case hrbx9 => kernel_rfl
          case hQbx9 => exact fun _ _ _ h => h
          case hSbx9 => assumption
          case hybx9 =>
            refine Or.inl ⟨by rfl, ?_⟩
            intro w hSw
            try dsimp only at hSw
            go_simp
            all_goals with_reducible rfl
          try simp only [Act.put, List.setIfInBounds_toArray, List.set_cons_zero, List.set_cons_succ]
          refine' wpAnyH_take (i := 10) ?hibx10 ?hsbx10 ?hfbx10 ?hrbx10 ?hQbx10 ?hybx10 ?hSbx10 ?restbx10
          case hibx10 =>
            simp only [List.getElem?_toArray, List.getElem?_cons_succ, List.getElem?_cons_zero]
            all_goals rfl
          case hsbx10 => kernel_rfl
          case hfbx10 => kernel_rfl
          case hrbx10 => kernel_rfl
          case hQbx10 => exact fun _ _ _ h => h
          case hSbx10 => assumption
          case hybx10 =>
            refine Or.inl ⟨by rfl, ?_⟩
            intro w hSw
            try dsimp only at hSw
            go_simp
            all_goals with_reducible rfl
          try simp only [Act.put, List.setIfInBounds_toArray, List.set_cons_zero, List.set_cons_succ]
          refine' wpAnyH_take (i := 11) ?hibx11 ?hsbx11 ?hfbx11 ?hrbx11 ?hQbx11 ?hybx11 ?hSbx11 ?restbx11
          case hibx11 =>
            simp only [List.getElem?_toArray, List.getElem?_cons_succ, List.getElem?_cons_zero]
            all_goals rfl
          case hsbx11 => kernel_rfl
          case hfbx11 => kernel_rfl
          case hrbx11 => kernel_rfl
          case hQbx11 => exact fun _ _ _ h => h
          case hSbx11 => assumption
          case hybx11 => exact Or.inr ⟨by rfl, rfl⟩
          try simp only [Act.put, List.setIfInBounds_toArray, List.set_cons_zero, List.set_cons_succ]
          refine' wpAnyH_take (i := 12) ?hibx12 ?hsbx12 ?hfbx12 ?hrbx12 ?hQbx12 ?hybx12 ?hSbx12 ?restbx12
          case hibx12 =>
            simp only [List.getElem?_toArray, List.getElem?_cons_succ, List.getElem?_cons_zero]
            all_goals rfl
          case hsbx12 => kernel_rfl
          case hfbx12 => kernel_rfl
          case hrbx12 => kernel_rfl
          case hQbx12 => exact fun _ _ _ h => h
          case hSbx12 => assumption
          case hybx12 => exact Or.inr ⟨by rfl, rfl⟩
          try simp only [Act.put, List.setIfInBounds_toArray, List.set_cons_zero, List.set_cons_succ]
          refine' wpAnyH_take (i := 13) ?hibx13 ?hsbx13 ?hfbx13 ?hrbx13 ?hQbx13 ?hybx13 ?hSbx13 ?restbx13
          case hibx13 =>
            simp only [List.getElem?_toArray, List.getElem?_cons_succ, List.getElem?_cons_zero]
            all_goals rfl
          case hsbx13 => kernel_rfl
          case hfbx13 => kernel_rfl
          case hrbx13 => kernel_rfl
          case hQbx13 => exact fun _ _ _ h => h
          case hSbx13 => assumption
          case hybx13 => exact Or.inr ⟨by rfl, rfl⟩
          try simp only [Act.put, List.setIfInBounds_toArray, List.set_cons_zero, List.set_cons_succ]
          refine' wpAnyH_take (i := 14) ?hibx14 ?hsbx14 ?hfbx14 ?hrbx14 ?hQbx14 ?hybx14 ?hSbx14 ?restbx14
          case hibx14 =>
            simp only [List.getElem?_toArray, List.getElem?_cons_succ, List.getElem?_cons_zero]
            all_goals rfl
          case hsbx14 => kernel_rfl
          case hfbx14 => kernel_rfl
          case hrbx14 => kernel_rfl
          case hQbx14 => exact fun _ _ _ h => h
          case hSbx14 => assumption
          case hybx14 => exact Or.inr ⟨by rfl, rfl⟩
          try simp only [Act.put, List.setIfInBounds_toArray, List.set_cons_zero, List.set_cons_succ]
          refine' wpAnyH_take (i := 15) ?hibx15 ?hsbx15 ?hfbx15 ?hrbx15 ?hQbx15 ?hybx15 ?hSbx15 ?restbx15
          case hibx15 =>
            simp only [List.getElem?_toArray, List.getElem?_cons_succ, List.getElem?_cons_zero]
            all_goals rfl
          case hsbx15 => kernel_rfl
          case hfbx15 => kernel_rfl
          case hrbx15 => kernel_rfl
          case hQbx15 => exact fun _ _ _ h => h
          case hSbx15 => assumption
          case hybx15 => exact Or.inr ⟨by rfl, rfl⟩
          try simp only [Act.put, List.setIfInBounds_toArray, List.set_cons_zero, List.set_cons_succ]
          refine' wpAnyH_take (i := 16) ?hibx16 ?hsbx16 ?hfbx16 ?hrbx16 ?hQbx16 ?hybx16 ?hSbx16 ?restbx16
          case hibx16 =>
            simp only [List.getElem?_toArray, List.getElem?_cons_succ, List.getElem?_cons_zero]
            all_goals rfl
          case hsbx16 => kernel_rfl
          case hfbx16 => kernel_rfl
          case hrbx16 => kernel_rfl
          case hQbx16 => exact fun _ _ _ h => h
          case hSbx16 => assumption
          case hybx16 => exact Or.inr ⟨by rfl, rfl⟩
          try simp only [Act.put, List.setIfInBounds_toArray, List.set_cons_zero, List.set_cons_succ]
          refine' wpAnyH_take (i := 17) ?hibx17 ?hsbx17 ?hfbx17 ?hrbx17 ?hQbx17 ?hybx17 ?hSbx17 ?restbx17
          case hibx17 =>
            simp only [List.getElem?_toArray, List.getElem?_cons_succ, List.getElem?_cons_zero]
            all_goals rfl
          case hsbx17 => kernel_rfl
          case hfbx17 => kernel_rfl
          case hrbx17 => kernel_rfl
          case hQbx17 => exact fun _ _ _ h => h
          case hSbx17 => assumption
          case hybx17 => exact Or.inr ⟨by rfl, rfl⟩
          try simp only [Act.put, List.setIfInBounds_toArray, List.set_cons_zero, List.set_cons_succ]
          refine' wpAnyH_take (i := 18) ?hibx18 ?hsbx18 ?hfbx18 ?hrbx18 ?hQbx18 ?hybx18 ?hSbx18 ?restbx18
          case hibx18 =>
            simp only [List.getElem?_toArray, List.getElem?_cons_succ, List.getElem?_cons_zero]
            all_goals rfl
          case hsbx18 => kernel_rfl
          case hfbx18 => kernel_rfl
          case hrbx18 => kernel_rfl
          case hQbx18 => exact fun _ _ _ h => h
          case hSbx18 => assumption
          case hybx18 => exact Or.inr ⟨by rfl, rfl⟩
          try simp only [Act.put, List.setIfInBounds_toArray, List.set_cons_zero, List.set_cons_succ]
          refine' wpAnyH_take (i := 19) ?hibx19 ?hsbx19 ?hfbx19 ?hrbx19 ?hQbx19 ?hybx19 ?hSbx19 ?restbx19
          case hibx19 =>
            simp only [List.getElem?_toArray, List.getElem?_cons_succ, List.getElem?_cons_zero]
            all_goals rfl
          case hsbx19 => kernel_rfl
          case hfbx19 => kernel_rfl
          case hrbx19 => kernel_rfl
          case hQbx19 => exact fun _ _ _ h => h
          case hSbx19 => assumption
          case hybx19 => exact Or.inr ⟨by rfl, rfl⟩
          try simp only [Act.put, List.setIfInBounds_toArray, List.set_cons_zero, List.set_cons_succ]
          refine' wpAnyH_take (i := 20) ?hibx20 ?hsbx20 ?hfbx20 ?hrbx20 ?hQbx20 ?hybx20 ?hSbx20 ?restbx20
          case hibx20 =>
            simp only [List.getElem?_toArray, List.getElem?_cons_succ, List.getElem?_cons_zero]
            all_goals rfl
          case hsbx20 => kernel_rfl
          case hfbx20 => kernel_rfl
          case hrbx20 => kernel_rfl
          case hQbx20 => exact fun _ _ _ h => h
          case hSbx20 => assumption
          case hybx20 => exact Or.inr ⟨by rfl, rfl⟩
          try simp only [Act.put, List.setIfInBounds_toArray, List.set_cons_zero, List.set_cons_succ]
          refine' wpAnyH_take (i := 21) ?hibx21 ?hsbx21 ?hfbx21 ?hrbx21 ?hQbx21 ?hybx21 ?hSbx21 ?restbx21
          case hibx21 =>
            simp only [List.getElem?_toArray, List.getElem?_cons_succ, List.getElem?_cons_zero]
            all_goals rfl
          case hsbx21 => kernel_rfl
          case hfbx21 => kernel_rfl
          case hrbx21 => kernel_rfl
          case hQbx21 => exact fun _ _ _ h => h
          case hSbx21 => assumption
          case hybx21 => exact Or.inr ⟨by rfl, rfl⟩
          try simp only [Act.put, List.setIfInBounds_toArray, List.set_cons_zero, List.set_cons_succ]
          refine' wpAnyH_take (i := 22) ?hibx22 ?hsbx22 ?hfbx22 ?hrbx22 ?hQbx22 ?hybx22 ?hSbx22 ?restbx22
          case hibx22 =>
            simp only [List.getElem?_toArray, List.getElem?_cons_succ, List.getElem?_cons_zero]
            all_goals rfl
          case hsbx22 => kernel_rfl
          case hfbx22 => kernel_rfl
          case hrbx22 => kernel_rfl
          case hQbx22 => exact fun _ _ _ h => h
          case hSbx22 => assumption
          case hybx22 =>
            refine Or.inl ⟨by rfl, ?_⟩
            intro w hSw
            try dsimp only at hSw
            go_simp
            all_goals with_reducible rfl
          try simp only [Act.put, List.setIfInBounds_toArray, List.set_cons_zero, List.set_cons_succ]
          refine' wpAnyH_take (i := 23) ?hibx23 ?hsbx23 ?hfbx23 ?hrbx23 ?hQbx23 ?hybx23 ?hSbx23 ?restbx23
          case hibx23 =>
            simp only [List.getElem?_toArray, List.getElem?_cons_succ, List.getElem?_cons_zero]
            all_goals rfl
          case hsbx23 => kernel_rfl
          case hfbx23 => kernel_rfl
          case hrbx23 => kernel_rfl
          case hQbx23 => exact fun _ _ _ h => h
          case hSbx23 => assumption
          case hybx23 =>
            refine Or.inl ⟨by rfl, ?_⟩
            intro w hSw
            try dsimp only at hSw
            go_simp
            all_goals with_reducible rfl
          try simp only [Act.put, List.setIfInBounds_toArray, List.set_cons_zero, List.set_cons_succ]
          refine wpAnyH_done (by kernel_rfl) ?_ _
          go_wp2_with fail
          refine wp_region_held_drew (S := fun w' => Below w.heap.size w w') (by kernel_rfl) ?_ (fun hHeld => ?_)
          · exact Bw4.drew
          refine' wpAnyH_take (i := 0) ?hicx0 ?hscx0 ?hfcx0 ?hrcx0 ?hQcx0 ?hycx0 ?hScx0 ?restcx0
          case hicx0 =>
            simp only [List.getElem?_toArray, List.getElem?_cons_succ, List.getElem?_cons_zero]
            all_goals rfl
          case hscx0 => kernel_rfl
          case hfcx0 => kernel_rfl
          case hrcx0 => kernel_rfl
          case hQcx0 => exact fun _ _ _ h => h
          case hScx0 => assumption
          case hycx0 =>
            refine Or.inl ⟨by rfl, ?_⟩
            intro w hSw
            try dsimp only at hSw
            go_simp
            all_goals with_reducible rfl
          try simp only [Act.put, List.setIfInBounds_toArray, List.set_cons_zero, List.set_cons_succ]
          refine' wpAnyH_take (i := 1) ?hicx1 ?hscx1 ?hfcx1 ?hrcx1 ?hQcx1 ?hycx1 ?hScx1 ?restcx1
          case hicx1 =>
            simp only [List.getElem?_toArray, List.getElem?_cons_succ, List.getElem?_cons_zero]
            all_goals rfl
          case hscx1 => kernel_rfl
          case hfcx1 => kernel_rfl
          case hrcx1 => kernel_rfl
          case hQcx1 => exact fun _ _ _ h => h
          case hScx1 => assumption
          case hycx1 =>
            refine Or.inl ⟨by rfl, ?_⟩
            intro w hSw
            try dsimp only at hSw
            go_simp
            all_goals with_reducible rfl
          try simp only [Act.put, List.setIfInBounds_toArray, List.set_cons_zero, List.set_cons_succ]
          refine' wpAnyH_take (i := 2) ?hicx2 ?hscx2 ?hfcx2 ?hrcx2 ?hQcx2 ?hycx2 ?hScx2 ?restcx2
          case hicx2 =>
            simp only [List.getElem?_toArray, List.getElem?_cons_succ, List.getElem?_cons_zero]
            all_goals rfl
          case hscx2 => kernel_rfl
          case hfcx2 => kernel_rfl
          case hrcx2 => kernel_rfl
          case hQcx2 => exact fun _ _ _ h => h
          case hScx2 => assumption
          case hycx2 =>
            refine Or.inl ⟨by rfl, ?_⟩
            intro w hSw
            try dsimp only at hSw
            go_simp
            all_goals with_reducible rfl
          try simp only [Act.put, List.setIfInBounds_toArray, List.set_cons_zero, List.set_cons_succ]
          refine' wpAnyH_take (i := 3) ?hicx3 ?hscx3 ?hfcx3 ?hrcx3 ?hQcx3 ?hycx3 ?hScx3 ?restcx3
          case hicx3 =>
            simp only [List.getElem?_toArray, List.getElem?_cons_succ, List.getElem?_cons_zero]
            all_goals rfl
          case hscx3 => kernel_rfl
          case hfcx3 => kernel_rfl
          case hrcx3 => kernel_rfl
          case hQcx3 => exact fun _ _ _ h => h
          case hScx3 => assumption
          case hycx3 => exact Or.inr ⟨by rfl, rfl⟩
          try simp only [Act.put, List.setIfInBounds_toArray, List.set_cons_zero, List.set_cons_succ]
          refine' wpAnyH_take (i := 4) ?hicx4 ?hscx4 ?hfcx4 ?hrcx4 ?hQcx4 ?hycx4 ?hScx4 ?restcx4
          case hicx4 =>
            simp only [List.getElem?_toArray, List.getElem?_cons_succ, List.getElem?_cons_zero]
            all_goals rfl
          case hscx4 => kernel_rfl
          case hfcx4 => kernel_rfl
          case hrcx4 => kernel_rfl
          case hQcx4 => exact fun _ _ _ h => h
          case hScx4 => assumption
          case hycx4 => exact Or.inr ⟨by rfl, rfl⟩
          try simp only [Act.put, List.setIfInBounds_toArray, List.set_cons_zero, List.set_cons_succ]
          refine' wpAnyH_take (i := 5) ?hicx5 ?hscx5 ?hfcx5 ?hrcx5 ?hQcx5 ?hycx5 ?hScx5 ?restcx5
          case hicx5 =>
            simp only [List.getElem?_toArray, List.getElem?_cons_succ, List.getElem?_cons_zero]
            all_goals rfl
          case hscx5 => kernel_rfl
          case hfcx5 => kernel_rfl
          case hrcx5 => kernel_rfl
          case hQcx5 => exact fun _ _ _ h => h
          case hScx5 => assumption
          case hycx5 => exact Or.inr ⟨by rfl, rfl⟩
          try simp only [Act.put, List.setIfInBounds_toArray, List.set_cons_zero, List.set_cons_succ]
          refine' wpAnyH_take (i := 6) ?hicx6 ?hscx6 ?hfcx6 ?hrcx6 ?hQcx6 ?hycx6 ?hScx6 ?restcx6
          case hicx6 =>
            simp only [List.getElem?_toArray, List.getElem?_cons_succ, List.getElem?_cons_zero]
            all_goals rfl
          case hscx6 => kernel_rfl
          case hfcx6 => kernel_rfl
          case hrcx6 => kernel_rfl
          case hQcx6 => exact fun _ _ _ h => h
          case hScx6 => assumption
          case hycx6 => exact Or.inr ⟨by rfl, rfl⟩
          try simp only [Act.put, List.setIfInBounds_toArray, List.set_cons_zero, List.set_cons_succ]
          refine' wpAnyH_take (i := 7) ?hicx7 ?hscx7 ?hfcx7 ?hrcx7 ?hQcx7 ?hycx7 ?hScx7 ?restcx7
          case hicx7 =>
            simp only [List.getElem?_toArray, List.getElem?_cons_succ, List.getElem?_cons_zero]
            all_goals rfl
          case hscx7 => kernel_rfl
          case hfcx7 => kernel_rfl
          case hrcx7 => kernel_rfl
          case hQcx7 => exact fun _ _ _ h => h
          case hScx7 => assumption
          case hycx7 => exact Or.inr ⟨by rfl, rfl⟩
          try simp only [Act.put, List.setIfInBounds_toArray, List.set_cons_zero, List.set_cons_succ]
          refine' wpAnyH_take (i := 8) ?hicx8 ?hscx8 ?hfcx8 ?hrcx8 ?hQcx8 ?hycx8 ?hScx8 ?restcx8
          case hicx8 =>
            simp only [List.getElem?_toArray, List.getElem?_cons_succ, List.getElem?_cons_zero]
            all_goals rfl
          case hscx8 => kernel_rfl
          case hfcx8 => kernel_rfl
          case hrcx8 => kernel_rfl
          case hQcx8 => exact fun _ _ _ h => h
          case hScx8 => assumption
          case hycx8 => exact Or.inr ⟨by rfl, rfl⟩
          try simp only [Act.put, List.setIfInBounds_toArray, List.set_cons_zero, List.set_cons_succ]
          refine' wpAnyH_take (i := 9) ?hicx9 ?hscx9 ?hfcx9 ?hrcx9 ?hQcx9 ?hycx9 ?hScx9 ?restcx9
          case hicx9 =>
            simp only [List.getElem?_toArray, List.getElem?_cons_succ, List.getElem?_cons_zero]
            all_goals rfl
          case hscx9 => kernel_rfl
          case hfcx9 => kernel_rfl
          case hrcx9 => kernel_rfl
          case hQcx9 => exact fun _ _ _ h => h
          case hScx9 => assumption
          case hycx9 => exact Or.inr ⟨by rfl, rfl⟩
          try simp only [Act.put, List.setIfInBounds_toArray, List.set_cons_zero, List.set_cons_succ]
          refine' wpAnyH_take (i := 10) ?hicx10 ?hscx10 ?hfcx10 ?hrcx10 ?hQcx10 ?hycx10 ?hScx10 ?restcx10
          case hicx10 =>
            simp only [List.getElem?_toArray, List.getElem?_cons_succ, List.getElem?_cons_zero]
            all_goals rfl
          case hscx10 => kernel_rfl
          case hfcx10 => kernel_rfl
          case hrcx10 => kernel_rfl
          case hQcx10 => exact fun _ _ _ h => h
          case hScx10 => assumption
          case hycx10 => exact Or.inr ⟨by rfl, rfl⟩
          try simp only [Act.put, List.setIfInBounds_toArray, List.set_cons_zero, List.set_cons_succ]
          refine' wpAnyH_take (i := 11) ?hicx11 ?hscx11 ?hfcx11 ?hrcx11 ?hQcx11 ?hycx11 ?hScx11 ?restcx11
          case hicx11 =>
            simp only [List.getElem?_toArray, List.getElem?_cons_succ, List.getElem?_cons_zero]
            all_goals rfl
          case hscx11 => kernel_rfl
          case hfcx11 => kernel_rfl
          case hrcx11 => kernel_rfl
          case hQcx11 => exact fun _ _ _ h => h
          case hScx11 => assumption
          case hycx11 => exact Or.inr ⟨by rfl, rfl⟩
          try simp only [Act.put, List.setIfInBounds_toArray, List.set_cons_zero, List.set_cons_succ]
          refine' wpAnyH_take (i := 12) ?hicx12 ?hscx12 ?hfcx12 ?hrcx12 ?hQcx12 ?hycx12 ?hScx12 ?restcx12
          case hicx12 =>
            simp only [List.getElem?_toArray, List.getElem?_cons_succ, List.getElem?_cons_zero]
            all_goals rfl
          case hscx12 => kernel_rfl
          case hfcx12 => kernel_rfl
          case hrcx12 => kernel_rfl
          case hQcx12 => exact fun _ _ _ h => h
          case hScx12 => assumption
          case hycx12 => exact Or.inr ⟨by rfl, rfl⟩
          try simp only [Act.put, List.setIfInBounds_toArray, List.set_cons_zero, List.set_cons_succ]
          refine' wpAnyH_take (i := 13) ?hicx13 ?hscx13 ?hfcx13 ?hrcx13 ?hQcx13 ?hycx13 ?hScx13 ?restcx13
          case hicx13 =>
            simp only [List.getElem?_toArray, List.getElem?_cons_succ, List.getElem?_cons_zero]
            all_goals rfl
          case hscx13 => kernel_rfl
          case hfcx13 => kernel_rfl
          case hrcx13 => kernel_rfl
          case hQcx13 => exact fun _ _ _ h => h
          case hScx13 => assumption
          case hycx13 => exact Or.inr ⟨by rfl, rfl⟩
          try simp only [Act.put, List.setIfInBounds_toArray, List.set_cons_zero, List.set_cons_succ]
          refine' wpAnyH_take (i := 14) ?hicx14 ?hscx14 ?hfcx14 ?hrcx14 ?hQcx14 ?hycx14 ?hScx14 ?restcx14
          case hicx14 =>
            simp only [List.getElem?_toArray, List.getElem?_cons_succ, List.getElem?_cons_zero]
            all_goals rfl
          case hscx14 => kernel_rfl
          case hfcx14 => kernel_rfl
          case hrcx14 => kernel_rfl
          case hQcx14 => exact fun _ _ _ h => h
          case hScx14 => assumption
          case hycx14 => exact Or.inr ⟨by rfl, rfl⟩
          try simp only [Act.put, List.setIfInBounds_toArray, List.set_cons_zero, List.set_cons_succ]
          refine' wpAnyH_take (i := 15) ?hicx15 ?hscx15 ?hfcx15 ?hrcx15 ?hQcx15 ?hycx15 ?hScx15 ?restcx15
          case hicx15 =>
            simp only [List.getElem?_toArray, List.getElem?_cons_succ, List.getElem?_cons_zero]
            all_goals rfl
          case hscx15 => kernel_rfl
          case hfcx15 => kernel_rfl
          case hrcx15 => kernel_rfl
          case hQcx15 => exact fun _ _ _ h => h
          case hScx15 => assumption
          case hycx15 => exact Or.inr ⟨by rfl, rfl⟩
          try simp only [Act.put, List.setIfInBounds_toArray, List.set_cons_zero, List.set_cons_succ]
          refine' wpAnyH_take (i := 16) ?hicx16 ?hscx16 ?hfcx16 ?hrcx16 ?hQcx16 ?hycx16 ?hScx16 ?restcx16
          case hicx16 =>
            simp only [List.getElem?_toArray, List.getElem?_cons_succ, List.getElem?_cons_zero]
            all_goals rfl
          case hscx16 => kernel_rfl
          case hfcx16 => kernel_rfl
          case hrcx16 => kernel_rfl
          case hQcx16 => exact fun _ _ _ h => h
          case hScx16 => assumption
          case hycx16 => exact Or.inr ⟨by rfl, rfl⟩
          try simp only [Act.put, List.setIfInBounds_toArray, List.set_cons_zero, List.set_cons_succ]
          refine' wpAnyH_take (i := 17) ?hicx17 ?hscx17 ?hfcx17 ?hrcx17 ?hQcx17 ?hycx17 ?hScx17 ?restcx17
          case hicx17 =>
            simp only [List.getElem?_toArray, List.getElem?_cons_succ, List.getElem?_cons_zero]
            all_goals rfl
          case hscx17 => kernel_rfl
          case hfcx17 => kernel_rfl
          case hrcx17 => kernel_rfl
          case hQcx17 => exact fun _ _ _ h => h
          case hScx17 => assumption
          case hycx17 => exact Or.inr ⟨by rfl, rfl⟩
          try simp only [Act.put, List.setIfInBounds_toArray, List.set_cons_zero, List.set_cons_succ]
          refine' wpAnyH_take (i := 18) ?hicx18 ?hscx18 ?hfcx18 ?hrcx18 ?hQcx18 ?hycx18 ?hScx18 ?restcx18
          case hicx18 =>
            simp only [List.getElem?_toArray, List.getElem?_cons_succ, List.getElem?_cons_zero]
            all_goals rfl
          case hscx18 => kernel_rfl
          case hfcx18 => kernel_rfl
          case hrcx18 => kernel_rfl
          case hQcx18 => exact fun _ _ _ h => h
          case hScx18 => assumption
          case hycx18 => exact Or.inr ⟨by rfl, rfl⟩
          try simp only [Act.put, List.setIfInBounds_toArray, List.set_cons_zero, List.set_cons_succ]
          refine' wpAnyH_take (i := 19) ?hicx19 ?hscx19 ?hfcx19 ?hrcx19 ?hQcx19 ?hycx19 ?hScx19 ?restcx19
          case hicx19 =>
            simp only [List.getElem?_toArray, List.getElem?_cons_succ, List.getElem?_cons_zero]
            all_goals rfl
          case hscx19 => kernel_rfl
          case hfcx19 => kernel_rfl
          case hrcx19 => kernel_rfl
          case hQcx19 => exact fun _ _ _ h => h
          case hScx19 => assumption
          case hycx19 => exact Or.inr ⟨by rfl, rfl⟩
          try simp only [Act.put, List.setIfInBounds_toArray, List.set_cons_zero, List.set_cons_succ]
          refine' wpAnyH_take (i := 20) ?hicx20 ?hscx20 ?hfcx20 ?hrcx20 ?hQcx20 ?hycx20 ?hScx20 ?restcx20
          case hicx20 =>
            simp only [List.getElem?_toArray, List.getElem?_cons_succ, List.getElem?_cons_zero]
            all_goals rfl
          case hscx20 => kernel_rfl
          case hfcx20 => kernel_rfl
          case hrcx20 => kernel_rfl
          case hQcx20 => exact fun _ _ _ h => h
          case hScx20 => assumption
          case hycx20 => exact Or.inr ⟨by rfl, rfl⟩
          try simp only [Act.put, List.setIfInBounds_toArray, List.set_cons_zero, List.set_cons_succ]
          refine' wpAnyH_take (i := 21) ?hicx21 ?hscx21 ?hfcx21 ?hrcx21 ?hQcx21 ?hycx21 ?hScx21 ?restcx21
          case hicx21 =>
            simp only [List.getElem?_toArray, List.getElem?_cons_succ, List.getElem?_cons_zero]
            all_goals rfl
          case hscx21 => kernel_rfl
          case hfcx21 => kernel_rfl
          case hrcx21 => kernel_rfl
          case hQcx21 => exact fun _ _ _ h => h
          case hScx21 => assumption
          case hycx21 => exact Or.inr ⟨by rfl, rfl⟩
          try simp only [Act.put, List.setIfInBounds_toArray, List.set_cons_zero, List.set_cons_succ]
          refine' wpAnyH_take (i := 22) ?hicx22 ?hscx22 ?hfcx22 ?hrcx22 ?hQcx22 ?hycx22 ?hScx22 ?restcx22
          case hicx22 =>
            simp only [List.getElem?_toArray, List.getElem?_cons_succ, List.getElem?_cons_zero]
            all_goals rfl
          case hscx22 => kernel_rfl
          case hfcx22 => kernel_rfl
          case hrcx22 => kernel_rfl
          case hQcx22 => exact fun _ _ _ h => h
          case hScx22 => assumption
          case hycx22 => exact Or.inr ⟨by rfl, rfl⟩
          try simp only [Act.put, List.setIfInBounds_toArray, List.set_cons_zero, List.set_cons_succ]
          refine' wpAnyH_take (i := 23) ?hicx23 ?hscx23 ?hfcx23 ?hrcx23 ?hQcx23 ?hycx23 ?hScx23 ?restcx23
          case hicx23 =>
            simp only [List.getElem?_toArray, List.getElem?_cons_succ, List.getElem?_cons_zero]
            all_goals rfl
          case hscx23 => kernel_rfl
          case hfcx23 => kernel_rfl
          case hrcx23 => kernel_rfl
          case hQcx23 => exact fun _ _ _ h => h
          case hScx23 => assumption
          case hycx23 => exact Or.inr ⟨by rfl, rfl⟩
          try simp only [Act.put, List.setIfInBounds_toArray, List.set_cons_zero, List.set_cons_succ]
          refine' wpAnyH_take (i := 24) ?hicx24 ?hscx24 ?hfcx24 ?hrcx24 ?hQcx24 ?hycx24 ?hScx24 ?restcx24
          case hicx24 =>
            simp only [List.getElem?_toArray, List.getElem?_cons_succ, List.getElem?_cons_zero]
            all_goals rfl
          case hscx24 => kernel_rfl
          case hfcx24 => kernel_rfl
          case hrcx24 => kernel_rfl
          case hQcx24 => exact fun _ _ _ h => h
          case hScx24 => assumption
          case hycx24 => exact Or.inr ⟨by rfl, rfl⟩
          try simp only [Act.put, List.setIfInBounds_toArray, List.set_cons_zero, List.set_cons_succ]
          refine' wpAnyH_take (i := 25) ?hicx25 ?hscx25 ?hfcx25 ?hrcx25 ?hQcx25 ?hycx25 ?hScx25 ?restcx25
          case hicx25 =>
            simp only [List.getElem?_toArray, List.getElem?_cons_succ, List.getElem?_cons_zero]
            all_goals rfl
          case hscx25 => kernel_rfl
          case hfcx25 => kernel_rfl
          case hrcx25 => kernel_rfl
          case hQcx25 => exact fun _ _ _ h => h
          case hScx25 => assumption
          case hycx25 => exact Or.inr ⟨by rfl, rfl⟩
          try simp only [Act.put, List.setIfInBounds_toArray, List.set_cons_zero, List.set_cons_succ]
          refine' wpAnyH_take (i := 26) ?hicx26 ?hscx26 ?hfcx26 ?hrcx26 ?hQcx26 ?hycx26 ?hScx26 ?restcx26
          case hicx26 =>
            simp only [List.getElem?_toArray, List.getElem?_cons_succ, List.getElem?_cons_zero]
            all_goals rfl
          case hscx26 => kernel_rfl
          case hfcx26 => kernel_rfl
          case hrcx26 => kernel_rfl
          case hQcx26 => exact fun _ _ _ h => h
          case hScx26 => assumption
          case hycx26 => exact Or.inr ⟨by rfl, rfl⟩
          try simp only [Act.put, List.setIfInBounds_toArray, List.set_cons_zero, List.set_cons_succ]
          refine' wpAnyH_take (i := 27) ?hicx27 ?hscx27 ?hfcx27 ?hrcx27 ?hQcx27 ?hycx27 ?hScx27 ?restcx27
          case hicx27 =>
            simp only [List.getElem?_toArray, List.getElem?_cons_succ, List.getElem?_cons_zero]
            all_goals rfl
          case hscx27 => kernel_rfl
          case hfcx27 => kernel_rfl
          case hrcx27 => kernel_rfl
          case hQcx27 => exact fun _ _ _ h => h
          case hScx27 => assumption
          case hycx27 =>
            refine Or.inl ⟨by rfl, ?_⟩
            intro w hSw
            try dsimp only at hSw
            go_simp
            all_goals with_reducible rfl
          try simp only [Act.put, List.setIfInBounds_toArray, List.set_cons_zero, List.set_cons_succ]
          refine wpAnyH_done (by kernel_rfl) ?_ _
          go_wp2
          go_roundw
          case rel => exact ⟨k + 1, m, c2, C, A2, by omega, by go_num, rfl, hc2, hide (by rw [HN1.out, ← HC.out, HR.out]), (hr3.drew.below hbw4).drew, Bw4.drew⟩
          case measure => simp [intOf]; omega
        · by_cases hmm : m + 1 ≤ 256
          · have HR := hide (rem_grow hx (by have := HCm.out; omega))
            have HRL := hide (show (C ++ [x]).length = m + 1 by rw [List.length_append, HCm.out, List.length_singleton])
            have hmin : (if (256 : Int) < (m : Int) + 1 then (256 : Int) else (m : Int) + 1) = (m : Int) + 1 := if_neg (by omega)
            have hbne : ((m : Int) + 1 != (m : Int) + 1) = false := by simp
            have HT := hide (show (C ++ [x]).take m = C by
              rw [List.take_append_of_le_length (by rw [HCm.out]; exact Nat.le_refl _)]
              exact List.take_of_length_le (by rw [HCm.out]; exact Nat.le_refl _))
            have HG := hide (show (C ++ [x])[m]? = some x by
              rw [List.getElem?_append_right (by rw [HCm.out]; exact Nat.le_refl _), HCm.out, Nat.sub_self]
              rfl)
            have hm0 : ((m : Int) + 1 == 0) = false := by rw [beq_eq_false_iff_ne]; omega
            have hwr : IntKind.i64.wrap (m : Int) = (m : Int) := by rw [IntKind.wrap_i64]; omega
            have hin : (m : Int) < (m : Int) + 1 := by omega
            have hwr1 : IntKind.i64.wrap ((m : Int) + 1) = (m : Int) + 1 := by rw [IntKind.wrap_i64]; omega
            have hm256' : (m : Int) + 1 ≤ 256 := by omega
            have HM := hide (decide_eq_false hx)
            have HM2 := hide (show decide (x ∈ (C ++ [x])) = true from decide_eq_true (by simp))
            have hne := neq_msg_yes x
            clear hx
            go_wp2_with fail
            refine (seen_any B m cap C x _ hC (by omega)).mono ?_
            rintro e w1 ⟨rfl, hb1⟩
            rw [HM.out]
            have q0 := (hb1.cell (p := ⟨b, o + k * 3, none⟩) hbs).trans p0
            have q1 := (hb1.cell (p := ⟨b, o + k * 3 + 1, none⟩) hbs).trans p1
            have q2 := (hb1.cell (p := ⟨b, o + k * 3 + 2, none⟩) hbs).trans p2
            go_wp2_with fail
            refine (remember_any B m cap C x _ (hC.below hb1) hmc (by omega)).mono ?_
            rintro e w2 ⟨v2, rfl, hown2, hb2⟩
            rw [HR.out, HRL.out] at hown2
            obtain ⟨A2, c2, hv2, hc2, _, hr2⟩ := own_rdn hown2
            obtain ⟨b2, o2, rfl, hb2s, _⟩ := hr2.2 (by omega)
            rw [hv2]
            clear hown2 hv2 q0 q1 q2
            have hb12 := hb1.trans (hb2.mono hb1.size)
            have s0 := (hb12.cell (p := ⟨b, o + k * 3, none⟩) hbs).trans p0
            have s1 := (hb12.cell (p := ⟨b, o + k * 3 + 1, none⟩) hbs).trans p1
            have s2 := (hb12.cell (p := ⟨b, o + k * 3 + 2, none⟩) hbs).trans p2
            go_wp2_with fail
            refine (seen_any (some ⟨b2, o2, none⟩) (m + 1) c2 (C ++ [x]) x _ hr2 (by omega)).mono ?_
            rintro e w3 ⟨rfl, hb3⟩
            rw [HM2.out]
            have hb123 := hb12.trans (hb3.mono hb12.size)
            have B3 := hbe.trans (hb123.mono hsz)
            have hr3 := hr2.below hb3
            have hC3 := hC.below hb123
            clear s0 s1 s2 hr2 hb1 hb2 hb12
            go_wp2_with fail
            have hdc2 : m ≤ c2 := by omega
            have hw0 : IntKind.i64.wrap (0 : Int) = 0 := by rw [IntKind.wrap_i64]; omega
            have hw1 : IntKind.i64.wrap (1 : Int) = 1 := by rw [IntKind.wrap_i64]; omega
            have hm00 : (0 : Int) ≤ (m : Int) := by omega
            have hm11 : (1 : Int) ≤ (m : Int) + 1 := by omega
            obtain ⟨b2', o2', y, he2, _, HY, t0, t1, t2⟩ := hr3.msg (k := m) (by omega)
            injection he2 with he2
            injection he2 with e1 e2
            subst e1
            subst e2
            obtain rfl : y = x := by have := HY.out; rw [HG.out] at this; injection this with this; exact this.symm
            have z0 := (hb123.cell (p := ⟨b, o + k * 3, none⟩) hbs).trans p0
            have z1 := (hb123.cell (p := ⟨b, o + k * 3 + 1, none⟩) hbs).trans p1
            have z2 := (hb123.cell (p := ⟨b, o + k * 3 + 2, none⟩) hbs).trans p2
            have hW := hC3
            have hV : Rd w3 3 (some ⟨b2, o2, none⟩) m (mv C) := by
              have := hr3.mtake (k := m) (by omega)
              rw [HT.out] at this
              exact this
            refine wp_region_held_drew (S := fun w' => w'.cell? ⟨b2, o2 + m * 3, none⟩ = some (.int .u16 y.s) ∧ w'.cell? ⟨b2, o2 + m * 3 + 1, none⟩ = some (.int .u32 y.i) ∧ w'.cell? ⟨b2, o2 + m * 3 + 2, none⟩ = some (.int .u32 y.q) ∧ w'.cell? ⟨b, o + k * 3, none⟩ = some (.int .u16 y.s) ∧ w'.cell? ⟨b, o + k * 3 + 1, none⟩ = some (.int .u32 y.i) ∧ w'.cell? ⟨b, o + k * 3 + 2, none⟩ = some (.int .u32 y.q) ∧ Below w.heap.size w w') (by kernel_rfl) ?_ (fun hHeld => ?_)
            · exact ⟨t0, t1, t2, z0, z1, z2, B3.drew⟩
            refine' wpAnyH_take (i := 0) ?hidx0 ?hsdx0 ?hfdx0 ?hrdx0 ?hQdx0 ?hydx0 ?hSdx0 ?restdx0
            case hidx0 =>
              simp only [List.getElem?_toArray, List.getElem?_cons_succ, List.getElem?_cons_zero]
              all_goals rfl
            case hsdx0 => kernel_rfl
            case hfdx0 => kernel_rfl
            case hrdx0 => kernel_rfl
            case hQdx0 => exact fun _ _ _ h => h
            case hSdx0 => assumption
            case hydx0 =>
              refine Or.inl ⟨by rfl, ?_⟩
              intro w hSw
              try dsimp only at hSw
              go_simp
              all_goals with_reducible rfl
            try simp only [Act.put, List.setIfInBounds_toArray, List.set_cons_zero, List.set_cons_succ]
            refine' wpAnyH_take (i := 1) ?hidx1 ?hsdx1 ?hfdx1 ?hrdx1 ?hQdx1 ?hydx1 ?hSdx1 ?restdx1
            case hidx1 =>
              simp only [List.getElem?_toArray, List.getElem?_cons_succ, List.getElem?_cons_zero]
              all_goals rfl
            case hsdx1 => kernel_rfl
            case hfdx1 => kernel_rfl
            case hrdx1 => kernel_rfl
            case hQdx1 => exact fun _ _ _ h => h
            case hSdx1 => assumption
            case hydx1 =>
              refine Or.inl ⟨by rfl, ?_⟩
              intro w hSw
              try dsimp only at hSw
              go_simp
              all_goals with_reducible rfl
            try simp only [Act.put, List.setIfInBounds_toArray, List.set_cons_zero, List.set_cons_succ]
            refine' wpAnyH_take (i := 2) ?hidx2 ?hsdx2 ?hfdx2 ?hrdx2 ?hQdx2 ?hydx2 ?hSdx2 ?restdx2
            case hidx2 =>
              simp only [List.getElem?_toArray, List.getElem?_cons_succ, List.getElem?_cons_zero]
              all_goals rfl
            case hsdx2 => kernel_rfl
            case hfdx2 => kernel_rfl
            case hrdx2 => kernel_rfl
            case hQdx2 => exact fun _ _ _ h => h
            case hSdx2 => assumption
            case hydx2 => exact Or.inr ⟨by rfl, rfl⟩
            try simp only [Act.put, List.setIfInBounds_toArray, List.set_cons_zero, List.set_cons_succ]
            refine' wpAnyH_take (i := 3) ?hidx3 ?hsdx3 ?hfdx3 ?hrdx3 ?hQdx3 ?hydx3 ?hSdx3 ?restdx3
            case hidx3 =>
              simp only [List.getElem?_toArray, List.getElem?_cons_succ, List.getElem?_cons_zero]
              all_goals rfl
            case hsdx3 => kernel_rfl
            case hfdx3 => kernel_rfl
            case hrdx3 => kernel_rfl
            case hQdx3 => exact fun _ _ _ h => h
            case hSdx3 => assumption
            case hydx3 => exact Or.inr ⟨by rfl, rfl⟩
            try simp only [Act.put, List.setIfInBounds_toArray, List.set_cons_zero, List.set_cons_succ]
            refine' wpAnyH_take (i := 4) ?hidx4 ?hsdx4 ?hfdx4 ?hrdx4 ?hQdx4 ?hydx4 ?hSdx4 ?restdx4
            case hidx4 =>
              simp only [List.getElem?_toArray, List.getElem?_cons_succ, List.getElem?_cons_zero]
              all_goals rfl
            case hsdx4 => kernel_rfl
            case hfdx4 => kernel_rfl
            case hrdx4 => kernel_rfl
            case hQdx4 => exact fun _ _ _ h => h
            case hSdx4 => assumption
            case hydx4 => exact Or.inr ⟨by rfl, rfl⟩
            try simp only [Act.put, List.setIfInBounds_toArray, List.set_cons_zero, List.set_cons_succ]
            refine' wpAnyH_take (i := 5) ?hidx5 ?hsdx5 ?hfdx5 ?hrdx5 ?hQdx5 ?hydx5 ?hSdx5 ?restdx5
            case hidx5 =>
              simp only [List.getElem?_toArray, List.getElem?_cons_succ, List.getElem?_cons_zero]
              all_goals rfl
            case hsdx5 => kernel_rfl
            case hfdx5 => kernel_rfl
            case hrdx5 => kernel_rfl
            case hQdx5 => exact fun _ _ _ h => h
            case hSdx5 => assumption
            case hydx5 => exact Or.inr ⟨by rfl, rfl⟩
            try simp only [Act.put, List.setIfInBounds_toArray, List.set_cons_zero, List.set_cons_succ]
            refine' wpAnyH_take (i := 6) ?hidx6 ?hsdx6 ?hfdx6 ?hrdx6 ?hQdx6 ?hydx6 ?hSdx6 ?restdx6
            case hidx6 =>
              simp only [List.getElem?_toArray, List.getElem?_cons_succ, List.getElem?_cons_zero]
              all_goals rfl
            case hsdx6 => kernel_rfl
            case hfdx6 => kernel_rfl
            case hrdx6 => kernel_rfl
            case hQdx6 => exact fun _ _ _ h => h
            case hSdx6 => assumption
            case hydx6 =>
              refine Or.inl ⟨by rfl, ?_⟩
              intro w hSw
              try dsimp only at hSw
              go_simp
              all_goals with_reducible rfl
            try simp only [Act.put, List.setIfInBounds_toArray, List.set_cons_zero, List.set_cons_succ]
            refine' wpAnyH_take (i := 7) ?hidx7 ?hsdx7 ?hfdx7 ?hrdx7 ?hQdx7 ?hydx7 ?hSdx7 ?restdx7
            case hidx7 =>
              simp only [List.getElem?_toArray, List.getElem?_cons_succ, List.getElem?_cons_zero]
              all_goals rfl
            case hsdx7 => kernel_rfl
            case hfdx7 => kernel_rfl
            case hrdx7 => kernel_rfl
            case hQdx7 => exact fun _ _ _ h => h
            case hSdx7 => assumption
            case hydx7 =>
              refine Or.inl ⟨by rfl, ?_⟩
              intro w hSw
              try dsimp only at hSw
              go_simp
              all_goals with_reducible rfl
            try simp only [Act.put, List.setIfInBounds_toArray, List.set_cons_zero, List.set_cons_succ]
            refine' wpAnyH_take (i := 8) ?hidx8 ?hsdx8 ?hfdx8 ?hrdx8 ?hQdx8 ?hydx8 ?hSdx8 ?restdx8
            case hidx8 =>
              simp only [List.getElem?_toArray, List.getElem?_cons_succ, List.getElem?_cons_zero]
              all_goals rfl
            case hsdx8 => kernel_rfl
            case hfdx8 => kernel_rfl
            case hrdx8 => kernel_rfl
            case hQdx8 => exact fun _ _ _ h => h
            case hSdx8 => assumption
            case hydx8 =>
              refine Or.inl ⟨by rfl, ?_⟩
              intro w hSw
              try dsimp only at hSw
              go_simp
              all_goals with_reducible rfl
            try simp only [Act.put, List.setIfInBounds_toArray, List.set_cons_zero, List.set_cons_succ]
            refine' wpAnyH_take (i := 9) ?hidx9 ?hsdx9 ?hfdx9 ?hrdx9 ?hQdx9 ?hydx9 ?hSdx9 ?restdx9
            case hidx9 =>
              simp only [List.getElem?_toArray, List.getElem?_cons_succ, List.getElem?_cons_zero]
              all_goals rfl
            case hsdx9 => kernel_rfl
            case hfdx9 => kernel_rfl
            case hrdx9 => kernel_rfl
            case hQdx9 => exact fun _ _ _ h => h
            case hSdx9 => assumption
            case hydx9 =>
              refine Or.inl ⟨by rfl, ?_⟩
              intro w hSw
              try dsimp only at hSw
              go_simp
              all_goals with_reducible rfl
            try simp only [Act.put, List.setIfInBounds_toArray, List.set_cons_zero, List.set_cons_succ]
            refine' wpAnyH_take (i := 10) ?hidx10 ?hsdx10 ?hfdx10 ?hrdx10 ?hQdx10 ?hydx10 ?hSdx10 ?restdx10
            case hidx10 =>
              simp only [List.getElem?_toArray, List.getElem?_cons_succ, List.getElem?_cons_zero]
              all_goals rfl
            case hsdx10 => kernel_rfl
            case hfdx10 => kernel_rfl
            case hrdx10 => kernel_rfl
            case hQdx10 => exact fun _ _ _ h => h
            case hSdx10 => assumption
            case hydx10 =>
              refine Or.inl ⟨by rfl, ?_⟩
              intro w hSw
              try dsimp only at hSw
              go_simp
              all_goals with_reducible rfl
            try simp only [Act.put, List.setIfInBounds_toArray, List.set_cons_zero, List.set_cons_succ]
            refine' wpAnyH_take (i := 11) ?hidx11 ?hsdx11 ?hfdx11 ?hrdx11 ?hQdx11 ?hydx11 ?hSdx11 ?restdx11
            case hidx11 =>
              simp only [List.getElem?_toArray, List.getElem?_cons_succ, List.getElem?_cons_zero]
              all_goals rfl
            case hsdx11 => kernel_rfl
            case hfdx11 => kernel_rfl
            case hrdx11 => kernel_rfl
            case hQdx11 => exact fun _ _ _ h => h
            case hSdx11 => assumption
            case hydx11 =>
              refine Or.inl ⟨by rfl, ?_⟩
              intro w hSw
              try dsimp only at hSw
              go_simp
              all_goals with_reducible rfl
            try simp only [Act.put, List.setIfInBounds_toArray, List.set_cons_zero, List.set_cons_succ]
            refine' wpAnyH_take (i := 12) ?hidx12 ?hsdx12 ?hfdx12 ?hrdx12 ?hQdx12 ?hydx12 ?hSdx12 ?restdx12
            case hidx12 =>
              simp only [List.getElem?_toArray, List.getElem?_cons_succ, List.getElem?_cons_zero]
              all_goals rfl
            case hsdx12 => kernel_rfl
            case hfdx12 => kernel_rfl
            case hrdx12 => kernel_rfl
            case hQdx12 => exact fun _ _ _ h => h
            case hSdx12 => assumption
            case hydx12 =>
              refine Or.inl ⟨by rfl, ?_⟩
              intro w hSw
              try dsimp only at hSw
              go_simp
              all_goals with_reducible rfl
            try simp only [Act.put, List.setIfInBounds_toArray, List.set_cons_zero, List.set_cons_succ]
            refine' wpAnyH_take (i := 13) ?hidx13 ?hsdx13 ?hfdx13 ?hrdx13 ?hQdx13 ?hydx13 ?hSdx13 ?restdx13
            case hidx13 =>
              simp only [List.getElem?_toArray, List.getElem?_cons_succ, List.getElem?_cons_zero]
              all_goals rfl
            case hsdx13 => kernel_rfl
            case hfdx13 => kernel_rfl
            case hrdx13 => kernel_rfl
            case hQdx13 => exact fun _ _ _ h => h
            case hSdx13 => assumption
            case hydx13 =>
              refine Or.inl ⟨by rfl, ?_⟩
              intro w hSw
              try dsimp only at hSw
              go_simp
              all_goals with_reducible rfl
            try simp only [Act.put, List.setIfInBounds_toArray, List.set_cons_zero, List.set_cons_succ]
            refine' wpAnyH_take (i := 14) ?hidx14 ?hsdx14 ?hfdx14 ?hrdx14 ?hQdx14 ?hydx14 ?hSdx14 ?restdx14
            case hidx14 =>
              simp only [List.getElem?_toArray, List.getElem?_cons_succ, List.getElem?_cons_zero]
              all_goals rfl
            case hsdx14 => kernel_rfl
            case hfdx14 => kernel_rfl
            case hrdx14 => kernel_rfl
            case hQdx14 => exact fun _ _ _ h => h
            case hSdx14 => assumption
            case hydx14 =>
              refine Or.inl ⟨by rfl, ?_⟩
              intro w hSw
              try dsimp only at hSw
              go_simp
              all_goals with_reducible rfl
            try simp only [Act.put, List.setIfInBounds_toArray, List.set_cons_zero, List.set_cons_succ]
            refine' wpAnyH_take (i := 15) ?hidx15 ?hsdx15 ?hfdx15 ?hrdx15 ?hQdx15 ?hydx15 ?hSdx15 ?restdx15
            case hidx15 =>
              simp only [List.getElem?_toArray, List.getElem?_cons_succ, List.getElem?_cons_zero]
              all_goals rfl
            case hsdx15 => kernel_rfl
            case hfdx15 => kernel_rfl
            case hrdx15 => kernel_rfl
            case hQdx15 => exact fun _ _ _ h => h
            case hSdx15 => assumption
            case hydx15 =>
              refine Or.inl ⟨by rfl, ?_⟩
              intro w hSw
              try dsimp only at hSw
              go_simp
              all_goals with_reducible rfl
            try simp only [Act.put, List.setIfInBounds_toArray, List.set_cons_zero, List.set_cons_succ]
            refine' wpAnyH_take (i := 16) ?hidx16 ?hsdx16 ?hfdx16 ?hrdx16 ?hQdx16 ?hydx16 ?hSdx16 ?restdx16
            case hidx16 =>
              simp only [List.getElem?_toArray, List.getElem?_cons_succ, List.getElem?_cons_zero]
              all_goals rfl
            case hsdx16 => kernel_rfl
            case hfdx16 => kernel_rfl
            case hrdx16 => kernel_rfl
            case hQdx16 => exact fun _ _ _ h => h
            case hSdx16 => assumption
            case hydx16 =>
              refine Or.inl ⟨by rfl, ?_⟩
              intro w hSw
              try dsimp only at hSw
              go_simp
              all_goals with_reducible rfl
            try simp only [Act.put, List.setIfInBounds_toArray, List.set_cons_zero, List.set_cons_succ]
            refine' wpAnyH_take (i := 17) ?hidx17 ?hsdx17 ?hfdx17 ?hrdx17 ?hQdx17 ?hydx17 ?hSdx17 ?restdx17
            case hidx17 =>
              simp only [List.getElem?_toArray, List.getElem?_cons_succ, List.getElem?_cons_zero]
              all_goals rfl
            case hsdx17 => kernel_rfl
            case hfdx17 => kernel_rfl
            case hrdx17 => kernel_rfl
            case hQdx17 => exact fun _ _ _ h => h
            case hSdx17 => assumption
            case hydx17 =>
              refine Or.inl ⟨by rfl, ?_⟩
              intro w hSw
              try dsimp only at hSw
              go_simp
              all_goals with_reducible rfl
            try simp only [Act.put, List.setIfInBounds_toArray, List.set_cons_zero, List.set_cons_succ]
            refine' wpAnyH_take (i := 18) ?hidx18 ?hsdx18 ?hfdx18 ?hrdx18 ?hQdx18 ?hydx18 ?hSdx18 ?restdx18
            case hidx18 =>
              simp only [List.getElem?_toArray, List.getElem?_cons_succ, List.getElem?_cons_zero]
              all_goals rfl
            case hsdx18 => kernel_rfl
            case hfdx18 => kernel_rfl
            case hrdx18 => kernel_rfl
            case hQdx18 => exact fun _ _ _ h => h
            case hSdx18 => assumption
            case hydx18 =>
              refine Or.inl ⟨by rfl, ?_⟩
              intro w hSw
              try dsimp only at hSw
              go_simp
              all_goals with_reducible rfl
            try simp only [Act.put, List.setIfInBounds_toArray, List.set_cons_zero, List.set_cons_succ]
            refine' wpAnyH_take (i := 19) ?hidx19 ?hsdx19 ?hfdx19 ?hrdx19 ?hQdx19 ?hydx19 ?hSdx19 ?restdx19
            case hidx19 =>
              simp only [List.getElem?_toArray, List.getElem?_cons_succ, List.getElem?_cons_zero]
              all_goals rfl
            case hsdx19 => kernel_rfl
            case hfdx19 => kernel_rfl
            case hrdx19 => kernel_rfl
            case hQdx19 => exact fun _ _ _ h => h
            case hSdx19 => assumption
            case hydx19 =>
              refine Or.inl ⟨by rfl, ?_⟩
              intro w hSw
              try dsimp only at hSw
              go_simp
              all_goals with_reducible rfl
            try simp only [Act.put, List.setIfInBounds_toArray, List.set_cons_zero, List.set_cons_succ]
            refine' wpAnyH_take (i := 20) ?hidx20 ?hsdx20 ?hfdx20 ?hrdx20 ?hQdx20 ?hydx20 ?hSdx20 ?restdx20
            case hidx20 =>
              simp only [List.getElem?_toArray, List.getElem?_cons_succ, List.getElem?_cons_zero]
              all_goals rfl
            case hsdx20 => kernel_rfl
            case hfdx20 => kernel_rfl
            case hrdx20 => kernel_rfl
            case hQdx20 => exact fun _ _ _ h => h
            case hSdx20 => assumption
            case hydx20 =>
              refine Or.inl ⟨by rfl, ?_⟩
              intro w hSw
              try dsimp only at hSw
              go_simp
              all_goals with_reducible rfl
            try simp only [Act.put, List.setIfInBounds_toArray, List.set_cons_zero, List.set_cons_succ]
            refine' wpAnyH_take (i := 21) ?hidx21 ?hsdx21 ?hfdx21 ?hrdx21 ?hQdx21 ?hydx21 ?hSdx21 ?restdx21
            case hidx21 =>
              simp only [List.getElem?_toArray, List.getElem?_cons_succ, List.getElem?_cons_zero]
              all_goals rfl
            case hsdx21 => kernel_rfl
            case hfdx21 => kernel_rfl
            case hrdx21 => kernel_rfl
            case hQdx21 => exact fun _ _ _ h => h
            case hSdx21 => assumption
            case hydx21 =>
              refine Or.inl ⟨by rfl, ?_⟩
              intro w hSw
              try dsimp only at hSw
              go_simp
              all_goals with_reducible rfl
            try simp only [Act.put, List.setIfInBounds_toArray, List.set_cons_zero, List.set_cons_succ]
            refine' wpAnyH_take (i := 22) ?hidx22 ?hsdx22 ?hfdx22 ?hrdx22 ?hQdx22 ?hydx22 ?hSdx22 ?restdx22
            case hidx22 =>
              simp only [List.getElem?_toArray, List.getElem?_cons_succ, List.getElem?_cons_zero]
              all_goals rfl
            case hsdx22 => kernel_rfl
            case hfdx22 => kernel_rfl
            case hrdx22 => kernel_rfl
            case hQdx22 => exact fun _ _ _ h => h
            case hSdx22 => assumption
            case hydx22 =>
              refine Or.inl ⟨by rfl, ?_⟩
              intro w hSw
              try dsimp only at hSw
              go_simp
              all_goals with_reducible rfl
            try simp only [Act.put, List.setIfInBounds_toArray, List.set_cons_zero, List.set_cons_succ]
            refine' wpAnyH_take (i := 23) ?hidx23 ?hsdx23 ?hfdx23 ?hrdx23 ?hQdx23 ?hydx23 ?hSdx23 ?restdx23
            case hidx23 =>
              simp only [List.getElem?_toArray, List.getElem?_cons_succ, List.getElem?_cons_zero]
              all_goals rfl
            case hsdx23 => kernel_rfl
            case hfdx23 => kernel_rfl
            case hrdx23 => kernel_rfl
            case hQdx23 => exact fun _ _ _ h => h
            case hSdx23 => assumption
            case hydx23 =>
              refine Or.inl ⟨by rfl, ?_⟩
              intro w hSw
              try dsimp only at hSw
              go_simp
              all_goals with_reducible rfl
            try simp only [Act.put, List.setIfInBounds_toArray, List.set_cons_zero, List.set_cons_succ]
            refine wpAnyH_done (by kernel_rfl) ?_ _
            clear t0 t1 t2 z0 z1 z2
            go_wp2_with fail
            refine wp_region_held_drew (S := fun w' => Below w.heap.size w w') (by kernel_rfl) ?_ (fun hHeld => ?_)
            · exact B3.drew.drew
            refine' wpAnyH_take (i := 0) ?hiex0 ?hsex0 ?hfex0 ?hrex0 ?hQex0 ?hyex0 ?hSex0 ?restex0
            case hiex0 =>
              simp only [List.getElem?_toArray, List.getElem?_cons_succ, List.getElem?_cons_zero]
              all_goals rfl
            case hsex0 => kernel_rfl
            case hfex0 => kernel_rfl
            case hrex0 => kernel_rfl
            case hQex0 => exact fun _ _ _ h => h
            case hSex0 => assumption
            case hyex0 =>
              refine Or.inl ⟨by rfl, ?_⟩
              intro w hSw
              try dsimp only at hSw
              go_simp
              all_goals with_reducible rfl
            try simp only [Act.put, List.setIfInBounds_toArray, List.set_cons_zero, List.set_cons_succ]
            refine' wpAnyH_take (i := 1) ?hiex1 ?hsex1 ?hfex1 ?hrex1 ?hQex1 ?hyex1 ?hSex1 ?restex1
            case hiex1 =>
              simp only [List.getElem?_toArray, List.getElem?_cons_succ, List.getElem?_cons_zero]
              all_goals rfl
            case hsex1 => kernel_rfl
            case hfex1 => kernel_rfl
            case hrex1 => kernel_rfl
            case hQex1 => exact fun _ _ _ h => h
            case hSex1 => assumption
            case hyex1 =>
              refine Or.inl ⟨by rfl, ?_⟩
              intro w hSw
              try dsimp only at hSw
              go_simp
              all_goals with_reducible rfl
            try simp only [Act.put, List.setIfInBounds_toArray, List.set_cons_zero, List.set_cons_succ]
            refine' wpAnyH_take (i := 2) ?hiex2 ?hsex2 ?hfex2 ?hrex2 ?hQex2 ?hyex2 ?hSex2 ?restex2
            case hiex2 =>
              simp only [List.getElem?_toArray, List.getElem?_cons_succ, List.getElem?_cons_zero]
              all_goals rfl
            case hsex2 => kernel_rfl
            case hfex2 => kernel_rfl
            case hrex2 => kernel_rfl
            case hQex2 => exact fun _ _ _ h => h
            case hSex2 => assumption
            case hyex2 =>
              refine Or.inl ⟨by rfl, ?_⟩
              intro w hSw
              try dsimp only at hSw
              go_simp
              all_goals with_reducible rfl
            try simp only [Act.put, List.setIfInBounds_toArray, List.set_cons_zero, List.set_cons_succ]
            refine' wpAnyH_take (i := 3) ?hiex3 ?hsex3 ?hfex3 ?hrex3 ?hQex3 ?hyex3 ?hSex3 ?restex3
            case hiex3 =>
              simp only [List.getElem?_toArray, List.getElem?_cons_succ, List.getElem?_cons_zero]
              all_goals rfl
            case hsex3 => kernel_rfl
            case hfex3 => kernel_rfl
            case hrex3 => kernel_rfl
            case hQex3 => exact fun _ _ _ h => h
            case hSex3 => assumption
            case hyex3 =>
              refine Or.inl ⟨by rfl, ?_⟩
              intro w hSw
              try dsimp only at hSw
              go_simp
              all_goals with_reducible rfl
            try simp only [Act.put, List.setIfInBounds_toArray, List.set_cons_zero, List.set_cons_succ]
            refine' wpAnyH_take (i := 4) ?hiex4 ?hsex4 ?hfex4 ?hrex4 ?hQex4 ?hyex4 ?hSex4 ?restex4
            case hiex4 =>
              simp only [List.getElem?_toArray, List.getElem?_cons_succ, List.getElem?_cons_zero]
              all_goals rfl
            case hsex4 => kernel_rfl
            case hfex4 => kernel_rfl
            case hrex4 => kernel_rfl
            case hQex4 => exact fun _ _ _ h => h
            case hSex4 => assumption
            case hyex4 =>
              refine Or.inl ⟨by rfl, ?_⟩
              intro w hSw
              try dsimp only at hSw
              go_simp
              all_goals with_reducible rfl
            try simp only [Act.put, List.setIfInBounds_toArray, List.set_cons_zero, List.set_cons_succ]
            refine' wpAnyH_take (i := 5) ?hiex5 ?hsex5 ?hfex5 ?hrex5 ?hQex5 ?hyex5 ?hSex5 ?restex5
            case hiex5 =>
              simp only [List.getElem?_toArray, List.getElem?_cons_succ, List.getElem?_cons_zero]
              all_goals rfl
            case hsex5 => kernel_rfl
            case hfex5 => kernel_rfl
            case hrex5 => kernel_rfl
            case hQex5 => exact fun _ _ _ h => h
            case hSex5 => assumption
            case hyex5 =>
              refine Or.inl ⟨by rfl, ?_⟩
              intro w hSw
              try dsimp only at hSw
              go_simp
              all_goals with_reducible rfl
            try simp only [Act.put, List.setIfInBounds_toArray, List.set_cons_zero, List.set_cons_succ]
            refine' wpAnyH_take (i := 6) ?hiex6 ?hsex6 ?hfex6 ?hrex6 ?hQex6 ?hyex6 ?hSex6 ?restex6
            case hiex6 =>
              simp only [List.getElem?_toArray, List.getElem?_cons_succ, List.getElem?_cons_zero]
              all_goals rfl
            case hsex6 => kernel_rfl
            case hfex6 => kernel_rfl
            case hrex6 => kernel_rfl
            case hQex6 => exact fun _ _ _ h => h
            case hSex6 => assumption
            case hyex6 =>
              refine Or.inl ⟨by rfl, ?_⟩
              intro w hSw
              try dsimp only at hSw
              go_simp
              all_goals with_reducible rfl
            try simp only [Act.put, List.setIfInBounds_toArray, List.set_cons_zero, List.set_cons_succ]
            refine' wpAnyH_take (i := 7) ?hiex7 ?hsex7 ?hfex7 ?hrex7 ?hQex7 ?hyex7 ?hSex7 ?restex7
            case hiex7 =>
              simp only [List.getElem?_toArray, List.getElem?_cons_succ, List.getElem?_cons_zero]
              all_goals rfl
            case hsex7 => kernel_rfl
            case hfex7 => kernel_rfl
            case hrex7 => kernel_rfl
            case hQex7 => exact fun _ _ _ h => h
            case hSex7 => assumption
            case hyex7 =>
              refine Or.inl ⟨by rfl, ?_⟩
              intro w hSw
              try dsimp only at hSw
              go_simp
              all_goals with_reducible rfl
            try simp only [Act.put, List.setIfInBounds_toArray, List.set_cons_zero, List.set_cons_succ]
            refine' wpAnyH_take (i := 8) ?hiex8 ?hsex8 ?hfex8 ?hrex8 ?hQex8 ?hyex8 ?hSex8 ?restex8
            case hiex8 =>
              simp only [List.getElem?_toArray, List.getElem?_cons_succ, List.getElem?_cons_zero]
              all_goals rfl
            case hsex8 => kernel_rfl
            case hfex8 => kernel_rfl
            case hrex8 => kernel_rfl
            case hQex8 => exact fun _ _ _ h => h
            case hSex8 => assumption
            case hyex8 =>
              refine Or.inl ⟨by rfl, ?_⟩
              intro w hSw
              try dsimp only at hSw
              go_simp
              all_goals with_reducible rfl
            try simp only [Act.put, List.setIfInBounds_toArray, List.set_cons_zero, List.set_cons_succ]
            refine' wpAnyH_take (i := 9) ?hiex9 ?hsex9 ?hfex9 ?hrex9 ?hQex9 ?hyex9 ?hSex9 ?restex9
            case hiex9 =>
              simp only [List.getElem?_toArray, List.getElem?_cons_succ, List.getElem?_cons_zero]
              all_goals rfl
            case hsex9 => kernel_rfl
            case hfex9 => kernel_rfl
            case hrex9 => kernel_rfl
            case hQex9 => exact fun _ _ _ h => h
            case hSex9 => assumption
            case hyex9 =>
              refine Or.inl ⟨by rfl, ?_⟩
              intro w hSw
              try dsimp only at hSw
              go_simp
              all_goals with_reducible rfl
            try simp only [Act.put, List.setIfInBounds_toArray, List.set_cons_zero, List.set_cons_succ]
            refine' wpAnyH_take (i := 10) ?hiex10 ?hsex10 ?hfex10 ?hrex10 ?hQex10 ?hyex10 ?hSex10 ?restex10
            case hiex10 =>
              simp only [List.getElem?_toArray, List.getElem?_cons_succ, List.getElem?_cons_zero]
              all_goals rfl
            case hsex10 => kernel_rfl
            case hfex10 => kernel_rfl
            case hrex10 => kernel_rfl
            case hQex10 => exact fun _ _ _ h => h
            case hSex10 => assumption
            case hyex10 =>
              refine Or.inl ⟨by rfl, ?_⟩
              intro w hSw
              try dsimp only at hSw
              go_simp
              all_goals with_reducible rfl
            try simp only [Act.put, List.setIfInBounds_toArray, List.set_cons_zero, List.set_cons_succ]
            refine' wpAnyH_take (i := 11) ?hiex11 ?hsex11 ?hfex11 ?hrex11 ?hQex11 ?hyex11 ?hSex11 ?restex11
            case hiex11 =>
              simp only [List.getElem?_toArray, List.getElem?_cons_succ, List.getElem?_cons_zero]
              all_goals rfl
            case hsex11 => kernel_rfl
            case hfex11 => kernel_rfl
            case hrex11 => kernel_rfl
            case hQex11 => exact fun _ _ _ h => h
            case hSex11 => assumption
            case hyex11 =>
              refine Or.inl ⟨by rfl, ?_⟩
              intro w hSw
              try dsimp only at hSw
              go_simp
              all_goals with_reducible rfl
            try simp only [Act.put, List.setIfInBounds_toArray, List.set_cons_zero, List.set_cons_succ]
            refine' wpAnyH_take (i := 12) ?hiex12 ?hsex12 ?hfex12 ?hrex12 ?hQex12 ?hyex12 ?hSex12 ?restex12
            case hiex12 =>
              simp only [List.getElem?_toArray, List.getElem?_cons_succ, List.getElem?_cons_zero]
              all_goals rfl
            case hsex12 => kernel_rfl
            case hfex12 => kernel_rfl
            case hrex12 => kernel_rfl
            case hQex12 => exact fun _ _ _ h => h
            case hSex12 => assumption
            case hyex12 =>
              refine Or.inl ⟨by rfl, ?_⟩
              intro w hSw
              try dsimp only at hSw
              go_simp
              all_goals with_reducible rfl
            try simp only [Act.put, List.setIfInBounds_toArray, List.set_cons_zero, List.set_cons_succ]
            refine' wpAnyH_take (i := 13) ?hiex13 ?hsex13 ?hfex13 ?hrex13 ?hQex13 ?hyex13 ?hSex13 ?restex13
            case hiex13 =>
              simp only [List.getElem?_toArray, List.getElem?_cons_succ, List.getElem?_cons_zero]
              all_goals rfl
            case hsex13 => kernel_rfl
            case hfex13 => kernel_rfl
            case hrex13 => kernel_rfl
            case hQex13 => exact fun _ _ _ h => h
            case hSex13 => assumption
            case hyex13 =>
              refine Or.inl ⟨by rfl, ?_⟩
              intro w hSw
              try dsimp only at hSw
              go_simp
              all_goals with_reducible rfl
            try simp only [Act.put, List.setIfInBounds_toArray, List.set_cons_zero, List.set_cons_succ]
            refine' wpAnyH_take (i := 14) ?hiex14 ?hsex14 ?hfex14 ?hrex14 ?hQex14 ?hyex14 ?hSex14 ?restex14
            case hiex14 =>
              simp only [List.getElem?_toArray, List.getElem?_cons_succ, List.getElem?_cons_zero]
              all_goals rfl
            case hsex14 => kernel_rfl
            case hfex14 => kernel_rfl
            case hrex14 => kernel_rfl
            case hQex14 => exact fun _ _ _ h => h
            case hSex14 => assumption
            case hyex14 =>
              refine Or.inl ⟨by rfl, ?_⟩
              intro w hSw
              try dsimp only at hSw
              go_simp
              all_goals with_reducible rfl
            try simp only [Act.put, List.setIfInBounds_toArray, List.set_cons_zero, List.set_cons_succ]
            refine' wpAnyH_take (i := 15) ?hiex15 ?hsex15 ?hfex15 ?hrex15 ?hQex15 ?hyex15 ?hSex15 ?restex15
            case hiex15 =>
              simp only [List.getElem?_toArray, List.getElem?_cons_succ, List.getElem?_cons_zero]
              all_goals rfl
            case hsex15 => kernel_rfl
            case hfex15 => kernel_rfl
            case hrex15 => kernel_rfl
            case hQex15 => exact fun _ _ _ h => h
            case hSex15 => assumption
            case hyex15 =>
              refine Or.inl ⟨by rfl, ?_⟩
              intro w hSw
              try dsimp only at hSw
              go_simp
              all_goals with_reducible rfl
            try simp only [Act.put, List.setIfInBounds_toArray, List.set_cons_zero, List.set_cons_succ]
            refine' wpAnyH_take (i := 16) ?hiex16 ?hsex16 ?hfex16 ?hrex16 ?hQex16 ?hyex16 ?hSex16 ?restex16
            case hiex16 =>
              simp only [List.getElem?_toArray, List.getElem?_cons_succ, List.getElem?_cons_zero]
              all_goals rfl
            case hsex16 => kernel_rfl
            case hfex16 => kernel_rfl
            case hrex16 => kernel_rfl
            case hQex16 => exact fun _ _ _ h => h
            case hSex16 => assumption
            case hyex16 =>
              refine Or.inl ⟨by rfl, ?_⟩
              intro w hSw
              try dsimp only at hSw
              go_simp
              all_goals with_reducible rfl
            try simp only [Act.put, List.setIfInBounds_toArray, List.set_cons_zero, List.set_cons_succ]
            refine' wpAnyH_take (i := 17) ?hiex17 ?hsex17 ?hfex17 ?hrex17 ?hQex17 ?hyex17 ?hSex17 ?restex17
            case hiex17 =>
              simp only [List.getElem?_toArray, List.getElem?_cons_succ, List.getElem?_cons_zero]
              all_goals rfl
            case hsex17 => kernel_rfl
            case hfex17 => kernel_rfl
            case hrex17 => kernel_rfl
            case hQex17 => exact fun _ _ _ h => h
            case hSex17 => assumption
            case hyex17 =>
              refine Or.inl ⟨by rfl, ?_⟩
              intro w hSw
              try dsimp only at hSw
              go_simp
              all_goals with_reducible rfl
            try simp only [Act.put, List.setIfInBounds_toArray, List.set_cons_zero, List.set_cons_succ]
            refine' wpAnyH_take (i := 18) ?hiex18 ?hsex18 ?hfex18 ?hrex18 ?hQex18 ?hyex18 ?hSex18 ?restex18
            case hiex18 =>
              simp only [List.getElem?_toArray, List.getElem?_cons_succ, List.getElem?_cons_zero]
              all_goals rfl
            case hsex18 => kernel_rfl
            case hfex18 => kernel_rfl
            case hrex18 => kernel_rfl
            case hQex18 => exact fun _ _ _ h => h
            case hSex18 => assumption
            case hyex18 =>
              refine Or.inl ⟨by rfl, ?_⟩
              intro w hSw
              try dsimp only at hSw
              go_simp
              all_goals with_reducible rfl
            try simp only [Act.put, List.setIfInBounds_toArray, List.set_cons_zero, List.set_cons_succ]
            refine' wpAnyH_take (i := 19) ?hiex19 ?hsex19 ?hfex19 ?hrex19 ?hQex19 ?hyex19 ?hSex19 ?restex19
            case hiex19 =>
              simp only [List.getElem?_toArray, List.getElem?_cons_succ, List.getElem?_cons_zero]
              all_goals rfl
            case hsex19 => kernel_rfl
            case hfex19 => kernel_rfl
            case hrex19 => kernel_rfl
            case hQex19 => exact fun _ _ _ h => h
            case hSex19 => assumption
            case hyex19 =>
              refine Or.inl ⟨by rfl, ?_⟩
              intro w hSw
              try dsimp only at hSw
              go_simp
              all_goals with_reducible rfl
            try simp only [Act.put, List.setIfInBounds_toArray, List.set_cons_zero, List.set_cons_succ]
            refine' wpAnyH_take (i := 20) ?hiex20 ?hsex20 ?hfex20 ?hrex20 ?hQex20 ?hyex20 ?hSex20 ?restex20
            case hiex20 =>
              simp only [List.getElem?_toArray, List.getElem?_cons_succ, List.getElem?_cons_zero]
              all_goals rfl
            case hsex20 => kernel_rfl
            case hfex20 => kernel_rfl
            case hrex20 => kernel_rfl
            case hQex20 => exact fun _ _ _ h => h
            case hSex20 => assumption
            case hyex20 =>
              refine Or.inl ⟨by rfl, ?_⟩
              intro w hSw
              try dsimp only at hSw
              go_simp
              all_goals with_reducible rfl
            try simp only [Act.put, List.setIfInBounds_toArray, List.set_cons_zero, List.set_cons_succ]
            refine' wpAnyH_take (i := 21) ?hiex21 ?hsex21 ?hfex21 ?hrex21 ?hQex21 ?hyex21 ?hSex21 ?restex21
            case hiex21 =>
              simp only [List.getElem?_toArray, List.getElem?_cons_succ, List.getElem?_cons_zero]
              all_goals rfl
            case hsex21 => kernel_rfl
            case hfex21 => kernel_rfl
            case hrex21 => kernel_rfl
            case hQex21 => exact fun _ _ _ h => h
            case hSex21 => assumption
            case hyex21 =>
              refine Or.inl ⟨by rfl, ?_⟩
              intro w hSw
              try dsimp only at hSw
              go_simp
              all_goals with_reducible rfl
            try simp only [Act.put, List.setIfInBounds_toArray, List.set_cons_zero, List.set_cons_succ]
            refine' wpAnyH_take (i := 22) ?hiex22 ?hsex22 ?hfex22 ?hrex22 ?hQex22 ?hyex22 ?hSex22 ?restex22
            case hiex22 =>
              simp only [List.getElem?_toArray, List.getElem?_cons_succ, List.getElem?_cons_zero]
              all_goals rfl
            case hsex22 => kernel_rfl
            case hfex22 => kernel_rfl
            case hrex22 => kernel_rfl
            case hQex22 => exact fun _ _ _ h => h
            case hSex22 => assumption
            case hyex22 =>
              refine Or.inl ⟨by rfl, ?_⟩
              intro w hSw
              try dsimp only at hSw
              go_simp
              all_goals with_reducible rfl
            try simp only [Act.put, List.setIfInBounds_toArray, List.set_cons_zero, List.set_cons_succ]
            refine' wpAnyH_take (i := 23) ?hiex23 ?hsex23 ?hfex23 ?hrex23 ?hQex23 ?hyex23 ?hSex23 ?restex23
            case hiex23 =>
              simp only [List.getElem?_toArray, List.getElem?_cons_succ, List.getElem?_cons_zero]
              all_goals rfl
            case hsex23 => kernel_rfl
            case hfex23 => kernel_rfl
            case hrex23 => kernel_rfl
            case hQex23 => exact fun _ _ _ h => h
            case hSex23 => assumption
            case hyex23 =>
              refine Or.inl ⟨by rfl, ?_⟩
              intro w hSw
              try dsimp only at hSw
              go_simp
              all_goals with_reducible rfl
            try simp only [Act.put, List.setIfInBounds_toArray, List.set_cons_zero, List.set_cons_succ]
            refine wpAnyH_ready (rs := [24]) (by kernel_rfl) (by simp) ?_
            refine AllReadyH.cons rfl (fun K hK => ?_) AllReadyH.nil
            go_simp
            refine (same_any (some ⟨b2, o2, none⟩) B m m c2 cap C C _ hV.drew.drew hW.drew.drew (by omega) (by omega)).mono ?_
            rintro e w4 ⟨rfl, hbw4⟩
            rw [decide_eq_true rfl]
            have Bw4 : Below w.heap.size w w4 := B3.drew.drew.trans (hbw4.mono B3.drew.drew.size)
            try go_wp2_with fail
            refine hK.out _ _ ?_ (fun hHeld => ?_)
            · exact Bw4
            clear hK K
            try simp only [Act.put, List.setIfInBounds_toArray, List.set_cons_zero, List.set_cons_succ]
            refine' wpAnyH_take (i := 25) ?hiex25 ?hsex25 ?hfex25 ?hrex25 ?hQex25 ?hyex25 ?hSex25 ?restex25
            case hiex25 =>
              simp only [List.getElem?_toArray, List.getElem?_cons_succ, List.getElem?_cons_zero]
              all_goals rfl
            case hsex25 => kernel_rfl
            case hfex25 => kernel_rfl
            case hrex25 => kernel_rfl
            case hQex25 => exact fun _ _ _ h => h
            case hSex25 => assumption
            case hyex25 =>
              refine Or.inl ⟨by rfl, ?_⟩
              intro w hSw
              try dsimp only at hSw
              go_simp
              all_goals with_reducible rfl
            try simp only [Act.put, List.setIfInBounds_toArray, List.set_cons_zero, List.set_cons_succ]
            refine' wpAnyH_take (i := 26) ?hiex26 ?hsex26 ?hfex26 ?hrex26 ?hQex26 ?hyex26 ?hSex26 ?restex26
            case hiex26 =>
              simp only [List.getElem?_toArray, List.getElem?_cons_succ, List.getElem?_cons_zero]
              all_goals rfl
            case hsex26 => kernel_rfl
            case hfex26 => kernel_rfl
            case hrex26 => kernel_rfl
            case hQex26 => exact fun _ _ _ h => h
            case hSex26 => assumption
            case hyex26 =>
              refine Or.inl ⟨by rfl, ?_⟩
              intro w hSw
              try dsimp only at hSw
              go_simp
              all_goals with_reducible rfl
            try simp only [Act.put, List.setIfInBounds_toArray, List.set_cons_zero, List.set_cons_succ]
            refine' wpAnyH_take (i := 27) ?hiex27 ?hsex27 ?hfex27 ?hrex27 ?hQex27 ?hyex27 ?hSex27 ?restex27
            case hiex27 =>
              simp only [List.getElem?_toArray, List.getElem?_cons_succ, List.getElem?_cons_zero]
              all_goals rfl
            case hsex27 => kernel_rfl
            case hfex27 => kernel_rfl
            case hrex27 => kernel_rfl
            case hQex27 => exact fun _ _ _ h => h
            case hSex27 => assumption
            case hyex27 =>
              refine Or.inl ⟨by rfl, ?_⟩
              intro w hSw
              try dsimp only at hSw
              go_simp
              all_goals with_reducible rfl
            try simp only [Act.put, List.setIfInBounds_toArray, List.set_cons_zero, List.set_cons_succ]
            refine wpAnyH_done (by kernel_rfl) ?_ _
            go_wp2
            go_roundw
            case rel => exact ⟨k + 1, (m + 1), c2, _, some ⟨b2, o2, none⟩, by omega, by go_num, rfl, hc2, hide (by rw [HN1.out, ← HC.out, HR.out]), hr3.drew.drew.below hbw4, Bw4⟩
            case measure => simp [intOf]; omega
          · obtain ⟨d, rfl⟩ : ∃ d, m = d + 1 := ⟨m - 1, by omega⟩
            have hd : d = 255 := by
              have := HC256.out
              have := HCm.out
              omega
            have HD := hide hd
            have HR := hide (rem_shift hx (by rw [HCm.out]; omega))
            have HRL := hide (show (C.drop 1 ++ [x]).length = d + 1 by rw [List.length_append, List.length_drop, HCm.out, List.length_singleton]; omega)
            have hmin : (if (256 : Int) < (d : Int) + 1 + 1 then (256 : Int) else (d : Int) + 1 + 1) = (d : Int) + 1 := by rw [if_pos (by omega)]; omega
            have hbne : ((d : Int) + 1 != (d : Int) + 1) = false := by simp
            have hlo : (d : Int) + 1 + 1 - ((d : Int) + 1) = 1 := by omega
            have hcap1 : ¬ cap = 1 := by omega
            have HT := hide (show (C.drop 1 ++ [x]).take d = C.drop 1 by
              rw [List.take_append_of_le_length (by rw [List.length_drop, HCm.out]; omega)]
              exact List.take_of_length_le (by rw [List.length_drop, HCm.out]; omega))
            have HG := hide (show (C.drop 1 ++ [x])[d]? = some x by
              rw [List.getElem?_append_right (by rw [List.length_drop, HCm.out]; omega), List.length_drop, HCm.out, show d - (d + 1 - 1) = 0 by omega]
              rfl)
            obtain ⟨b3, o3, rfl, _, _⟩ := hC.2 (by omega)
            have hm0 : ((d : Int) + 1 == 0) = false := by rw [beq_eq_false_iff_ne]; omega
            have hwr : IntKind.i64.wrap (d : Int) = (d : Int) := by rw [IntKind.wrap_i64]; omega
            have hin : (d : Int) < (d : Int) + 1 := by omega
            have hwr1 : IntKind.i64.wrap ((d : Int) + 1) = (d : Int) + 1 := by rw [IntKind.wrap_i64]; omega
            have hwr2 : IntKind.i64.wrap ((d : Int) + 1 + 1) = (d : Int) + 1 + 1 := by rw [IntKind.wrap_i64]; omega
            have hm256' : (d : Int) + 1 ≤ 256 := by omega
            clear hd
            have HM := hide (decide_eq_false hx)
            have HM2 := hide (show decide (x ∈ (C.drop 1 ++ [x])) = true from decide_eq_true (by simp))
            have hne := neq_msg_yes x
            clear hx
            go_wp2_with fail
            refine (seen_any (some ⟨b3, o3, none⟩) (d + 1) cap C x _ hC (by omega)).mono ?_
            rintro e w1 ⟨rfl, hb1⟩
            rw [HM.out]
            have q0 := (hb1.cell (p := ⟨b, o + k * 3, none⟩) hbs).trans p0
            have q1 := (hb1.cell (p := ⟨b, o + k * 3 + 1, none⟩) hbs).trans p1
            have q2 := (hb1.cell (p := ⟨b, o + k * 3 + 2, none⟩) hbs).trans p2
            go_wp2_with fail
            refine (remember_any (some ⟨b3, o3, none⟩) (d + 1) cap C x _ (hC.below hb1) hmc (by omega)).mono ?_
            rintro e w2 ⟨v2, rfl, hown2, hb2⟩
            rw [HR.out, HRL.out] at hown2
            obtain ⟨A2, c2, hv2, hc2, _, hr2⟩ := own_rdn hown2
            obtain ⟨b2, o2, rfl, hb2s, _⟩ := hr2.2 (by omega)
            rw [hv2]
            clear hown2 hv2 q0 q1 q2
            have hb12 := hb1.trans (hb2.mono hb1.size)
            have s0 := (hb12.cell (p := ⟨b, o + k * 3, none⟩) hbs).trans p0
            have s1 := (hb12.cell (p := ⟨b, o + k * 3 + 1, none⟩) hbs).trans p1
            have s2 := (hb12.cell (p := ⟨b, o + k * 3 + 2, none⟩) hbs).trans p2
            go_wp2_with fail
            refine (seen_any (some ⟨b2, o2, none⟩) (d + 1) c2 (C.drop 1 ++ [x]) x _ hr2 (by omega)).mono ?_
            rintro e w3 ⟨rfl, hb3⟩
            rw [HM2.out]
            have hb123 := hb12.trans (hb3.mono hb12.size)
            have B3 := hbe.trans (hb123.mono hsz)
            have hr3 := hr2.below hb3
            have hC3 := hC.below hb123
            clear s0 s1 s2 hr2 hb1 hb2 hb12
            go_wp2_with fail
            have hdc2 : d ≤ c2 := by omega
            have hw0 : IntKind.i64.wrap (0 : Int) = 0 := by rw [IntKind.wrap_i64]; omega
            have hw1 : IntKind.i64.wrap (1 : Int) = 1 := by rw [IntKind.wrap_i64]; omega
            have hm00 : (0 : Int) ≤ (d : Int) := by omega
            have hm11 : (1 : Int) ≤ (d : Int) + 1 := by omega
            obtain ⟨b2', o2', y, he2, _, HY, t0, t1, t2⟩ := hr3.msg (k := d) (by omega)
            injection he2 with he2
            injection he2 with e1 e2
            subst e1
            subst e2
            obtain rfl : y = x := by have := HY.out; rw [HG.out] at this; injection this with this; exact this.symm
            have z0 := (hb123.cell (p := ⟨b, o + k * 3, none⟩) hbs).trans p0
            have z1 := (hb123.cell (p := ⟨b, o + k * 3 + 1, none⟩) hbs).trans p1
            have z2 := (hb123.cell (p := ⟨b, o + k * 3 + 2, none⟩) hbs).trans p2
            have hW : Rd w3 3 (some ⟨b3, o3 + 3, none⟩) d (mv (C.drop 1)) := hC3.mdrop_at (k := 1) (by omega)
            have hV : Rd w3 3 (some ⟨b2, o2, none⟩) d (mv (C.drop 1)) := by
              have := hr3.mtake (k := d) (by omega)
              rw [HT.out] at this
              exact this
            refine wp_region_held_drew (S := fun w' => w'.cell? ⟨b2, o2 + d * 3, none⟩ = some (.int .u16 y.s) ∧ w'.cell? ⟨b2, o2 + d * 3 + 1, none⟩ = some (.int .u32 y.i) ∧ w'.cell? ⟨b2, o2 + d * 3 + 2, none⟩ = some (.int .u32 y.q) ∧ w'.cell? ⟨b, o + k * 3, none⟩ = some (.int .u16 y.s) ∧ w'.cell? ⟨b, o + k * 3 + 1, none⟩ = some (.int .u32 y.i) ∧ w'.cell? ⟨b, o + k * 3 + 2, none⟩ = some (.int .u32 y.q) ∧ Below w.heap.size w w') (by kernel_rfl) ?_ (fun hHeld => ?_)
            · exact ⟨t0, t1, t2, z0, z1, z2, B3.drew⟩
            refine' wpAnyH_take (i := 0) ?hifx0 ?hsfx0 ?hffx0 ?hrfx0 ?hQfx0 ?hyfx0 ?hSfx0 ?restfx0
            case hifx0 =>
              simp only [List.getElem?_toArray, List.getElem?_cons_succ, List.getElem?_cons_zero]
              all_goals rfl
            case hsfx0 => kernel_rfl
            case hffx0 => kernel_rfl
            case hrfx0 => kernel_rfl
            case hQfx0 => exact fun _ _ _ h => h
            case hSfx0 => assumption
            case hyfx0 =>
              refine Or.inl ⟨by rfl, ?_⟩
              intro w hSw
              try dsimp only at hSw
              go_simp
              all_goals with_reducible rfl
            try simp only [Act.put, List.setIfInBounds_toArray, List.set_cons_zero, List.set_cons_succ]
            refine' wpAnyH_take (i := 1) ?hifx1 ?hsfx1 ?hffx1 ?hrfx1 ?hQfx1 ?hyfx1 ?hSfx1 ?restfx1
            case hifx1 =>
              simp only [List.getElem?_toArray, List.getElem?_cons_succ, List.getElem?_cons_zero]
              all_goals rfl
            case hsfx1 => kernel_rfl
            case hffx1 => kernel_rfl
            case hrfx1 => kernel_rfl
            case hQfx1 => exact fun _ _ _ h => h
            case hSfx1 => assumption
            case hyfx1 =>
              refine Or.inl ⟨by rfl, ?_⟩
              intro w hSw
              try dsimp only at hSw
              go_simp
              all_goals with_reducible rfl
            try simp only [Act.put, List.setIfInBounds_toArray, List.set_cons_zero, List.set_cons_succ]
            refine' wpAnyH_take (i := 2) ?hifx2 ?hsfx2 ?hffx2 ?hrfx2 ?hQfx2 ?hyfx2 ?hSfx2 ?restfx2
            case hifx2 =>
              simp only [List.getElem?_toArray, List.getElem?_cons_succ, List.getElem?_cons_zero]
              all_goals rfl
            case hsfx2 => kernel_rfl
            case hffx2 => kernel_rfl
            case hrfx2 => kernel_rfl
            case hQfx2 => exact fun _ _ _ h => h
            case hSfx2 => assumption
            case hyfx2 => exact Or.inr ⟨by rfl, rfl⟩
            try simp only [Act.put, List.setIfInBounds_toArray, List.set_cons_zero, List.set_cons_succ]
            refine' wpAnyH_take (i := 3) ?hifx3 ?hsfx3 ?hffx3 ?hrfx3 ?hQfx3 ?hyfx3 ?hSfx3 ?restfx3
            case hifx3 =>
              simp only [List.getElem?_toArray, List.getElem?_cons_succ, List.getElem?_cons_zero]
              all_goals rfl
            case hsfx3 => kernel_rfl
            case hffx3 => kernel_rfl
            case hrfx3 => kernel_rfl
            case hQfx3 => exact fun _ _ _ h => h
            case hSfx3 => assumption
            case hyfx3 => exact Or.inr ⟨by rfl, rfl⟩
            try simp only [Act.put, List.setIfInBounds_toArray, List.set_cons_zero, List.set_cons_succ]
            refine' wpAnyH_take (i := 4) ?hifx4 ?hsfx4 ?hffx4 ?hrfx4 ?hQfx4 ?hyfx4 ?hSfx4 ?restfx4
            case hifx4 =>
              simp only [List.getElem?_toArray, List.getElem?_cons_succ, List.getElem?_cons_zero]
              all_goals rfl
            case hsfx4 => kernel_rfl
            case hffx4 => kernel_rfl
            case hrfx4 => kernel_rfl
            case hQfx4 => exact fun _ _ _ h => h
            case hSfx4 => assumption
            case hyfx4 => exact Or.inr ⟨by rfl, rfl⟩
            try simp only [Act.put, List.setIfInBounds_toArray, List.set_cons_zero, List.set_cons_succ]
            refine' wpAnyH_take (i := 5) ?hifx5 ?hsfx5 ?hffx5 ?hrfx5 ?hQfx5 ?hyfx5 ?hSfx5 ?restfx5
            case hifx5 =>
              simp only [List.getElem?_toArray, List.getElem?_cons_succ, List.getElem?_cons_zero]
              all_goals rfl
            case hsfx5 => kernel_rfl
            case hffx5 => kernel_rfl
            case hrfx5 => kernel_rfl
            case hQfx5 => exact fun _ _ _ h => h
            case hSfx5 => assumption
            case hyfx5 => exact Or.inr ⟨by rfl, rfl⟩
            try simp only [Act.put, List.setIfInBounds_toArray, List.set_cons_zero, List.set_cons_succ]
            refine' wpAnyH_take (i := 6) ?hifx6 ?hsfx6 ?hffx6 ?hrfx6 ?hQfx6 ?hyfx6 ?hSfx6 ?restfx6
            case hifx6 =>
              simp only [List.getElem?_toArray, List.getElem?_cons_succ, List.getElem?_cons_zero]
              all_goals rfl
            case hsfx6 => kernel_rfl
            case hffx6 => kernel_rfl
            case hrfx6 => kernel_rfl
            case hQfx6 => exact fun _ _ _ h => h
            case hSfx6 => assumption
            case hyfx6 =>
              refine Or.inl ⟨by rfl, ?_⟩
              intro w hSw
              try dsimp only at hSw
              go_simp
              all_goals with_reducible rfl
            try simp only [Act.put, List.setIfInBounds_toArray, List.set_cons_zero, List.set_cons_succ]
            refine' wpAnyH_take (i := 7) ?hifx7 ?hsfx7 ?hffx7 ?hrfx7 ?hQfx7 ?hyfx7 ?hSfx7 ?restfx7
            case hifx7 =>
              simp only [List.getElem?_toArray, List.getElem?_cons_succ, List.getElem?_cons_zero]
              all_goals rfl
            case hsfx7 => kernel_rfl
            case hffx7 => kernel_rfl
            case hrfx7 => kernel_rfl
            case hQfx7 => exact fun _ _ _ h => h
            case hSfx7 => assumption
            case hyfx7 =>
              refine Or.inl ⟨by rfl, ?_⟩
              intro w hSw
              try dsimp only at hSw
              go_simp
              all_goals with_reducible rfl
            try simp only [Act.put, List.setIfInBounds_toArray, List.set_cons_zero, List.set_cons_succ]
            refine' wpAnyH_take (i := 8) ?hifx8 ?hsfx8 ?hffx8 ?hrfx8 ?hQfx8 ?hyfx8 ?hSfx8 ?restfx8
            case hifx8 =>
              simp only [List.getElem?_toArray, List.getElem?_cons_succ, List.getElem?_cons_zero]
              all_goals rfl
            case hsfx8 => kernel_rfl
            case hffx8 => kernel_rfl
            case hrfx8 => kernel_rfl
            case hQfx8 => exact fun _ _ _ h => h
            case hSfx8 => assumption
            case hyfx8 =>
              refine Or.inl ⟨by rfl, ?_⟩
              intro w hSw
              try dsimp only at hSw
              go_simp
              all_goals with_reducible rfl
            try simp only [Act.put, List.setIfInBounds_toArray, List.set_cons_zero, List.set_cons_succ]
            refine' wpAnyH_take (i := 9) ?hifx9 ?hsfx9 ?hffx9 ?hrfx9 ?hQfx9 ?hyfx9 ?hSfx9 ?restfx9
            case hifx9 =>
              simp only [List.getElem?_toArray, List.getElem?_cons_succ, List.getElem?_cons_zero]
              all_goals rfl
            case hsfx9 => kernel_rfl
            case hffx9 => kernel_rfl
            case hrfx9 => kernel_rfl
            case hQfx9 => exact fun _ _ _ h => h
            case hSfx9 => assumption
            case hyfx9 =>
              refine Or.inl ⟨by rfl, ?_⟩
              intro w hSw
              try dsimp only at hSw
              go_simp
              all_goals with_reducible rfl
            try simp only [Act.put, List.setIfInBounds_toArray, List.set_cons_zero, List.set_cons_succ]
            refine' wpAnyH_take (i := 10) ?hifx10 ?hsfx10 ?hffx10 ?hrfx10 ?hQfx10 ?hyfx10 ?hSfx10 ?restfx10
            case hifx10 =>
              simp only [List.getElem?_toArray, List.getElem?_cons_succ, List.getElem?_cons_zero]
              all_goals rfl
            case hsfx10 => kernel_rfl
            case hffx10 => kernel_rfl
            case hrfx10 => kernel_rfl
            case hQfx10 => exact fun _ _ _ h => h
            case hSfx10 => assumption
            case hyfx10 =>
              refine Or.inl ⟨by rfl, ?_⟩
              intro w hSw
              try dsimp only at hSw
              go_simp
              all_goals with_reducible rfl
            try simp only [Act.put, List.setIfInBounds_toArray, List.set_cons_zero, List.set_cons_succ]
            refine' wpAnyH_take (i := 11) ?hifx11 ?hsfx11 ?hffx11 ?hrfx11 ?hQfx11 ?hyfx11 ?hSfx11 ?restfx11
            case hifx11 =>
              simp only [List.getElem?_toArray, List.getElem?_cons_succ, List.getElem?_cons_zero]
              all_goals rfl
            case hsfx11 => kernel_rfl
            case hffx11 => kernel_rfl
            case hrfx11 => kernel_rfl
            case hQfx11 => exact fun _ _ _ h => h
            case hSfx11 => assumption
            case hyfx11 =>
              refine Or.inl ⟨by rfl, ?_⟩
              intro w hSw
              try dsimp only at hSw
              go_simp
              all_goals with_reducible rfl
            try simp only [Act.put, List.setIfInBounds_toArray, List.set_cons_zero, List.set_cons_succ]
            refine' wpAnyH_take (i := 12) ?hifx12 ?hsfx12 ?hffx12 ?hrfx12 ?hQfx12 ?hyfx12 ?hSfx12 ?restfx12
            case hifx12 =>
              simp only [List.getElem?_toArray, List.getElem?_cons_succ, List.getElem?_cons_zero]
              all_goals rfl
            case hsfx12 => kernel_rfl
            case hffx12 => kernel_rfl
            case hrfx12 => kernel_rfl
            case hQfx12 => exact fun _ _ _ h => h
            case hSfx12 => assumption
            case hyfx12 =>
              refine Or.inl ⟨by rfl, ?_⟩
              intro w hSw
              try dsimp only at hSw
              go_simp
              all_goals with_reducible rfl
            try simp only [Act.put, List.setIfInBounds_toArray, List.set_cons_zero, List.set_cons_succ]
            refine' wpAnyH_take (i := 13) ?hifx13 ?hsfx13 ?hffx13 ?hrfx13 ?hQfx13 ?hyfx13 ?hSfx13 ?restfx13
            case hifx13 =>
              simp only [List.getElem?_toArray, List.getElem?_cons_succ, List.getElem?_cons_zero]
              all_goals rfl
            case hsfx13 => kernel_rfl
            case hffx13 => kernel_rfl
            case hrfx13 => kernel_rfl
            case hQfx13 => exact fun _ _ _ h => h
            case hSfx13 => assumption
            case hyfx13 =>
              refine Or.inl ⟨by rfl, ?_⟩
              intro w hSw
              try dsimp only at hSw
              go_simp
              all_goals with_reducible rfl
            try simp only [Act.put, List.setIfInBounds_toArray, List.set_cons_zero, List.set_cons_succ]
            refine' wpAnyH_take (i := 14) ?hifx14 ?hsfx14 ?hffx14 ?hrfx14 ?hQfx14 ?hyfx14 ?hSfx14 ?restfx14
            case hifx14 =>
              simp only [List.getElem?_toArray, List.getElem?_cons_succ, List.getElem?_cons_zero]
              all_goals rfl
            case hsfx14 => kernel_rfl
            case hffx14 => kernel_rfl
            case hrfx14 => kernel_rfl
            case hQfx14 => exact fun _ _ _ h => h
            case hSfx14 => assumption
            case hyfx14 =>
              refine Or.inl ⟨by rfl, ?_⟩
              intro w hSw
              try dsimp only at hSw
              go_simp
              all_goals with_reducible rfl
            try simp only [Act.put, List.setIfInBounds_toArray, List.set_cons_zero, List.set_cons_succ]
            refine' wpAnyH_take (i := 15) ?hifx15 ?hsfx15 ?hffx15 ?hrfx15 ?hQfx15 ?hyfx15 ?hSfx15 ?restfx15
            case hifx15 =>
              simp only [List.getElem?_toArray, List.getElem?_cons_succ, List.getElem?_cons_zero]
              all_goals rfl
            case hsfx15 => kernel_rfl
            case hffx15 => kernel_rfl
            case hrfx15 => kernel_rfl
            case hQfx15 => exact fun _ _ _ h => h
            case hSfx15 => assumption
            case hyfx15 =>
              refine Or.inl ⟨by rfl, ?_⟩
              intro w hSw
              try dsimp only at hSw
              go_simp
              all_goals with_reducible rfl
            try simp only [Act.put, List.setIfInBounds_toArray, List.set_cons_zero, List.set_cons_succ]
            refine' wpAnyH_take (i := 16) ?hifx16 ?hsfx16 ?hffx16 ?hrfx16 ?hQfx16 ?hyfx16 ?hSfx16 ?restfx16
            case hifx16 =>
              simp only [List.getElem?_toArray, List.getElem?_cons_succ, List.getElem?_cons_zero]
              all_goals rfl
            case hsfx16 => kernel_rfl
            case hffx16 => kernel_rfl
            case hrfx16 => kernel_rfl
            case hQfx16 => exact fun _ _ _ h => h
            case hSfx16 => assumption
            case hyfx16 =>
              refine Or.inl ⟨by rfl, ?_⟩
              intro w hSw
              try dsimp only at hSw
              go_simp
              all_goals with_reducible rfl
            try simp only [Act.put, List.setIfInBounds_toArray, List.set_cons_zero, List.set_cons_succ]
            refine' wpAnyH_take (i := 17) ?hifx17 ?hsfx17 ?hffx17 ?hrfx17 ?hQfx17 ?hyfx17 ?hSfx17 ?restfx17
            case hifx17 =>
              simp only [List.getElem?_toArray, List.getElem?_cons_succ, List.getElem?_cons_zero]
              all_goals rfl
            case hsfx17 => kernel_rfl
            case hffx17 => kernel_rfl
            case hrfx17 => kernel_rfl
            case hQfx17 => exact fun _ _ _ h => h
            case hSfx17 => assumption
            case hyfx17 =>
              refine Or.inl ⟨by rfl, ?_⟩
              intro w hSw
              try dsimp only at hSw
              go_simp
              all_goals with_reducible rfl
            try simp only [Act.put, List.setIfInBounds_toArray, List.set_cons_zero, List.set_cons_succ]
            refine' wpAnyH_take (i := 18) ?hifx18 ?hsfx18 ?hffx18 ?hrfx18 ?hQfx18 ?hyfx18 ?hSfx18 ?restfx18
            case hifx18 =>
              simp only [List.getElem?_toArray, List.getElem?_cons_succ, List.getElem?_cons_zero]
              all_goals rfl
            case hsfx18 => kernel_rfl
            case hffx18 => kernel_rfl
            case hrfx18 => kernel_rfl
            case hQfx18 => exact fun _ _ _ h => h
            case hSfx18 => assumption
            case hyfx18 =>
              refine Or.inl ⟨by rfl, ?_⟩
              intro w hSw
              try dsimp only at hSw
              go_simp
              all_goals with_reducible rfl
            try simp only [Act.put, List.setIfInBounds_toArray, List.set_cons_zero, List.set_cons_succ]
            refine' wpAnyH_take (i := 19) ?hifx19 ?hsfx19 ?hffx19 ?hrfx19 ?hQfx19 ?hyfx19 ?hSfx19 ?restfx19
            case hifx19 =>
              simp only [List.getElem?_toArray, List.getElem?_cons_succ, List.getElem?_cons_zero]
              all_goals rfl
            case hsfx19 => kernel_rfl
            case hffx19 => kernel_rfl
            case hrfx19 => kernel_rfl
            case hQfx19 => exact fun _ _ _ h => h
            case hSfx19 => assumption
            case hyfx19 =>
              refine Or.inl ⟨by rfl, ?_⟩
              intro w hSw
              try dsimp only at hSw
              go_simp
              all_goals with_reducible rfl
            try simp only [Act.put, List.setIfInBounds_toArray, List.set_cons_zero, List.set_cons_succ]
            refine' wpAnyH_take (i := 20) ?hifx20 ?hsfx20 ?hffx20 ?hrfx20 ?hQfx20 ?hyfx20 ?hSfx20 ?restfx20
            case hifx20 =>
              simp only [List.getElem?_toArray, List.getElem?_cons_succ, List.getElem?_cons_zero]
              all_goals rfl
            case hsfx20 => kernel_rfl
            case hffx20 => kernel_rfl
            case hrfx20 => kernel_rfl
            case hQfx20 => exact fun _ _ _ h => h
            case hSfx20 => assumption
            case hyfx20 =>
              refine Or.inl ⟨by rfl, ?_⟩
              intro w hSw
              try dsimp only at hSw
              go_simp
              all_goals with_reducible rfl
            try simp only [Act.put, List.setIfInBounds_toArray, List.set_cons_zero, List.set_cons_succ]
            refine' wpAnyH_take (i := 21) ?hifx21 ?hsfx21 ?hffx21 ?hrfx21 ?hQfx21 ?hyfx21 ?hSfx21 ?restfx21
            case hifx21 =>
              simp only [List.getElem?_toArray, List.getElem?_cons_succ, List.getElem?_cons_zero]
              all_goals rfl
            case hsfx21 => kernel_rfl
            case hffx21 => kernel_rfl
            case hrfx21 => kernel_rfl
            case hQfx21 => exact fun _ _ _ h => h
            case hSfx21 => assumption
            case hyfx21 =>
              refine Or.inl ⟨by rfl, ?_⟩
              intro w hSw
              try dsimp only at hSw
              go_simp
              all_goals with_reducible rfl
            try simp only [Act.put, List.setIfInBounds_toArray, List.set_cons_zero, List.set_cons_succ]
            refine' wpAnyH_take (i := 22) ?hifx22 ?hsfx22 ?hffx22 ?hrfx22 ?hQfx22 ?hyfx22 ?hSfx22 ?restfx22
            case hifx22 =>
              simp only [List.getElem?_toArray, List.getElem?_cons_succ, List.getElem?_cons_zero]
              all_goals rfl
            case hsfx22 => kernel_rfl
            case hffx22 => kernel_rfl
            case hrfx22 => kernel_rfl
            case hQfx22 => exact fun _ _ _ h => h
            case hSfx22 => assumption
            case hyfx22 =>
              refine Or.inl ⟨by rfl, ?_⟩
              intro w hSw
              try dsimp only at hSw
              go_simp
              all_goals with_reducible rfl
            try simp only [Act.put, List.setIfInBounds_toArray, List.set_cons_zero, List.set_cons_succ]
            refine' wpAnyH_take (i := 23) ?hifx23 ?hsfx23 ?hffx23 ?hrfx23 ?hQfx23 ?hyfx23 ?hSfx23 ?restfx23
            case hifx23 =>
              simp only [List.getElem?_toArray, List.getElem?_cons_succ, List.getElem?_cons_zero]
              all_goals rfl
            case hsfx23 => kernel_rfl
            case hffx23 => kernel_rfl
            case hrfx23 => kernel_rfl
            case hQfx23 => exact fun _ _ _ h => h
            case hSfx23 => assumption
            case hyfx23 =>
              refine Or.inl ⟨by rfl, ?_⟩
              intro w hSw
              try dsimp only at hSw
              go_simp
              all_goals with_reducible rfl
            try simp only [Act.put, List.setIfInBounds_toArray, List.set_cons_zero, List.set_cons_succ]
            refine wpAnyH_done (by kernel_rfl) ?_ _
            clear t0 t1 t2 z0 z1 z2
            go_wp2_with fail
            refine wp_region_held_drew (S := fun w' => Below w.heap.size w w') (by kernel_rfl) ?_ (fun hHeld => ?_)
            · exact B3.drew.drew
            refine' wpAnyH_take (i := 0) ?higx0 ?hsgx0 ?hfgx0 ?hrgx0 ?hQgx0 ?hygx0 ?hSgx0 ?restgx0
            case higx0 =>
              simp only [List.getElem?_toArray, List.getElem?_cons_succ, List.getElem?_cons_zero]
              all_goals rfl
            case hsgx0 => kernel_rfl
            case hfgx0 => kernel_rfl
            case hrgx0 => kernel_rfl
            case hQgx0 => exact fun _ _ _ h => h
            case hSgx0 => assumption
            case hygx0 =>
              refine Or.inl ⟨by rfl, ?_⟩
              intro w hSw
              try dsimp only at hSw
              go_simp
              all_goals with_reducible rfl
            try simp only [Act.put, List.setIfInBounds_toArray, List.set_cons_zero, List.set_cons_succ]
            refine' wpAnyH_take (i := 1) ?higx1 ?hsgx1 ?hfgx1 ?hrgx1 ?hQgx1 ?hygx1 ?hSgx1 ?restgx1
            case higx1 =>
              simp only [List.getElem?_toArray, List.getElem?_cons_succ, List.getElem?_cons_zero]
              all_goals rfl
            case hsgx1 => kernel_rfl
            case hfgx1 => kernel_rfl
            case hrgx1 => kernel_rfl
            case hQgx1 => exact fun _ _ _ h => h
            case hSgx1 => assumption
            case hygx1 =>
              refine Or.inl ⟨by rfl, ?_⟩
              intro w hSw
              try dsimp only at hSw
              go_simp
              all_goals with_reducible rfl
            try simp only [Act.put, List.setIfInBounds_toArray, List.set_cons_zero, List.set_cons_succ]
            refine' wpAnyH_take (i := 2) ?higx2 ?hsgx2 ?hfgx2 ?hrgx2 ?hQgx2 ?hygx2 ?hSgx2 ?restgx2
            case higx2 =>
              simp only [List.getElem?_toArray, List.getElem?_cons_succ, List.getElem?_cons_zero]
              all_goals rfl
            case hsgx2 => kernel_rfl
            case hfgx2 => kernel_rfl
            case hrgx2 => kernel_rfl
            case hQgx2 => exact fun _ _ _ h => h
            case hSgx2 => assumption
            case hygx2 =>
              refine Or.inl ⟨by rfl, ?_⟩
              intro w hSw
              try dsimp only at hSw
              go_simp
              all_goals with_reducible rfl
            try simp only [Act.put, List.setIfInBounds_toArray, List.set_cons_zero, List.set_cons_succ]
            refine' wpAnyH_take (i := 3) ?higx3 ?hsgx3 ?hfgx3 ?hrgx3 ?hQgx3 ?hygx3 ?hSgx3 ?restgx3
            case higx3 =>
              simp only [List.getElem?_toArray, List.getElem?_cons_succ, List.getElem?_cons_zero]
              all_goals rfl
            case hsgx3 => kernel_rfl
            case hfgx3 => kernel_rfl
            case hrgx3 => kernel_rfl
            case hQgx3 => exact fun _ _ _ h => h
            case hSgx3 => assumption
            case hygx3 =>
              refine Or.inl ⟨by rfl, ?_⟩
              intro w hSw
              try dsimp only at hSw
              go_simp
              all_goals with_reducible rfl
            try simp only [Act.put, List.setIfInBounds_toArray, List.set_cons_zero, List.set_cons_succ]
            refine' wpAnyH_take (i := 4) ?higx4 ?hsgx4 ?hfgx4 ?hrgx4 ?hQgx4 ?hygx4 ?hSgx4 ?restgx4
            case higx4 =>
              simp only [List.getElem?_toArray, List.getElem?_cons_succ, List.getElem?_cons_zero]
              all_goals rfl
            case hsgx4 => kernel_rfl
            case hfgx4 => kernel_rfl
            case hrgx4 => kernel_rfl
            case hQgx4 => exact fun _ _ _ h => h
            case hSgx4 => assumption
            case hygx4 =>
              refine Or.inl ⟨by rfl, ?_⟩
              intro w hSw
              try dsimp only at hSw
              go_simp
              all_goals with_reducible rfl
            try simp only [Act.put, List.setIfInBounds_toArray, List.set_cons_zero, List.set_cons_succ]
            refine' wpAnyH_take (i := 5) ?higx5 ?hsgx5 ?hfgx5 ?hrgx5 ?hQgx5 ?hygx5 ?hSgx5 ?restgx5
            case higx5 =>
              simp only [List.getElem?_toArray, List.getElem?_cons_succ, List.getElem?_cons_zero]
              all_goals rfl
            case hsgx5 => kernel_rfl
            case hfgx5 => kernel_rfl
            case hrgx5 => kernel_rfl
            case hQgx5 => exact fun _ _ _ h => h
            case hSgx5 => assumption
            case hygx5 =>
              refine Or.inl ⟨by rfl, ?_⟩
              intro w hSw
              try dsimp only at hSw
              go_simp
              all_goals with_reducible rfl
            try simp only [Act.put, List.setIfInBounds_toArray, List.set_cons_zero, List.set_cons_succ]
            refine' wpAnyH_take (i := 6) ?higx6 ?hsgx6 ?hfgx6 ?hrgx6 ?hQgx6 ?hygx6 ?hSgx6 ?restgx6
            case higx6 =>
              simp only [List.getElem?_toArray, List.getElem?_cons_succ, List.getElem?_cons_zero]
              all_goals rfl
            case hsgx6 => kernel_rfl
            case hfgx6 => kernel_rfl
            case hrgx6 => kernel_rfl
            case hQgx6 => exact fun _ _ _ h => h
            case hSgx6 => assumption
            case hygx6 =>
              refine Or.inl ⟨by rfl, ?_⟩
              intro w hSw
              try dsimp only at hSw
              go_simp
              all_goals with_reducible rfl
            try simp only [Act.put, List.setIfInBounds_toArray, List.set_cons_zero, List.set_cons_succ]
            refine' wpAnyH_take (i := 7) ?higx7 ?hsgx7 ?hfgx7 ?hrgx7 ?hQgx7 ?hygx7 ?hSgx7 ?restgx7
            case higx7 =>
              simp only [List.getElem?_toArray, List.getElem?_cons_succ, List.getElem?_cons_zero]
              all_goals rfl
            case hsgx7 => kernel_rfl
            case hfgx7 => kernel_rfl
            case hrgx7 => kernel_rfl
            case hQgx7 => exact fun _ _ _ h => h
            case hSgx7 => assumption
            case hygx7 =>
              refine Or.inl ⟨by rfl, ?_⟩
              intro w hSw
              try dsimp only at hSw
              go_simp
              all_goals with_reducible rfl
            try simp only [Act.put, List.setIfInBounds_toArray, List.set_cons_zero, List.set_cons_succ]
            refine' wpAnyH_take (i := 8) ?higx8 ?hsgx8 ?hfgx8 ?hrgx8 ?hQgx8 ?hygx8 ?hSgx8 ?restgx8
            case higx8 =>
              simp only [List.getElem?_toArray, List.getElem?_cons_succ, List.getElem?_cons_zero]
              all_goals rfl
            case hsgx8 => kernel_rfl
            case hfgx8 => kernel_rfl
            case hrgx8 => kernel_rfl
            case hQgx8 => exact fun _ _ _ h => h
            case hSgx8 => assumption
            case hygx8 =>
              refine Or.inl ⟨by rfl, ?_⟩
              intro w hSw
              try dsimp only at hSw
              go_simp
              all_goals with_reducible rfl
            try simp only [Act.put, List.setIfInBounds_toArray, List.set_cons_zero, List.set_cons_succ]
            refine' wpAnyH_take (i := 9) ?higx9 ?hsgx9 ?hfgx9 ?hrgx9 ?hQgx9 ?hygx9 ?hSgx9 ?restgx9
            case higx9 =>
              simp only [List.getElem?_toArray, List.getElem?_cons_succ, List.getElem?_cons_zero]
              all_goals rfl
            case hsgx9 => kernel_rfl
            case hfgx9 => kernel_rfl
            case hrgx9 => kernel_rfl
            case hQgx9 => exact fun _ _ _ h => h
            case hSgx9 => assumption
            case hygx9 =>
              refine Or.inl ⟨by rfl, ?_⟩
              intro w hSw
              try dsimp only at hSw
              go_simp
              all_goals with_reducible rfl
            try simp only [Act.put, List.setIfInBounds_toArray, List.set_cons_zero, List.set_cons_succ]
            refine' wpAnyH_take (i := 10) ?higx10 ?hsgx10 ?hfgx10 ?hrgx10 ?hQgx10 ?hygx10 ?hSgx10 ?restgx10
            case higx10 =>
              simp only [List.getElem?_toArray, List.getElem?_cons_succ, List.getElem?_cons_zero]
              all_goals rfl
            case hsgx10 => kernel_rfl
            case hfgx10 => kernel_rfl
            case hrgx10 => kernel_rfl
            case hQgx10 => exact fun _ _ _ h => h
            case hSgx10 => assumption
            case hygx10 =>
              refine Or.inl ⟨by rfl, ?_⟩
              intro w hSw
              try dsimp only at hSw
              go_simp
              all_goals with_reducible rfl
            try simp only [Act.put, List.setIfInBounds_toArray, List.set_cons_zero, List.set_cons_succ]
            refine' wpAnyH_take (i := 11) ?higx11 ?hsgx11 ?hfgx11 ?hrgx11 ?hQgx11 ?hygx11 ?hSgx11 ?restgx11
            case higx11 =>
              simp only [List.getElem?_toArray, List.getElem?_cons_succ, List.getElem?_cons_zero]
              all_goals rfl
            case hsgx11 => kernel_rfl
            case hfgx11 => kernel_rfl
            case hrgx11 => kernel_rfl
            case hQgx11 => exact fun _ _ _ h => h
            case hSgx11 => assumption
            case hygx11 =>
              refine Or.inl ⟨by rfl, ?_⟩
              intro w hSw
              try dsimp only at hSw
              go_simp
              all_goals with_reducible rfl
            try simp only [Act.put, List.setIfInBounds_toArray, List.set_cons_zero, List.set_cons_succ]
            refine' wpAnyH_take (i := 12) ?higx12 ?hsgx12 ?hfgx12 ?hrgx12 ?hQgx12 ?hygx12 ?hSgx12 ?restgx12
            case higx12 =>
              simp only [List.getElem?_toArray, List.getElem?_cons_succ, List.getElem?_cons_zero]
              all_goals rfl
            case hsgx12 => kernel_rfl
            case hfgx12 => kernel_rfl
            case hrgx12 => kernel_rfl
            case hQgx12 => exact fun _ _ _ h => h
            case hSgx12 => assumption
            case hygx12 =>
              refine Or.inl ⟨by rfl, ?_⟩
              intro w hSw
              try dsimp only at hSw
              go_simp
              all_goals with_reducible rfl
            try simp only [Act.put, List.setIfInBounds_toArray, List.set_cons_zero, List.set_cons_succ]
            refine' wpAnyH_take (i := 13) ?higx13 ?hsgx13 ?hfgx13 ?hrgx13 ?hQgx13 ?hygx13 ?hSgx13 ?restgx13
            case higx13 =>
              simp only [List.getElem?_toArray, List.getElem?_cons_succ, List.getElem?_cons_zero]
              all_goals rfl
            case hsgx13 => kernel_rfl
            case hfgx13 => kernel_rfl
            case hrgx13 => kernel_rfl
            case hQgx13 => exact fun _ _ _ h => h
            case hSgx13 => assumption
            case hygx13 =>
              refine Or.inl ⟨by rfl, ?_⟩
              intro w hSw
              try dsimp only at hSw
              go_simp
              all_goals with_reducible rfl
            try simp only [Act.put, List.setIfInBounds_toArray, List.set_cons_zero, List.set_cons_succ]
            refine' wpAnyH_take (i := 14) ?higx14 ?hsgx14 ?hfgx14 ?hrgx14 ?hQgx14 ?hygx14 ?hSgx14 ?restgx14
            case higx14 =>
              simp only [List.getElem?_toArray, List.getElem?_cons_succ, List.getElem?_cons_zero]
              all_goals rfl
            case hsgx14 => kernel_rfl
            case hfgx14 => kernel_rfl
            case hrgx14 => kernel_rfl
            case hQgx14 => exact fun _ _ _ h => h
            case hSgx14 => assumption
            case hygx14 =>
              refine Or.inl ⟨by rfl, ?_⟩
              intro w hSw
              try dsimp only at hSw
              go_simp
              all_goals with_reducible rfl
            try simp only [Act.put, List.setIfInBounds_toArray, List.set_cons_zero, List.set_cons_succ]
            refine' wpAnyH_take (i := 15) ?higx15 ?hsgx15 ?hfgx15 ?hrgx15 ?hQgx15 ?hygx15 ?hSgx15 ?restgx15
            case higx15 =>
              simp only [List.getElem?_toArray, List.getElem?_cons_succ, List.getElem?_cons_zero]
              all_goals rfl
            case hsgx15 => kernel_rfl
            case hfgx15 => kernel_rfl
            case hrgx15 => kernel_rfl
            case hQgx15 => exact fun _ _ _ h => h
            case hSgx15 => assumption
            case hygx15 =>
              refine Or.inl ⟨by rfl, ?_⟩
              intro w hSw
              try dsimp only at hSw
              go_simp
              all_goals with_reducible rfl
            try simp only [Act.put, List.setIfInBounds_toArray, List.set_cons_zero, List.set_cons_succ]
            refine' wpAnyH_take (i := 16) ?higx16 ?hsgx16 ?hfgx16 ?hrgx16 ?hQgx16 ?hygx16 ?hSgx16 ?restgx16
            case higx16 =>
              simp only [List.getElem?_toArray, List.getElem?_cons_succ, List.getElem?_cons_zero]
              all_goals rfl
            case hsgx16 => kernel_rfl
            case hfgx16 => kernel_rfl
            case hrgx16 => kernel_rfl
            case hQgx16 => exact fun _ _ _ h => h
            case hSgx16 => assumption
            case hygx16 =>
              refine Or.inl ⟨by rfl, ?_⟩
              intro w hSw
              try dsimp only at hSw
              go_simp
              all_goals with_reducible rfl
            try simp only [Act.put, List.setIfInBounds_toArray, List.set_cons_zero, List.set_cons_succ]
            refine' wpAnyH_take (i := 17) ?higx17 ?hsgx17 ?hfgx17 ?hrgx17 ?hQgx17 ?hygx17 ?hSgx17 ?restgx17
            case higx17 =>
              simp only [List.getElem?_toArray, List.getElem?_cons_succ, List.getElem?_cons_zero]
              all_goals rfl
            case hsgx17 => kernel_rfl
            case hfgx17 => kernel_rfl
            case hrgx17 => kernel_rfl
            case hQgx17 => exact fun _ _ _ h => h
            case hSgx17 => assumption
            case hygx17 =>
              refine Or.inl ⟨by rfl, ?_⟩
              intro w hSw
              try dsimp only at hSw
              go_simp
              all_goals with_reducible rfl
            try simp only [Act.put, List.setIfInBounds_toArray, List.set_cons_zero, List.set_cons_succ]
            refine' wpAnyH_take (i := 18) ?higx18 ?hsgx18 ?hfgx18 ?hrgx18 ?hQgx18 ?hygx18 ?hSgx18 ?restgx18
            case higx18 =>
              simp only [List.getElem?_toArray, List.getElem?_cons_succ, List.getElem?_cons_zero]
              all_goals rfl
            case hsgx18 => kernel_rfl
            case hfgx18 => kernel_rfl
            case hrgx18 => kernel_rfl
            case hQgx18 => exact fun _ _ _ h => h
            case hSgx18 => assumption
            case hygx18 =>
              refine Or.inl ⟨by rfl, ?_⟩
              intro w hSw
              try dsimp only at hSw
              go_simp
              all_goals with_reducible rfl
            try simp only [Act.put, List.setIfInBounds_toArray, List.set_cons_zero, List.set_cons_succ]
            refine' wpAnyH_take (i := 19) ?higx19 ?hsgx19 ?hfgx19 ?hrgx19 ?hQgx19 ?hygx19 ?hSgx19 ?restgx19
            case higx19 =>
              simp only [List.getElem?_toArray, List.getElem?_cons_succ, List.getElem?_cons_zero]
              all_goals rfl
            case hsgx19 => kernel_rfl
            case hfgx19 => kernel_rfl
            case hrgx19 => kernel_rfl
            case hQgx19 => exact fun _ _ _ h => h
            case hSgx19 => assumption
            case hygx19 =>
              refine Or.inl ⟨by rfl, ?_⟩
              intro w hSw
              try dsimp only at hSw
              go_simp
              all_goals with_reducible rfl
            try simp only [Act.put, List.setIfInBounds_toArray, List.set_cons_zero, List.set_cons_succ]
            refine' wpAnyH_take (i := 20) ?higx20 ?hsgx20 ?hfgx20 ?hrgx20 ?hQgx20 ?hygx20 ?hSgx20 ?restgx20
            case higx20 =>
              simp only [List.getElem?_toArray, List.getElem?_cons_succ, List.getElem?_cons_zero]
              all_goals rfl
            case hsgx20 => kernel_rfl
            case hfgx20 => kernel_rfl
            case hrgx20 => kernel_rfl
            case hQgx20 => exact fun _ _ _ h => h
            case hSgx20 => assumption
            case hygx20 =>
              refine Or.inl ⟨by rfl, ?_⟩
              intro w hSw
              try dsimp only at hSw
              go_simp
              all_goals with_reducible rfl
            try simp only [Act.put, List.setIfInBounds_toArray, List.set_cons_zero, List.set_cons_succ]
            refine' wpAnyH_take (i := 21) ?higx21 ?hsgx21 ?hfgx21 ?hrgx21 ?hQgx21 ?hygx21 ?hSgx21 ?restgx21
            case higx21 =>
              simp only [List.getElem?_toArray, List.getElem?_cons_succ, List.getElem?_cons_zero]
              all_goals rfl
            case hsgx21 => kernel_rfl
            case hfgx21 => kernel_rfl
            case hrgx21 => kernel_rfl
            case hQgx21 => exact fun _ _ _ h => h
            case hSgx21 => assumption
            case hygx21 =>
              refine Or.inl ⟨by rfl, ?_⟩
              intro w hSw
              try dsimp only at hSw
              go_simp
              all_goals with_reducible rfl
            try simp only [Act.put, List.setIfInBounds_toArray, List.set_cons_zero, List.set_cons_succ]
            refine' wpAnyH_take (i := 22) ?higx22 ?hsgx22 ?hfgx22 ?hrgx22 ?hQgx22 ?hygx22 ?hSgx22 ?restgx22
            case higx22 =>
              simp only [List.getElem?_toArray, List.getElem?_cons_succ, List.getElem?_cons_zero]
              all_goals rfl
            case hsgx22 => kernel_rfl
            case hfgx22 => kernel_rfl
            case hrgx22 => kernel_rfl
            case hQgx22 => exact fun _ _ _ h => h
            case hSgx22 => assumption
            case hygx22 =>
              refine Or.inl ⟨by rfl, ?_⟩
              intro w hSw
              try dsimp only at hSw
              go_simp
              all_goals with_reducible rfl
            try simp only [Act.put, List.setIfInBounds_toArray, List.set_cons_zero, List.set_cons_succ]
            refine' wpAnyH_take (i := 23) ?higx23 ?hsgx23 ?hfgx23 ?hrgx23 ?hQgx23 ?hygx23 ?hSgx23 ?restgx23
            case higx23 =>
              simp only [List.getElem?_toArray, List.getElem?_cons_succ, List.getElem?_cons_zero]
              all_goals rfl
            case hsgx23 => kernel_rfl
            case hfgx23 => kernel_rfl
            case hrgx23 => kernel_rfl
            case hQgx23 => exact fun _ _ _ h => h
            case hSgx23 => assumption
            case hygx23 =>
              refine Or.inl ⟨by rfl, ?_⟩
              intro w hSw
              try dsimp only at hSw
              go_simp
              all_goals with_reducible rfl
            try simp only [Act.put, List.setIfInBounds_toArray, List.set_cons_zero, List.set_cons_succ]
            refine wpAnyH_ready (rs := [24]) (by kernel_rfl) (by simp) ?_
            refine AllReadyH.cons rfl (fun K hK => ?_) AllReadyH.nil
            go_simp
            refine (same_any (some ⟨b2, o2, none⟩) (some ⟨b3, o3 + 3, none⟩) d d c2 (cap - 1) (C.drop 1) (C.drop 1) _ hV.drew.drew hW.drew.drew (by omega) (by omega)).mono ?_
            rintro e w4 ⟨rfl, hbw4⟩
            rw [decide_eq_true rfl]
            have Bw4 : Below w.heap.size w w4 := B3.drew.drew.trans (hbw4.mono B3.drew.drew.size)
            try go_wp2_with fail
            refine hK.out _ _ ?_ (fun hHeld => ?_)
            · exact Bw4
            clear hK K
            try simp only [Act.put, List.setIfInBounds_toArray, List.set_cons_zero, List.set_cons_succ]
            refine' wpAnyH_take (i := 25) ?higx25 ?hsgx25 ?hfgx25 ?hrgx25 ?hQgx25 ?hygx25 ?hSgx25 ?restgx25
            case higx25 =>
              simp only [List.getElem?_toArray, List.getElem?_cons_succ, List.getElem?_cons_zero]
              all_goals rfl
            case hsgx25 => kernel_rfl
            case hfgx25 => kernel_rfl
            case hrgx25 => kernel_rfl
            case hQgx25 => exact fun _ _ _ h => h
            case hSgx25 => assumption
            case hygx25 =>
              refine Or.inl ⟨by rfl, ?_⟩
              intro w hSw
              try dsimp only at hSw
              go_simp
              all_goals with_reducible rfl
            try simp only [Act.put, List.setIfInBounds_toArray, List.set_cons_zero, List.set_cons_succ]
            refine' wpAnyH_take (i := 26) ?higx26 ?hsgx26 ?hfgx26 ?hrgx26 ?hQgx26 ?hygx26 ?hSgx26 ?restgx26
            case higx26 =>
              simp only [List.getElem?_toArray, List.getElem?_cons_succ, List.getElem?_cons_zero]
              all_goals rfl
            case hsgx26 => kernel_rfl
            case hfgx26 => kernel_rfl
            case hrgx26 => kernel_rfl
            case hQgx26 => exact fun _ _ _ h => h
            case hSgx26 => assumption
            case hygx26 =>
              refine Or.inl ⟨by rfl, ?_⟩
              intro w hSw
              try dsimp only at hSw
              go_simp
              all_goals with_reducible rfl
            try simp only [Act.put, List.setIfInBounds_toArray, List.set_cons_zero, List.set_cons_succ]
            refine' wpAnyH_take (i := 27) ?higx27 ?hsgx27 ?hfgx27 ?hrgx27 ?hQgx27 ?hygx27 ?hSgx27 ?restgx27
            case higx27 =>
              simp only [List.getElem?_toArray, List.getElem?_cons_succ, List.getElem?_cons_zero]
              all_goals rfl
            case hsgx27 => kernel_rfl
            case hfgx27 => kernel_rfl
            case hrgx27 => kernel_rfl
            case hQgx27 => exact fun _ _ _ h => h
            case hSgx27 => assumption
            case hygx27 =>
              refine Or.inl ⟨by rfl, ?_⟩
              intro w hSw
              try dsimp only at hSw
              go_simp
              all_goals with_reducible rfl
            try simp only [Act.put, List.setIfInBounds_toArray, List.set_cons_zero, List.set_cons_succ]
            refine wpAnyH_done (by kernel_rfl) ?_ _
            go_wp2
            go_roundw
            case rel => exact ⟨k + 1, (d + 1), c2, _, some ⟨b2, o2, none⟩, by omega, by go_num, rfl, hc2, hide (by rw [HN1.out, ← HC.out, HR.out]), hr3.drew.drew.below hbw4, Bw4⟩
            case measure => simp [intOf]; omega
      · obtain rfl : k = n := by omega
        clear HC
        obtain ⟨wo, rfl⟩ : ∃ wo : World, wo = wr := ⟨_, rfl⟩
        go_wp2
        go_loopw [7] (fun i wr => ∃ j : Nat, j ≤ m ∧ i = .int .i64 j ∧ Rd wr 3 B m (mv C) ∧ Below w.heap.size w wr) (fun i _ => m - (intOf i).toNat)
        case atStart => exact ⟨0, Nat.zero_le _, rfl, hC, hbe⟩
        case round =>
          obtain ⟨i, hi, rfl, hCi, hbi⟩ := hrel
          by_cases hlt2 : i < m
          · obtain ⟨wp, rfl⟩ : ∃ wp : World, wp = wr := ⟨_, rfl⟩
            go_wp2
            go_loopw [8] (fun v wr => ∃ j : Nat, j ≤ i ∧ v = .int .i64 j ∧ Rd wr 3 B m (mv C) ∧ Below w.heap.size w wr) (fun v _ => i - (intOf v).toNat)
            case atStart => exact ⟨0, Nat.zero_le _, rfl, hCi, hbi⟩
            case round =>
              obtain ⟨j, hj, rfl, hCj, hbj⟩ := hrel
              by_cases hlt3 : j < i
              · obtain ⟨b1, o1, x, rfl, _, HX, p0, p1, p2⟩ := hCj.msg (k := j) (by omega)
                obtain ⟨b2, o2, y, he, _, HY, q0, q1, q2⟩ := hCj.msg (k := i) hlt2
                injection he with he
                injection he with e1 e2
                subst e1
                subst e2
                have hne := eql_msg_no x y (nodup_at HN.out HX.out HY.out hlt3)
                have hjm : (j : Int) < (m : Int) := by omega
                have him : (i : Int) < (m : Int) := by omega
                go_wp2
                go_region
                go_wp2
                go_roundw
                case rel => exact ⟨j + 1, by omega, by go_num, hCj.drew, hbj.drew⟩
                case measure => simp [intOf]; omega
              · obtain rfl : j = i := by omega
                go_wp2
                go_roundw
                case rel => exact ⟨j + 1, by omega, by go_num, hCj, hbj⟩
                case measure => simp [intOf]; omega
          · obtain rfl : i = m := by omega
            go_wp2_with fail
            refine (lives_any _).mono ?_
            rintro e w9 ⟨rfl, hb9⟩
            go_wp2
            go_ret
            exact ⟨rfl, hbi.trans (hb9.mono hbi.size)⟩
end Go.Proofs.Ytajhfmioidmacaa
