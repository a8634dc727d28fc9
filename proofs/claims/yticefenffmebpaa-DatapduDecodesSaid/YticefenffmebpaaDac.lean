/-
  The walks of the two Encodes. Each function's contract.
-/
import Derived.Test.YticefenffmebpaaDab
namespace Go.Proofs.Yticefenffmebpaa
set_option linter.unusedVariables false
set_option linter.unusedSimpArgs false
open Go.RowKit

theorem or_set (h b k : Nat) (hk : k < 8) (hh : h < 2 ^ k) (hb : b < 2) : bits BinOp.or IntKind.u8 (h : Int) (((b * 2 ^ k : Nat) : Int)) = ((h + b * 2 ^ k : Nat) : Int) := by
  have key : ∀ (k : Fin 8) (h : Fin 128) (b : Fin 2), h.1 < 2 ^ k.1 → bits BinOp.or IntKind.u8 (h.1 : Int) (((b.1 * 2 ^ k.1 : Nat) : Int)) = ((h.1 + b.1 * 2 ^ k.1 : Nat) : Int) := by decide +kernel
  have hh' : h < 128 := Nat.lt_of_lt_of_le hh (Nat.le_trans (Nat.pow_le_pow_right (by omega) (show k ≤ 7 by omega)) (by decide))
  exact key ⟨k, hk⟩ ⟨h, hh'⟩ ⟨b, hb⟩ hh
set_option maxHeartbeats 400000 in
theorem set_any (b k h g : Nat) (hb : b < 2) (hk : k = 2 ∨ k = 3 ∨ k = 4) (hh : h < 2 ^ k) (w : World) (hB : Blk w g 5 #[.int .u8 (h : Int)]) :
    Calls Try.prog 23 #[.int .i64 (b : Int), .int .i64 (k : Int), .pointer (some ⟨g, 0, none⟩)] w fun e w' => ∃ v, e = .returned v ∧ w' = (w.setCell ⟨g, 0, none⟩ (.int .u8 ((h + b * 2 ^ k : Nat) : Int))).drew := by
  have c0 : w.cell? ⟨g, 0, none⟩ = some (.int .u8 (h : Int)) := hB.cell 0
  have f0 := hB.frozen 0
  have e0 := or_set h b k (by omega) hh hb
  rcases hk with rfl | rfl | rfl
  all_goals
    simp at e0
    go_enter Try.func23, Try.ntmps23
    go_wp2
    go_region
    go_wp2
    go_end0
    refine ⟨_, rfl, ?_⟩
    push_cast
    rfl
set_option maxHeartbeats 1000000 in
theorem encode_any (sn ne md id : Int) (A : Option Addr) (n c : Nat) (l : List Nat) (w : World) (hA : Rd w 1 A n (bv l)) (hn : n ≤ 1000) :
    Calls Try.prog 14 #[.agg #[.int .i64 sn, .int .i64 ne, .int .i64 md, .int .i64 id, .slice A n c]] w fun e w' => ∃ v, e = .returned (.tuple #[v, .int .i64 ((dchk sn ne md id n : Nat) : Int)]) ∧
      w'.ownsRow w.heap.size 5 1 v (if dchk sn ne md id n = 0 then n + 2 else 0) (bv (if dchk sn ne md id n = 0 then denc sn ne md id l else [])) ∧ Below w.heap.size w w' := by
  have hB : Below w.heap.size w (w.alloc (.cells #[.int .i64 sn, .int .i64 ne, .int .i64 md, .int .i64 id, .slice A n c] 26)) := (Below.refl _ _).alloc (Nat.le_refl _) _
  have hbx : Blk (w.alloc (.cells #[.int .i64 sn, .int .i64 ne, .int .i64 md, .int .i64 id, .slice A n c] 26)) w.heap.size 26 #[.int .i64 sn, .int .i64 ne, .int .i64 md, .int .i64 id, .slice A n c] := Blk.new _ _ _
  by_cases h0 : dchk sn ne md id n = 0
  · rw [if_pos h0, if_pos h0, h0]
    have hk : (dok sn = true ∧ dok ne = true ∧ dok md = true) ∧ 1 ≤ id ∧ id ≤ 3 ∧ n ≤ 255 := by
      unfold dchk at h0
      split at h0
      · rename_i hd
        rcases dpk_cases id n with ⟨_, e⟩ | ⟨_, _, e⟩ | ⟨_, _, _, _, e⟩ | ⟨_, _, e⟩ | ⟨_, _, _, _, e⟩ | ⟨_, _, _, _, e⟩
        all_goals first | (rw [e] at h0; omega) | (refine ⟨by simpa [and_assoc] using hd, ?_⟩; omega)
      · omega
    obtain ⟨⟨k1, k2, k3⟩, i1, i2, hn2⟩ := hk
    have bitn : ∀ x : Int, dok x = true → ∃ y : Nat, x = (y : Int) ∧ y < 2 := by
      intro x hx
      simp only [dok, Bool.or_eq_true, beq_iff_eq] at hx
      exact ⟨x.toNat, by omega, by omega⟩
    obtain ⟨sn, rfl, hsn⟩ := bitn _ k1
    obtain ⟨ne, rfl, hne⟩ := bitn _ k2
    obtain ⟨md, rfl, hmd⟩ := bitn _ k3
    obtain ⟨id, rfl⟩ : ∃ y : Nat, id = (y : Int) := Int.eq_ofNat_of_zero_le (by omega)
    have HZ := hide h0
    clear bitn k1 k2 k3
    go_enter Try.func14, Try.ntmps14
    go_wp2_with fail
    refine (check_any sn ne md id A n c _).mono ?_
    rintro e w1 ⟨rfl, hb1⟩
    rw [HZ.out]
    have hbx := hbx.below hb1 hbx.lt
    have hB := hB.trans (hb1.mono hB.size)
    have q0 := hbx.cell 0
    have q1 := hbx.cell 1
    have q2 := hbx.cell 2
    have q3 := hbx.cell 3
    have q4 := hbx.cell 4
    simp at q0 q1 q2 q3 q4
    have hbx2 := hbx.alloc (.cells #[.int .u8 (id : Int)] 5)
    have hhd : Blk (w1.alloc (.cells #[.int .u8 (id : Int)] 5)) w1.heap.size 5 #[.int .u8 (id : Int)] := Blk.new _ _ _
    have r0 := hbx2.cell 0
    have r1 := hbx2.cell 1
    have r2 := hbx2.cell 2
    have r3 := hbx2.cell 3
    have r4 := hbx2.cell 4
    simp only [List.getElem?_toArray, List.getElem?_cons_zero, List.getElem?_cons_succ] at r0 r1 r2 r3 r4
    have hne1 : w.heap.size ≠ w1.heap.size := Nat.ne_of_lt hbx.lt
    have hB2 := hB.alloc hB.size (.cells #[.int .u8 (id : Int)] 5)
    go_wp2_with fail
    refine (set_any ne 2 id w1.heap.size hne (by omega) (by omega) _ hhd).mono ?_
    rintro e w3 ⟨v3, rfl, hw3⟩
    have hhd3 : Blk w3 w1.heap.size 5 #[.int .u8 ((id + ne * 2 ^ 2 : Nat) : Int)] := by rw [hw3]; exact (hhd.set_ 0 _).drew
    have hbx3 := (hbx2.far (p := ⟨w1.heap.size, 0, none⟩) hne1 (.int .u8 ((id + ne * 2 ^ 2 : Nat) : Int))).drew
    have hB3 := (hB2.setCell (p := ⟨w1.heap.size, 0, none⟩) hB.size (.int .u8 ((id + ne * 2 ^ 2 : Nat) : Int))).drew
    rw [← hw3] at hbx3 hB3
    clear hw3
    have s0 := hbx3.cell 0
    have s1 := hbx3.cell 1
    have s2 := hbx3.cell 2
    have s3 := hbx3.cell 3
    have s4 := hbx3.cell 4
    simp only [List.getElem?_toArray, List.getElem?_cons_zero, List.getElem?_cons_succ] at s0 s1 s2 s3 s4
    go_wp2_with fail
    refine (set_any sn 3 (id + ne * 2 ^ 2) w1.heap.size hsn (by omega) (by omega) _ hhd3).mono ?_
    rintro e w4 ⟨v4, rfl, hw4⟩
    have hhd4 : Blk w4 w1.heap.size 5 #[.int .u8 ((id + ne * 2 ^ 2 + sn * 2 ^ 3 : Nat) : Int)] := by rw [hw4]; exact (hhd3.set_ 0 _).drew
    have hbx4 := (hbx3.far (p := ⟨w1.heap.size, 0, none⟩) hne1 (.int .u8 ((id + ne * 2 ^ 2 + sn * 2 ^ 3 : Nat) : Int))).drew
    have hB4 := (hB3.setCell (p := ⟨w1.heap.size, 0, none⟩) hB.size (.int .u8 ((id + ne * 2 ^ 2 + sn * 2 ^ 3 : Nat) : Int))).drew
    rw [← hw4] at hbx4 hB4
    clear hw4
    have s0 := hbx4.cell 0
    have s1 := hbx4.cell 1
    have s2 := hbx4.cell 2
    have s3 := hbx4.cell 3
    have s4 := hbx4.cell 4
    simp only [List.getElem?_toArray, List.getElem?_cons_zero, List.getElem?_cons_succ] at s0 s1 s2 s3 s4
    go_wp2_with fail
    refine (set_any md 4 (id + ne * 2 ^ 2 + sn * 2 ^ 3) w1.heap.size hmd (by omega) (by omega) _ hhd4).mono ?_
    rintro e w5 ⟨v5, rfl, hw5⟩
    have hhd5 : Blk w5 w1.heap.size 5 #[.int .u8 ((id + ne * 2 ^ 2 + sn * 2 ^ 3 + md * 2 ^ 4 : Nat) : Int)] := by rw [hw5]; exact (hhd4.set_ 0 _).drew
    have hbx5 := (hbx4.far (p := ⟨w1.heap.size, 0, none⟩) hne1 (.int .u8 ((id + ne * 2 ^ 2 + sn * 2 ^ 3 + md * 2 ^ 4 : Nat) : Int))).drew
    have hB5 := (hB4.setCell (p := ⟨w1.heap.size, 0, none⟩) hB.size (.int .u8 ((id + ne * 2 ^ 2 + sn * 2 ^ 3 + md * 2 ^ 4 : Nat) : Int))).drew
    rw [← hw5] at hbx5 hB5
    clear hw5
    have s0 := hbx5.cell 0
    have s1 := hbx5.cell 1
    have s2 := hbx5.cell 2
    have s3 := hbx5.cell 3
    have s4 := hbx5.cell 4
    simp only [List.getElem?_toArray, List.getElem?_cons_zero, List.getElem?_cons_succ] at s0 s1 s2 s3 s4
    obtain ⟨hd, hhd⟩ : ∃ hd, hd = id + ne * 2 ^ 2 + sn * 2 ^ 3 + md * 2 ^ 4 := ⟨_, rfl⟩
    rw [← hhd] at hhd5
    have hd5 := hhd5.cell 0
    simp only [List.getElem?_toArray, List.getElem?_cons_zero] at hd5
    have HHD := hide hhd
    have hd256 : hd < 256 := by omega
    clear hhd
    have hbx6 := hbx5.alloc (.cells #[.int .u8 (hd : Int), .int .u8 (n : Int)] 5)
    have u4 := hbx6.cell 4
    simp only [List.getElem?_toArray, List.getElem?_cons_zero, List.getElem?_cons_succ] at u4
    go_wp2_with fail
    have hlen := hA.blen
    have hB7 := (hB5.alloc hB5.size (.cells #[.int .u8 (hd : Int), .int .u8 (n : Int)] 5))
    have hB8 := hB7.alloc hB7.size (.cells #[.slice (some ⟨w5.heap.size, 0, none⟩) 2 2, .slice A n c] 22)
    have hps : Blk ((w5.alloc (.cells #[.int .u8 (hd : Int), .int .u8 (n : Int)] 5)).alloc (.cells #[.slice (some ⟨w5.heap.size, 0, none⟩) 2 2, .slice A n c] 22)) (w5.heap.size + 1) 22 #[.slice (some ⟨w5.heap.size, 0, none⟩) 2 2, .slice A n c] := blk_new2 (by simp)
    have h2 : Rd ((w5.alloc (.cells #[.int .u8 (hd : Int), .int .u8 (n : Int)] 5)).alloc (.cells #[.slice (some ⟨w5.heap.size, 0, none⟩) 2 2, .slice A n c] 22)) 1 (some ⟨w5.heap.size, 0, none⟩) 2 (bv [hd, n]) := ((Blk.new w5 _ _).rd (l := bv [hd, n]) rfl).alloc _
    refine (join_any (w5.heap.size + 1) 0 2 2 [⟨some ⟨w5.heap.size, 0, none⟩, 2, 2, [hd, n]⟩, ⟨A, n, c, l⟩] _ rfl hps.lt (by omega) (fun j p hp => ?_)).mono ?_
    · match j, hp with
      | 0, hp => injection hp with hp; subst hp; exact ⟨hps.cell 0, h2, (by omega : (2 : Nat) ≤ 1000000)⟩
      | 1, hp => injection hp with hp; subst hp; exact ⟨hps.cell 1, hA.below hB8, (by omega : n ≤ 1000000)⟩
      | j + 2, hp => simp at hp
    rintro e w9 ⟨v9, rfl, hown9, hb9⟩
    go_wp2
    go_ret2
    have hj : joined [⟨some ⟨w5.heap.size, 0, none⟩, 2, 2, [hd, n]⟩, ⟨A, n, c, l⟩] = denc sn ne md id l := by
      simp only [joined, denc, dhead, List.flatMap_cons, List.flatMap_nil, List.append_nil, List.cons_append, List.nil_append, hlen]
      congr 1
      have := HHD.out
      omega
    rw [hj] at hown9
    have hl : (denc sn ne md id l).length = n + 2 := by simp [denc, hlen]
    rw [hl] at hown9
    exact ⟨_, rfl, ownsRow_weak hown9 hB8.size, hB8.trans (hb9.mono hB8.size)⟩
  · rw [if_neg h0, if_neg h0]
    have h1 : (((dchk sn ne md id n : Nat) : Int) == 0) = false := by rw [beq_eq_false_iff_ne]; omega
    obtain ⟨E, hE⟩ : ∃ E, E = dchk sn ne md id n := ⟨_, rfl⟩
    rw [← hE] at h1 ⊢
    have HE := hide hE
    clear hE h0
    go_enter Try.func14, Try.ntmps14
    go_wp2_with fail
    refine (check_any sn ne md id A n c _).mono ?_
    rintro e w1 ⟨rfl, hb1⟩
    rw [← HE.out]
    go_wp2
    go_ret2
    exact ⟨_, rfl, World.ownsRow_nil _ _ _ _, hB.trans (hb1.mono hB.size)⟩
end Go.Proofs.Yticefenffmebpaa
