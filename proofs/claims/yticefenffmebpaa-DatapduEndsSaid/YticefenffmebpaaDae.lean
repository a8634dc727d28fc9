/-
  The walk of the reference's Decode. Its contract.
-/
import Derived.Test.YticefenffmebpaaDab
namespace Go.Proofs.Yticefenffmebpaa
set_option linter.unusedVariables false
set_option linter.unusedSimpArgs false
open Go.RowKit

set_option maxHeartbeats 1000000 in
theorem rdecode_any (A : Option Addr) (n c : Nat) (l : List Nat) (w : World) (hA : Rd w 1 A n (bv l)) (hl : ∀ x ∈ l, x < 256) (hnc : n ≤ c) (hn : n ≤ 10000) :
    Calls Try.prog 18 #[.slice A n c] w fun e w' => ∃ v, e = .returned (.tuple #[.agg #[.int .i64 (dsn l : Nat), .int .i64 (dne l : Nat), .int .i64 (dmd l : Nat), .int .i64 (did l : Nat), v], .int .i64 (derr l : Nat)]) ∧
      w'.ownsRow w.heap.size 5 1 v (dpl l).length (bv (dpl l)) ∧ Below w.heap.size w w' := by
  have hlen := hA.blen
  by_cases h2 : n < 2
  · have he : derr l = 3 := by unfold derr; rw [if_pos (by omega)]
    obtain ⟨e1, e2, e3, e4, e5⟩ := ddec_bad (l := l) (by rw [he]; decide)
    rw [e1, e2, e3, e4, e5, he]
    clear e1 e2 e3 e4 e5 he
    have h3 : (n : Int) < 2 := by omega
    go_enter Try.func18, Try.ntmps18
    go_wp2
    exact bodyPost_ret (run_res_pdu rfl rfl rfl (Blk.new _ _ _)) rfl ⟨_, rfl, World.ownsRow_nil _ _ _ _, (Below.refl _ _).alloc (Nat.le_refl _) _⟩
  · obtain ⟨x, y, t, rfl⟩ := two_of (l := l) (by omega)
    obtain ⟨b, o, rfl, hb, c0, c1⟩ := hA.two
    have hx : x < 256 := hl x (by simp)
    have hy : y < 256 := hl y (by simp)
    simp only [List.length_cons] at hlen
    have h3 : ¬ (n : Int) < 2 := by omega
    have c0' : ∀ ob, (w.alloc ob).cell? ⟨b, o, none⟩ = some (.int .u8 (x : Int)) := fun ob => (World.cell?_alloc_lt w ob ⟨b, o, none⟩ hb).trans c0
    have c1' : ∀ ob, (w.alloc ob).cell? ⟨b, o + 1, none⟩ = some (.int .u8 (y : Int)) := fun ob => (World.cell?_alloc_lt w ob ⟨b, o + 1, none⟩ hb).trans c1
    rcases derr_two x y t with ⟨h, he⟩ | ⟨h, h', he⟩ | ⟨h, h', h4, h5, he⟩ | ⟨h, h', h4, h5, he⟩ | ⟨h, h', h4, h5, he⟩ | ⟨h, h', h4, h5, he⟩ | ⟨h, h', h4, h5, he⟩ | ⟨h, h', h4, h5, he⟩
    · obtain ⟨e1, e2, e3, e4, e5⟩ := ddec_bad (l := x :: y :: t) (by rw [he]; decide)
      rw [e1, e2, e3, e4, e5, he]
      clear e1 e2 e3 e4 e5 he
      go_enter Try.func18, Try.ntmps18
      go_wp2_with fail
      go_region
      go_wp2
      exact bodyPost_ret (run_res_pdu rfl rfl rfl (Blk.new _ _ _).drew) rfl ⟨_, rfl, World.ownsRow_nil _ _ _ _, ((Below.refl _ _).alloc (Nat.le_refl _) _).drew⟩
    · have f1 : (x : Int) % 4 = 0 := by omega
      obtain ⟨e1, e2, e3, e4, e5⟩ := ddec_bad (l := x :: y :: t) (by rw [he]; decide)
      rw [e1, e2, e3, e4, e5, he]
      clear e1 e2 e3 e4 e5 he
      go_enter Try.func18, Try.ntmps18
      go_wp2_with fail
      go_region
      go_wp2
      exact bodyPost_ret (run_res_pdu rfl rfl rfl (Blk.new _ _ _).drew) rfl ⟨_, rfl, World.ownsRow_nil _ _ _ _, ((Below.refl _ _).alloc (Nat.le_refl _) _).drew⟩
    · subst h4
      have f1 : ((x : Int) % 4 == 0) = false := by rw [beq_eq_false_iff_ne]; omega
      have f2 : (x : Int) % 4 ≠ 1 := by omega
      obtain ⟨e1, e2, e3, e4, e5⟩ := ddec_bad (l := x :: 0 :: t) (by rw [he]; decide)
      rw [e1, e2, e3, e4, e5, he]
      clear e1 e2 e3 e4 e5 he
      go_enter Try.func18, Try.ntmps18
      go_wp2_with fail
      go_region
      go_wp2
      exact bodyPost_ret (run_res_pdu rfl rfl rfl (Blk.new _ _ _).drew) rfl ⟨_, rfl, World.ownsRow_nil _ _ _ _, ((Below.refl _ _).alloc (Nat.le_refl _) _).drew⟩
    · have f1 : ((x : Int) % 4 == 0) = false := by rw [beq_eq_false_iff_ne]; omega
      have f2 : ((y : Int) == 0) = false := by rw [beq_eq_false_iff_ne]; omega
      have f3 : (n : Int) - 2 < (y : Int) := by omega
      obtain ⟨e1, e2, e3, e4, e5⟩ := ddec_bad (l := x :: y :: t) (by rw [he]; decide)
      rw [e1, e2, e3, e4, e5, he]
      clear e1 e2 e3 e4 e5 he
      go_enter Try.func18, Try.ntmps18
      go_wp2_with fail
      go_region
      go_wp2
      exact bodyPost_ret (run_res_pdu rfl rfl rfl (Blk.new _ _ _).drew) rfl ⟨_, rfl, World.ownsRow_nil _ _ _ _, ((Below.refl _ _).alloc (Nat.le_refl _) _).drew⟩
    · have f1 : ((x : Int) % 4 == 0) = false := by rw [beq_eq_false_iff_ne]; omega
      have f2 : ((y : Int) == 0) = false := by rw [beq_eq_false_iff_ne]; omega
      have f3 : ¬ (n : Int) - 2 < (y : Int) := by omega
      have f4 : (y : Int) < (n : Int) - 2 := by omega
      obtain ⟨e1, e2, e3, e4, e5⟩ := ddec_bad (l := x :: y :: t) (by rw [he]; decide)
      rw [e1, e2, e3, e4, e5, he]
      clear e1 e2 e3 e4 e5 he
      go_enter Try.func18, Try.ntmps18
      go_wp2_with fail
      go_region
      go_wp2
      exact bodyPost_ret (run_res_pdu rfl rfl rfl (Blk.new _ _ _).drew) rfl ⟨_, rfl, World.ownsRow_nil _ _ _ _, ((Below.refl _ _).alloc (Nat.le_refl _) _).drew⟩
    · obtain ⟨e1, e2, e3, e4, e5⟩ := ddec_ok (l := x :: y :: t) he
      rw [e1, e2, e3, e4, e5, he]
      have f1 : ((x : Int) % 4 == 0) = false := by rw [beq_eq_false_iff_ne]; omega
      have f2 : ((y : Int) == 0) = false := by rw [beq_eq_false_iff_ne]; omega
      have f3 : ¬ (n : Int) - 2 < (y : Int) := by omega
      have f4 : ¬ (y : Int) < (n : Int) - 2 := by omega
      have hr : Rd w 1 (some ⟨b, o + 2, none⟩) (n - 2) (bv t) := by
        have := hA.drop (k := 2) (by omega) (some ⟨b, o + 2, none⟩) (fun _ b' o' e => by injection e with e; injection e with e1 e2; rw [← e1, ← e2])
        exact this
      have hB1 : Below w.heap.size w ((w.alloc (.cells #[.int .i64 0, .int .i64 0, .int .i64 0, .int .i64 0, .slice none 0 0] 26)).alloc (.cells #[] 5)).drew := (((Below.refl _ _).alloc (Nat.le_refl _) _).alloc (by simp) _).drew
      have hbx : Blk ((w.alloc (.cells #[.int .i64 0, .int .i64 0, .int .i64 0, .int .i64 0, .slice none 0 0] 26)).alloc (.cells #[] 5)).drew w.heap.size 26 #[.int .i64 0, .int .i64 0, .int .i64 0, .int .i64 0, .slice none 0 0] := ((Blk.new w _ _).alloc _).drew
      have hown : ((w.alloc (.cells #[.int .i64 0, .int .i64 0, .int .i64 0, .int .i64 0, .slice none 0 0] 26)).alloc (.cells #[] 5)).drew.ownsRow (w.heap.size + 1) 5 1 (.slice (some ⟨w.heap.size + 1, 0, none⟩) 0 0) 0 [] := own_made2 (by simp) (Nat.le_refl _)
      have hne : some w.heap.size ≠ (Value.slice (some ⟨w.heap.size + 1, 0, none⟩) 0 0).ownBlock := by simp [Value.ownBlock]
      have hr2 := hr.below hB1
      have hsz : w.heap.size + 1 ≤ ((w.alloc (.cells #[.int .i64 0, .int .i64 0, .int .i64 0, .int .i64 0, .slice none 0 0] 26)).alloc (.cells #[] 5)).drew.heap.size := by simp
      have HL := hide h5
      have ht : t.length = n - 2 := by omega
      have hc2 : ¬ c = 2 := by omega
      clear e1 e2 e3 e4 e5 he h4 h5 hr hl hA
      go_enter Try.func18, Try.ntmps18
      go_wp2_with fail
      go_region
      go_wp2_with (at_builtin; refine wpList_append_rd _ rfl (.tmp 47) (.tmp 49) _ rfl (w.heap.size + 1) 5 (.int .u8 0) 1 1 under8 info8 rfl (by omega) _ 0 [] rfl hown (some ⟨b, o + 2, none⟩) (n - 2) (c - 2) (bv t) rfl hr2 (bv_one _) (by omega) (by omega) hsz ?_; intro v1 w1 hown1 hg1 _; have hbx1 := hbx.grown hg1 hne; have hB2 := hB1.grown hg1 (Nat.le_of_succ_le hsz) (fun k hk => Nat.le_of_succ_le (hown.lt k hk).1); obtain ⟨A1, c1, hv, _, _, _⟩ := own_rd hown1; have q0 := hbx1.cell 0; have q1 := hbx1.cell 1; have q2 := hbx1.cell 2; have q3 := hbx1.cell 3; have q4 := hbx1.cell 4; have z0 := hbx1.frozen 0; have z1 := hbx1.frozen 1; have z2 := hbx1.frozen 2; have z3 := hbx1.frozen 3; have z4 := hbx1.frozen 4; simp only [List.getElem?_toArray, List.getElem?_cons_zero, List.getElem?_cons_succ] at q0 q1 q2 q3 q4; clear hg1; rw [hv] at hown1; rw [hv])
      have hne1 : (Value.slice A1 (0 + (n - 2)) c1).ownBlock ≠ some w.heap.size := fun e => by have := (hown1.lt _ e).1; omega
      simp only [Nat.zero_add, List.nil_append] at hown1 hne1
      refine bodyPost_ret (run_res_pdu rfl rfl rfl (blk_fill5 hbx1 _ _ _ _ _)) rfl ⟨_, rfl, ?_, below_fill5 hB2 (Nat.le_refl _) _ _ _ _ _⟩
      refine ownsRow_weak (own_fill5 ?_ hne1 _ _ _ _ _) (Nat.le_succ _)
      rw [show (List.drop 2 (x :: y :: t)).length = n - 2 from ht]
      exact hown1
    · subst h4
      have f1 : (x : Int) % 4 = 1 := by omega
      have f3 : ¬ (n : Int) - 2 < 0 := by omega
      have f4 : (0 : Int) < (n : Int) - 2 := by omega
      obtain ⟨e1, e2, e3, e4, e5⟩ := ddec_bad (l := x :: 0 :: t) (by rw [he]; decide)
      rw [e1, e2, e3, e4, e5, he]
      clear e1 e2 e3 e4 e5 he
      go_enter Try.func18, Try.ntmps18
      go_wp2_with fail
      go_region
      go_wp2
      exact bodyPost_ret (run_res_pdu rfl rfl rfl (Blk.new _ _ _).drew) rfl ⟨_, rfl, World.ownsRow_nil _ _ _ _, ((Below.refl _ _).alloc (Nat.le_refl _) _).drew⟩
    · subst h4
      obtain rfl : t = [] := List.eq_nil_of_length_eq_zero h5
      obtain rfl : n = 2 := by simpa using hlen.symm
      by_cases hc2 : c = 2
      · subst hc2
        obtain ⟨e1, e2, e3, e4, e5⟩ := ddec_ok (l := [x, 0]) he
        rw [e1, e2, e3, e4, e5, he]
        rw [show [x, 0].getD 0 0 % 4 = 1 from h']
        have f1 : (x : Int) % 4 = 1 := by omega
        have hB1 : Below w.heap.size w ((w.alloc (.cells #[.int .i64 0, .int .i64 0, .int .i64 0, .int .i64 0, .slice none 0 0] 26)).alloc (.cells #[] 5)).drew := (((Below.refl _ _).alloc (Nat.le_refl _) _).alloc (by simp) _).drew
        have hbx : Blk ((w.alloc (.cells #[.int .i64 0, .int .i64 0, .int .i64 0, .int .i64 0, .slice none 0 0] 26)).alloc (.cells #[] 5)).drew w.heap.size 26 #[.int .i64 0, .int .i64 0, .int .i64 0, .int .i64 0, .slice none 0 0] := ((Blk.new w _ _).alloc _).drew
        have hown : ((w.alloc (.cells #[.int .i64 0, .int .i64 0, .int .i64 0, .int .i64 0, .slice none 0 0] 26)).alloc (.cells #[] 5)).drew.ownsRow (w.heap.size + 1) 5 1 (.slice (some ⟨w.heap.size + 1, 0, none⟩) 0 0) 0 [] := own_made2 (by simp) (Nat.le_refl _)
        have hne : some w.heap.size ≠ (Value.slice (some ⟨w.heap.size + 1, 0, none⟩) 0 0).ownBlock := by simp [Value.ownBlock]
        have hsz : w.heap.size + 1 ≤ ((w.alloc (.cells #[.int .i64 0, .int .i64 0, .int .i64 0, .int .i64 0, .slice none 0 0] 26)).alloc (.cells #[] 5)).drew.heap.size := by simp
        clear e1 e2 e3 e4 e5 he hl hA
        go_enter Try.func18, Try.ntmps18
        go_wp2_with fail
        go_region
        go_wp2_with (at_builtin; refine wpList_append_rd _ rfl (.tmp 47) (.tmp 49) _ rfl (w.heap.size + 1) 5 (.int .u8 0) 1 1 under8 info8 rfl (by omega) _ 0 [] rfl hown (some ⟨b, o, none⟩) 0 0 (bv []) rfl (Rd.none_ _ _ _) (bv_one _) (by omega) (by omega) hsz ?_; intro v1 w1 hown1 hg1 _; have hbx1 := hbx.grown hg1 hne; have hB2 := hB1.grown hg1 (Nat.le_of_succ_le hsz) (fun k hk => Nat.le_of_succ_le (hown.lt k hk).1); obtain ⟨A1, c1, hv, _, _, _⟩ := own_rd hown1; have q0 := hbx1.cell 0; have q1 := hbx1.cell 1; have q2 := hbx1.cell 2; have q3 := hbx1.cell 3; have q4 := hbx1.cell 4; have z0 := hbx1.frozen 0; have z1 := hbx1.frozen 1; have z2 := hbx1.frozen 2; have z3 := hbx1.frozen 3; have z4 := hbx1.frozen 4; simp only [List.getElem?_toArray, List.getElem?_cons_zero, List.getElem?_cons_succ] at q0 q1 q2 q3 q4; clear hg1; rw [hv] at hown1; rw [hv])
        have hne1 : (Value.slice A1 0 c1).ownBlock ≠ some w.heap.size := fun e => by have := (hown1.lt _ e).1; omega
        refine bodyPost_ret (run_res_pdu rfl rfl rfl (blk_fill5 hbx1 _ _ _ _ _)) rfl ⟨_, rfl, ?_, below_fill5 hB2 (Nat.le_refl _) _ _ _ _ _⟩
        refine ownsRow_weak (own_fill5 ?_ hne1 _ _ _ _ _) (Nat.le_succ _)
        exact hown1
      · obtain ⟨e1, e2, e3, e4, e5⟩ := ddec_ok (l := [x, 0]) he
        rw [e1, e2, e3, e4, e5, he]
        rw [show [x, 0].getD 0 0 % 4 = 1 from h']
        have f1 : (x : Int) % 4 = 1 := by omega
        have hB1 : Below w.heap.size w ((w.alloc (.cells #[.int .i64 0, .int .i64 0, .int .i64 0, .int .i64 0, .slice none 0 0] 26)).alloc (.cells #[] 5)).drew := (((Below.refl _ _).alloc (Nat.le_refl _) _).alloc (by simp) _).drew
        have hbx : Blk ((w.alloc (.cells #[.int .i64 0, .int .i64 0, .int .i64 0, .int .i64 0, .slice none 0 0] 26)).alloc (.cells #[] 5)).drew w.heap.size 26 #[.int .i64 0, .int .i64 0, .int .i64 0, .int .i64 0, .slice none 0 0] := ((Blk.new w _ _).alloc _).drew
        have hown : ((w.alloc (.cells #[.int .i64 0, .int .i64 0, .int .i64 0, .int .i64 0, .slice none 0 0] 26)).alloc (.cells #[] 5)).drew.ownsRow (w.heap.size + 1) 5 1 (.slice (some ⟨w.heap.size + 1, 0, none⟩) 0 0) 0 [] := own_made2 (by simp) (Nat.le_refl _)
        have hne : some w.heap.size ≠ (Value.slice (some ⟨w.heap.size + 1, 0, none⟩) 0 0).ownBlock := by simp [Value.ownBlock]
        have hsz : w.heap.size + 1 ≤ ((w.alloc (.cells #[.int .i64 0, .int .i64 0, .int .i64 0, .int .i64 0, .slice none 0 0] 26)).alloc (.cells #[] 5)).drew.heap.size := by simp
        clear e1 e2 e3 e4 e5 he hl hA
        go_enter Try.func18, Try.ntmps18
        go_wp2_with fail
        go_region
        go_wp2_with (at_builtin; refine wpList_append_rd _ rfl (.tmp 47) (.tmp 49) _ rfl (w.heap.size + 1) 5 (.int .u8 0) 1 1 under8 info8 rfl (by omega) _ 0 [] rfl hown (some ⟨b, o + 2, none⟩) 0 (c - 2) (bv []) rfl (Rd.none_ _ _ _) (bv_one _) (by omega) (by omega) hsz ?_; intro v1 w1 hown1 hg1 _; have hbx1 := hbx.grown hg1 hne; have hB2 := hB1.grown hg1 (Nat.le_of_succ_le hsz) (fun k hk => Nat.le_of_succ_le (hown.lt k hk).1); obtain ⟨A1, c1, hv, _, _, _⟩ := own_rd hown1; have q0 := hbx1.cell 0; have q1 := hbx1.cell 1; have q2 := hbx1.cell 2; have q3 := hbx1.cell 3; have q4 := hbx1.cell 4; have z0 := hbx1.frozen 0; have z1 := hbx1.frozen 1; have z2 := hbx1.frozen 2; have z3 := hbx1.frozen 3; have z4 := hbx1.frozen 4; simp only [List.getElem?_toArray, List.getElem?_cons_zero, List.getElem?_cons_succ] at q0 q1 q2 q3 q4; clear hg1; rw [hv] at hown1; rw [hv])
        have hne1 : (Value.slice A1 0 c1).ownBlock ≠ some w.heap.size := fun e => by have := (hown1.lt _ e).1; omega
        refine bodyPost_ret (run_res_pdu rfl rfl rfl (blk_fill5 hbx1 _ _ _ _ _)) rfl ⟨_, rfl, ?_, below_fill5 hB2 (Nat.le_refl _) _ _ _ _ _⟩
        refine ownsRow_weak (own_fill5 ?_ hne1 _ _ _ _ _) (Nat.le_succ _)
        exact hown1
end Go.Proofs.Yticefenffmebpaa
