/-
  The walk of Decode where the bytes are those of a PDU with a payload.
-/
import Derived.Test.YticefenffmebpaaDab
namespace Go.Proofs.Yticefenffmebpaa
set_option linter.unusedVariables false
set_option linter.unusedSimpArgs false
open Go.RowKit

set_option maxHeartbeats 1000000 in
theorem decode_long (b o n c x y : Nat) (t : List Nat) (w : World) (hA : Rd w 1 (some ⟨b, o, none⟩) n (bv (x :: y :: t))) (hl : ∀ z ∈ x :: y :: t, z < 256) (hnc : n ≤ c) (hn : n ≤ 10000) (hb : b < w.heap.size) (c0 : w.cell? ⟨b, o, none⟩ = some (.int .u8 (x : Int))) (c1 : w.cell? ⟨b, o + 1, none⟩ = some (.int .u8 (y : Int))) (hx : x < 256) (hy : y < 256) (hlen : t.length + 1 + 1 = n) (h2 : ¬ n < 2) (h : x < 32) (h' : x % 4 ≠ 0) (h4 : y ≠ 0) (h5 : y = t.length) (he : derr (x :: y :: t) = 0) :
    Calls Try.prog 17 #[.slice (some ⟨b, o, none⟩) n c] w fun e w' => ∃ v, e = .returned (.tuple #[.agg #[.int .i64 (dsn (x :: y :: t) : Nat), .int .i64 (dne (x :: y :: t) : Nat), .int .i64 (dmd (x :: y :: t) : Nat), .int .i64 (did (x :: y :: t) : Nat), v], .int .i64 (derr (x :: y :: t) : Nat)]) ∧
      w'.ownsRow w.heap.size 5 1 v (dpl (x :: y :: t)).length (bv (dpl (x :: y :: t))) ∧ Below w.heap.size w w' := by
  have h3 : ¬ (n : Int) < 2 := by omega
  have c0' : ∀ ob, (w.alloc ob).cell? ⟨b, o, none⟩ = some (.int .u8 (x : Int)) := fun ob => (World.cell?_alloc_lt w ob ⟨b, o, none⟩ hb).trans c0
  have c1' : ∀ ob, (w.alloc ob).cell? ⟨b, o + 1, none⟩ = some (.int .u8 (y : Int)) := fun ob => (World.cell?_alloc_lt w ob ⟨b, o + 1, none⟩ hb).trans c1
  have ha := and3 x hx
  obtain ⟨id, hid⟩ : ∃ id, id = x % 4 := ⟨_, rfl⟩
  rw [← hid] at ha h'
  have hid4 : id < 4 := by omega
  have HID := hide hid
  clear hid
  obtain ⟨e1, e2, e3, e4, e5⟩ := ddec_ok (l := x :: y :: t) he
  rw [e1, e2, e3, e4, e5, he, show (x :: y :: t).getD 0 0 % 4 = id from HID.out.symm]
  clear e1 e2 e3 e4 e5 he
  have f0 : (x : Int) / 32 = 0 := by omega
  have f1 : ((id : Int) == 0) = false := by rw [beq_eq_false_iff_ne]; omega
  have f2 : ((y : Int) == 0) = false := by rw [beq_eq_false_iff_ne]; omega
  have f3 : ¬ (n : Int) - 2 < (y : Int) := by omega
  have f4 : ¬ (y : Int) < (n : Int) - 2 := by omega
  have hr : Rd w 1 (some ⟨b, o + 2, none⟩) (n - 2) (bv t) := by
    have := hA.drop (k := 2) (by omega) (some ⟨b, o + 2, none⟩) (fun _ b' o' e => by injection e with e; injection e with e1 e2; rw [← e1, ← e2])
    exact this
  have HL := hide h5
  have ht : t.length = n - 2 := by omega
  have hc2 : ¬ c = 2 := by omega
  clear h4 h5 hl hA
  have hB1 : Below w.heap.size w ((w.alloc (.cells #[.int .i64 0, .int .i64 0, .int .i64 0, .int .i64 0, .slice none 0 0] 26)).alloc (.cells #[.int .u8 (x : Int)] 5)).drew := (((Below.refl _ _).alloc (Nat.le_refl _) _).alloc (by simp) _).drew
  have hbx : Blk ((w.alloc (.cells #[.int .i64 0, .int .i64 0, .int .i64 0, .int .i64 0, .slice none 0 0] 26)).alloc (.cells #[.int .u8 (x : Int)] 5)).drew w.heap.size 26 #[.int .i64 0, .int .i64 0, .int .i64 0, .int .i64 0, .slice none 0 0] := ((Blk.new w _ _).alloc _).drew
  have hhd : Blk ((w.alloc (.cells #[.int .i64 0, .int .i64 0, .int .i64 0, .int .i64 0, .slice none 0 0] 26)).alloc (.cells #[.int .u8 (x : Int)] 5)).drew (w.heap.size + 1) 5 #[.int .u8 (x : Int)] := (blk_new2 (by simp)).drew
  have hps : Blk (((w.alloc (.cells #[.int .i64 0, .int .i64 0, .int .i64 0, .int .i64 0, .slice none 0 0] 26)).alloc (.cells #[.int .u8 (x : Int)] 5)).alloc (.cells #[.slice (some ⟨b, o + 2, none⟩) (n - 2) (c - 2)] 22)).drew.drew (w.heap.size + 2) 22 #[.slice (some ⟨b, o + 2, none⟩) (n - 2) (c - 2)] := (blk_new2 (by simp)).drew.drew
  have hB2 : Below w.heap.size w (((w.alloc (.cells #[.int .i64 0, .int .i64 0, .int .i64 0, .int .i64 0, .slice none 0 0] 26)).alloc (.cells #[.int .u8 (x : Int)] 5)).alloc (.cells #[.slice (some ⟨b, o + 2, none⟩) (n - 2) (c - 2)] 22)).drew.drew := ((((Below.refl _ _).alloc (Nat.le_refl _) _).alloc (by simp) _).alloc (by simp; omega) _).drew.drew
  have hbx2 : Blk (((w.alloc (.cells #[.int .i64 0, .int .i64 0, .int .i64 0, .int .i64 0, .slice none 0 0] 26)).alloc (.cells #[.int .u8 (x : Int)] 5)).alloc (.cells #[.slice (some ⟨b, o + 2, none⟩) (n - 2) (c - 2)] 22)).drew.drew w.heap.size 26 #[.int .i64 0, .int .i64 0, .int .i64 0, .int .i64 0, .slice none 0 0] := (((Blk.new w _ _).alloc _).alloc _).drew.drew
  have hhd2 : Blk (((w.alloc (.cells #[.int .i64 0, .int .i64 0, .int .i64 0, .int .i64 0, .slice none 0 0] 26)).alloc (.cells #[.int .u8 (x : Int)] 5)).alloc (.cells #[.slice (some ⟨b, o + 2, none⟩) (n - 2) (c - 2)] 22)).drew.drew (w.heap.size + 1) 5 #[.int .u8 (x : Int)] := ((blk_new2 (by simp)).alloc _).drew.drew
  have hr2 := hr.below hB2
  have hj := hide (show joined [⟨some ⟨b, o + 2, none⟩, n - 2, c - 2, t⟩] = t by simp [joined])
  go_enter Try.func17, Try.ntmps17
  go_wp2_with fail
  go_region
  go_wp2_with fail
  go_region_with (first
    | (go_at_call_of 25 (Value.int IntKind.i64 3); refine (get3_any x (w.heap.size + 1) hx _ ?_).mono ?_; (first | exact hhd | exact hhd2); rintro e w' ⟨rfl, rfl⟩)
    | (go_at_call_of 25 (Value.int IntKind.i64 2); refine (get2_any x (w.heap.size + 1) hx _ ?_).mono ?_; (first | exact hhd | exact hhd2); rintro e w' ⟨rfl, rfl⟩)
    | (go_at_call_of 25 (Value.int IntKind.i64 4); refine (get4_any x (w.heap.size + 1) hx _ ?_).mono ?_; (first | exact hhd | exact hhd2); rintro e w' ⟨rfl, rfl⟩)
    | (go_at_call 24; (refine (join_any (w.heap.size + 2) 0 1 1 [⟨some ⟨b, o + 2, none⟩, n - 2, c - 2, t⟩] _ rfl hps.lt (by omega) ?_).mono ?_); (intro j p hp; match j, hp with | 0, hp => (injection hp with hp; subst hp; exact ⟨hps.cell 0, hr2, (by omega : n - 2 ≤ 1000000)⟩) | j + 1, hp => simp at hp); rintro e w9 ⟨v9, rfl, hown9, hb9⟩; rw [hj.out] at hown9; have hbx9 := hbx2.below hb9 hbx2.lt; have hB9 := hB2.trans (hb9.mono hB2.size); obtain ⟨A9, c9, hv9, _, _, _⟩ := own_rd hown9; rw [hv9] at hown9; rw [hv9]; have q0 := hbx9.cell 0; have q1 := hbx9.cell 1; have q2 := hbx9.cell 2; have q3 := hbx9.cell 3; have q4 := hbx9.cell 4; have z0 := hbx9.frozen 0; have z1 := hbx9.frozen 1; have z2 := hbx9.frozen 2; have z3 := hbx9.frozen 3; have z4 := hbx9.frozen 4; simp only [List.getElem?_toArray, List.getElem?_cons_zero, List.getElem?_cons_succ] at q0 q1 q2 q3 q4))
  all_goals
    clear hhd hhd2 hbx hbx2
    have hne1 : (Value.slice A9 t.length c9).ownBlock ≠ some w.heap.size := fun e => by
      have := (hown9.lt _ e).1
      simp at this
      omega
    go_wp2
    rw [ht] at hown9 hne1
    refine bodyPost_ret (run_res_pdu rfl rfl rfl (blk_fill5 hbx9 _ _ _ _ _)) rfl ⟨_, rfl, ?_, below_fill5 hB9 (Nat.le_refl _) _ _ _ _ _⟩
    rw [show (List.drop 2 (x :: y :: t)).length = n - 2 from ht]
    exact ownsRow_weak (own_fill5 hown9 hne1 _ _ _ _ _) hB2.size
end Go.Proofs.Yticefenffmebpaa
