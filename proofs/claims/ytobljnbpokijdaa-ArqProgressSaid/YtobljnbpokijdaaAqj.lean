/-
  The walk of Send in the reference. Its contract.
-/
import Derived.Test.YtobljnbpokijdaaAqi
namespace Go.Proofs.Ytobljnbpokijdaa
set_option linter.unusedVariables false
set_option linter.unusedSimpArgs false
open Go.RowKit

/-- What Send leaves when the queue itself stays. -/
def RSPost (sn ne ack tak : Int) (E : Bool) (Q : Option Addr) (m cap : Nat) (L : List Pkt) (w : World) (e : Ending) (w' : World) : Prop :=
  ∃ p : Pk, e = .returned (.tuple #[.agg #[.int .i64 sn, .int .i64 ne, .slice Q m cap, .bool true, .bool E, .int .i64 ack, .int .i64 tak], .agg #[.int .i64 sn, .int .i64 ne, .int .i64 (smd E m), .int .i64 p.id, .slice p.A p.n p.c]]) ∧ Pay w' p ∧ p.abs = spk E L ∧ Below w.heap.size w w'
theorem rs_mk {sn ne ack tak md : Int} {E E' : Bool} {Q : Option Addr} {m cap : Nat} {L : List Pkt} {w w' : World} {p : Pk} (hE : E = E') (hm : smd E' m = md) (hp : Pay w' p) (ha : p.abs = spk E' L) (hb : Below w.heap.size w w') :
    RSPost sn ne ack tak E Q m cap L w (.returned (.tuple #[.agg #[.int .i64 sn, .int .i64 ne, .slice Q m cap, .bool true, .bool E', .int .i64 ack, .int .i64 tak], .agg #[.int .i64 sn, .int .i64 ne, .int .i64 md, .int .i64 p.id, .slice p.A p.n p.c]])) w' := by
  subst hE
  subst hm
  exact ⟨p, rfl, hp, ha, hb⟩
set_option maxHeartbeats 4000000 in
theorem rsend_any (sn ne ack tak : Int) (op em : Bool) (Q : Option Addr) (m cap : Nat) (ps : List Pk) (w : World) (hQ : PRd w Q m ps) (hmc : m ≤ cap) (hm : m ≤ 100000) :
    Calls Try.prog 14 #[.agg #[.int .i64 sn, .int .i64 ne, .slice Q m cap, .bool op, .bool em, .int .i64 ack, .int .i64 tak]] w (RSPost sn ne ack tak (sem op em m) Q m cap (ps.map Pk.abs) w) := by
  have hB : Below w.heap.size w (((w.alloc (.cells #[.int .i64 sn, .int .i64 ne, .slice Q m cap, .bool op, .bool em, .int .i64 ack, .int .i64 tak] 26)).alloc (.cells #[.int .i64 0, .int .i64 0, .slice none 0 0, .bool false, .bool false, .int .i64 0, .int .i64 0] 26)).alloc (.cells #[.int .i64 0, .int .i64 0, .int .i64 0, .int .i64 0, .slice none 0 0] 32)) := ((((Below.refl _ _).alloc (Nat.le_refl _) _).alloc (by simp) _).alloc (by simp; omega) _)
  have k1 : Blk (((w.alloc (.cells #[.int .i64 sn, .int .i64 ne, .slice Q m cap, .bool op, .bool em, .int .i64 ack, .int .i64 tak] 26)).alloc (.cells #[.int .i64 0, .int .i64 0, .slice none 0 0, .bool false, .bool false, .int .i64 0, .int .i64 0] 26)).alloc (.cells #[.int .i64 0, .int .i64 0, .int .i64 0, .int .i64 0, .slice none 0 0] 32)) w.heap.size 26 #[.int .i64 sn, .int .i64 ne, .slice Q m cap, .bool op, .bool em, .int .i64 ack, .int .i64 tak] := (((Blk.new _ _ _).alloc _).alloc _)
  have k2 : Blk (((w.alloc (.cells #[.int .i64 sn, .int .i64 ne, .slice Q m cap, .bool op, .bool em, .int .i64 ack, .int .i64 tak] 26)).alloc (.cells #[.int .i64 0, .int .i64 0, .slice none 0 0, .bool false, .bool false, .int .i64 0, .int .i64 0] 26)).alloc (.cells #[.int .i64 0, .int .i64 0, .int .i64 0, .int .i64 0, .slice none 0 0] 32)) (w.heap.size + 1) 26 #[.int .i64 0, .int .i64 0, .slice none 0 0, .bool false, .bool false, .int .i64 0, .int .i64 0] := ((blk_new2 (by simp)).alloc _)
  have k3 : Blk (((w.alloc (.cells #[.int .i64 sn, .int .i64 ne, .slice Q m cap, .bool op, .bool em, .int .i64 ack, .int .i64 tak] 26)).alloc (.cells #[.int .i64 0, .int .i64 0, .slice none 0 0, .bool false, .bool false, .int .i64 0, .int .i64 0] 26)).alloc (.cells #[.int .i64 0, .int .i64 0, .int .i64 0, .int .i64 0, .slice none 0 0] 32)) (w.heap.size + 2) 32 #[.int .i64 0, .int .i64 0, .int .i64 0, .int .i64 0, .slice none 0 0] := (blk_new2 (by simp))
  obtain ⟨r0, r1, r2, r3, r4, r5, r6⟩ := at7 k1
  obtain ⟨f0, f1, f2, f3, f4, f5, f6⟩ := fr7 k1
  go_enter Try.func14, Try.ntmps14
  go_upto_if 8 with (fail)
  go_cut [] (fun wx => Below w.heap.size w wx ∧ Blk wx w.heap.size 26 #[.int .i64 sn, .int .i64 ne, .slice Q m cap, .bool true, .bool (sem op em m), .int .i64 ack, .int .i64 tak] ∧ Blk wx (w.heap.size + 1) 26 #[.int .i64 0, .int .i64 0, .slice none 0 0, .bool false, .bool false, .int .i64 0, .int .i64 0] ∧ Blk wx (w.heap.size + 2) 32 #[.int .i64 0, .int .i64 0, .int .i64 0, .int .i64 0, .slice none 0 0])
  case first =>
    cases op
    · go_wp2
      go_meet
      case rel => exact ⟨(((Below.refl _ _).alloc (Nat.le_refl _) _).alloc (by simp) _).alloc (by simp; omega) _, ((Blk.new _ _ _).alloc _).alloc _, (blk_new2 (by simp)).alloc _, blk_new2 (by simp)⟩
    · go_wp2
      go_meet
      case rel => exact ⟨hB, k1, k2, k3⟩
  case rest =>
    obtain ⟨B1, n1, n2, n3⟩ := hcut
    clear r0 r1 r2 r3 r4 r5 r6 f0 f1 f2 f3 f4 f5 f6 k1 k2 k3 hB
    obtain ⟨E, hE⟩ : ∃ E, E = sem op em m := ⟨_, rfl⟩
    rw [← hE] at n1
    have HE := hide hE
    clear hE
    obtain ⟨r0, r1, r2, r3, r4, r5, r6⟩ := at7 n1
    have hX1 := n1.lt
    have hX2 := n2.lt
    have hX3 := n3.lt
    go_upto_region 4 with (fail)
    go_cut [4] (fun s4 wx => ∃ G : Nat, s4 = .pointer (some ⟨G, 0, none⟩) ∧ w.heap.size + 3 ≤ G ∧ Blk wx G 32 #[.int .i64 sn, .int .i64 ne, .int .i64 0, .int .i64 1, .slice none 0 0] ∧ Below w.heap.size w wx ∧ Blk wx w.heap.size 26 #[.int .i64 sn, .int .i64 ne, .slice Q m cap, .bool true, .bool E, .int .i64 ack, .int .i64 tak] ∧ Blk wx (w.heap.size + 1) 26 #[.int .i64 0, .int .i64 0, .slice none 0 0, .bool false, .bool false, .int .i64 0, .int .i64 0] ∧ Blk wx (w.heap.size + 2) 32 #[.int .i64 0, .int .i64 0, .int .i64 0, .int .i64 0, .slice none 0 0])
    case first =>
      have q0 : Blk ((wc.alloc (.cells #[.int .i64 0, .int .i64 0, .int .i64 0, .int .i64 0, .slice none 0 0] 32)).drew) wc.heap.size 32 #[.int .i64 0, .int .i64 0, .int .i64 0, .int .i64 0, .slice none 0 0] := (Blk.new _ _ _).drew
      have B0 := (B1.alloc B1.size (.cells #[.int .i64 0, .int .i64 0, .int .i64 0, .int .i64 0, .slice none 0 0] 32)).drew
      have hW : (wc.alloc (.cells #[.int .i64 0, .int .i64 0, .int .i64 0, .int .i64 0, .slice none 0 0] 32)).drew.heap.size = wc.heap.size + 1 := by simp
      have HW := hide hW
      clear hW
      have na1 := (n1.alloc (.cells #[.int .i64 0, .int .i64 0, .int .i64 0, .int .i64 0, .slice none 0 0] 32)).drew
      have na2 := (n2.alloc (.cells #[.int .i64 0, .int .i64 0, .int .i64 0, .int .i64 0, .slice none 0 0] 32)).drew
      have na3 := (n3.alloc (.cells #[.int .i64 0, .int .i64 0, .int .i64 0, .int .i64 0, .slice none 0 0] 32)).drew
      have D0 : (wc.drew).cell? ⟨w.heap.size, 0, none⟩ = some (.int .i64 sn) ∧ (wc.drew).cell? ⟨w.heap.size, 1, none⟩ = some (.int .i64 ne) := ⟨n1.drew.cell 0, n1.drew.cell 1⟩
      have D1 : ((wc.alloc (.cells #[.int .i64 0, .int .i64 0, .int .i64 0, .int .i64 0, .slice none 0 0] 32)).drew).cell? ⟨w.heap.size, 0, none⟩ = some (.int .i64 sn) ∧ ((wc.alloc (.cells #[.int .i64 0, .int .i64 0, .int .i64 0, .int .i64 0, .slice none 0 0] 32)).drew).cell? ⟨w.heap.size, 1, none⟩ = some (.int .i64 ne) := ⟨na1.cell 0, na1.cell 1⟩
      go_region_held3 (fun w' => w'.cell? ⟨w.heap.size, 0, none⟩ = some (.int .i64 sn) ∧ w'.cell? ⟨w.heap.size, 1, none⟩ = some (.int .i64 ne)) (first | (with_reducible exact D0) | (with_reducible exact D1) | (with_reducible exact D2) | (with_reducible exact D3 _) | (with_reducible exact D5)) (first
        | (go_at_call 25; (with_reducible refine (rb_any wc.drew).mono ?_); rintro e w2 ⟨rfl, hb2⟩; have q1 := n1.drew.below hb2 n1.lt; have q2 := n2.drew.below hb2 n2.lt; have q3 := n3.drew.below hb2 n3.lt; have B2 := B1.drew.trans (hb2.mono B1.size); have hz2 := q3.lt; have hz0 := q1.lt; have hz1 := q2.lt; obtain ⟨r0, r1, r2, r3, r4, r5, r6⟩ := at7 q1; have D2 : w2.cell? ⟨w.heap.size, 0, none⟩ = some (.int .i64 sn) ∧ w2.cell? ⟨w.heap.size, 1, none⟩ = some (.int .i64 ne) := ⟨r0, r1⟩; have D3 : ∀ o, (w2.alloc o).cell? ⟨w.heap.size, 0, none⟩ = some (.int .i64 sn) ∧ (w2.alloc o).cell? ⟨w.heap.size, 1, none⟩ = some (.int .i64 ne) := fun o => ⟨(q1.alloc o).cell 0, (q1.alloc o).cell 1⟩)
        | (go_at_call 25; (with_reducible refine (rb_any ((wc.alloc (.cells #[.int .i64 0, .int .i64 0, .int .i64 0, .int .i64 0, .slice none 0 0] 32)).drew)).mono ?_); rintro e w2 ⟨rfl, hb2⟩; have q4 := q0.below hb2 q0.lt; have q1 := na1.below hb2 na1.lt; have q2 := na2.below hb2 na2.lt; have q3 := na3.below hb2 na3.lt; have B2 := B0.trans (hb2.mono B0.size); have hz2 := q3.lt; have hz0 := q1.lt; have hz1 := q2.lt; obtain ⟨r0, r1, r2, r3, r4, r5, r6⟩ := at7 q1; obtain ⟨y0, y1, y2, y3, y4⟩ := at5 q4; obtain ⟨z0, z1, z2, z3, z4⟩ := fr5 q4; have D2 : w2.cell? ⟨w.heap.size, 0, none⟩ = some (.int .i64 sn) ∧ w2.cell? ⟨w.heap.size, 1, none⟩ = some (.int .i64 ne) := ⟨r0, r1⟩; have q5 := blk_far5 q1 (show w.heap.size ≠ wc.heap.size by omega) (u0 := .int .i64 sn) (u1 := .int .i64 ne) (u2 := .int .i64 0) (u3 := .int .i64 1) (u4 := .slice none 0 0); obtain ⟨d0, d1, _⟩ := at7 q5; have D5 := And.intro d0 d1))
      · go_wp2_with fail
        go_meet
        case rel => exact ⟨_, rfl, by omega, Blk.new _ _ _, B2.alloc B2.size _, q1.alloc _, q2.alloc _, q3.alloc _⟩
      · go_wp2_with fail
        go_meet
        case rel => exact ⟨_, rfl, by omega, blk_put5 q4, below_put5 B2 (by omega), blk_far5 q1 (by omega), blk_far5 q2 (by omega), blk_far5 q3 (by omega)⟩
    case rest =>
      obtain ⟨G, rfl, hG, n4, B1, n1, n2, n3⟩ := hcut
      clear r0 r1 r2 r3 r4 r5 r6 hX1 hX2 hX3
      obtain ⟨r0, r1, r2, r3, r4, r5, r6⟩ := at7 n1
      obtain ⟨f0, f1, f2, f3, f4, f5, f6⟩ := fr7 n1
      obtain ⟨t0, t1, t2, t3, t4, t5, t6⟩ := at7 n2
      obtain ⟨g0, g1, g2, g3, g4, g5, g6⟩ := fr7 n2
      obtain ⟨s0, s1, s2, s3, s4⟩ := at5 n3
      obtain ⟨h0, h1, h2, h3, h4⟩ := fr5 n3
      obtain ⟨y0, y1, y2, y3, y4⟩ := at5 n4
      obtain ⟨z0, z1, z2, z3, z4⟩ := fr5 n4
      have hg1 : ¬ w.heap.size + 1 = G := by omega
      have hg2 : ¬ w.heap.size + 1 + 1 = G := by omega
      have hg0 : ¬ w.heap.size = G := by omega
      cases E
      · rcases Nat.eq_zero_or_pos m with hm0 | hm0
        · have hm1 : (m : Int) ≤ 0 := by omega
          have HM := hide hm0
          have HP0 := hide (show ps.map Pk.abs = [] by rw [List.map_eq_nil_iff]; exact List.eq_nil_of_length_eq_zero (by rw [hQ.len]; exact hm0))
          clear hm0
          go_wp2_with fail
          go_region
          go_wp2
          have BF := (below_put5 (below_put7 B1 (show w.heap.size ≤ w.heap.size + 1 by omega) (u0 := .int .i64 sn) (u1 := .int .i64 ne) (u2 := .slice Q m cap) (u3 := .bool true) (u4 := .bool false) (u5 := .int .i64 ack) (u6 := .int .i64 tak)) (show w.heap.size ≤ w.heap.size + 1 + 1 by omega) (u0 := .int .i64 sn) (u1 := .int .i64 ne) (u2 := .int .i64 0) (u3 := .int .i64 1) (u4 := .slice none 0 0)).drew
          exact bodyPost_ret (run_res_two rfl rfl rfl (blk_far5 (blk_put7 n2) (by omega)).drew (blk_put5 (blk_far7 n3 (by omega))).drew _ _ Try.underlying26 rfl (by kernel_rfl) Try.underlying32 rfl (by kernel_rfl)) rfl (rs_mk (p := ⟨1, none, 0, 0, []⟩) HE.out.symm (by unfold smd; rw [if_neg (by rw [HM.out]; simp)]) ((own1_blank 0 _ _).1) (by unfold spk; rw [HP0.out]; rfl) BF)
        · obtain ⟨b, o, p, rfl, hbw, HX, c0, c1, hp⟩ := hQ.pk hm0
          have c0 := (B1.cell (p := ⟨b, o + 0 * 2, none⟩) hbw).trans c0
          have c1 := (B1.cell (p := ⟨b, o + 0 * 2 + 1, none⟩) hbw).trans c1
          simp only [Nat.zero_mul, Nat.add_zero] at c0 c1
          have HPH := hide (show p.abs = spk false (ps.map Pk.abs) from spk_head HX.out rfl)
          have hm1 : (0 : Int) < (m : Int) := by omega
          rcases Nat.lt_or_ge 1 m with hm2 | hm2
          · have hm3 : (0 : Int) < (m : Int) - 1 := by omega
            go_wp2_with fail
            go_region
            go_wp2
            have BF := (below_put5 (below_put7 (((B1.setCell (p := ⟨G, 3, none⟩) (by simp; omega) (.int .i64 p.id)).setCell (p := ⟨G, 4, none⟩) (by simp; omega) (.slice p.A p.n p.c)).setCell (p := ⟨G, 2, none⟩) (by simp; omega) (.int .i64 1)) (show w.heap.size ≤ w.heap.size + 1 by omega) (u0 := .int .i64 sn) (u1 := .int .i64 ne) (u2 := .slice (some ⟨b, o, none⟩) m cap) (u3 := .bool true) (u4 := .bool false) (u5 := .int .i64 ack) (u6 := .int .i64 tak)) (show w.heap.size ≤ w.heap.size + 1 + 1 by omega) (u0 := .int .i64 sn) (u1 := .int .i64 ne) (u2 := .int .i64 1) (u3 := .int .i64 p.id) (u4 := .slice p.A p.n p.c)).drew
            exact bodyPost_ret (run_res_two rfl rfl rfl (blk_far5 (blk_put7 (((n2.far (p := ⟨G, 3, none⟩) (by simp; omega) (.int .i64 p.id)).far (p := ⟨G, 4, none⟩) (by simp; omega) (.slice p.A p.n p.c)).far (p := ⟨G, 2, none⟩) (by simp; omega) (.int .i64 1))) (by omega)).drew (blk_put5 (blk_far7 (((n3.far (p := ⟨G, 3, none⟩) (by simp; omega) (.int .i64 p.id)).far (p := ⟨G, 4, none⟩) (by simp; omega) (.slice p.A p.n p.c)).far (p := ⟨G, 2, none⟩) (by simp; omega) (.int .i64 1)) (by omega))).drew _ _ Try.underlying26 rfl (by kernel_rfl) Try.underlying32 rfl (by kernel_rfl)) rfl (rs_mk (p := p) HE.out.symm (by unfold smd; rw [if_pos (by simp; omega)]) (hp.below BF) (HPH.out) BF)
          · have hm3 : (m : Int) - 1 ≤ 0 := by omega
            go_wp2_with fail
            go_region
            go_wp2
            have BF := (below_put5 (below_put7 ((B1.setCell (p := ⟨G, 3, none⟩) (by simp; omega) (.int .i64 p.id)).setCell (p := ⟨G, 4, none⟩) (by simp; omega) (.slice p.A p.n p.c)) (show w.heap.size ≤ w.heap.size + 1 by omega) (u0 := .int .i64 sn) (u1 := .int .i64 ne) (u2 := .slice (some ⟨b, o, none⟩) m cap) (u3 := .bool true) (u4 := .bool false) (u5 := .int .i64 ack) (u6 := .int .i64 tak)) (show w.heap.size ≤ w.heap.size + 1 + 1 by omega) (u0 := .int .i64 sn) (u1 := .int .i64 ne) (u2 := .int .i64 0) (u3 := .int .i64 p.id) (u4 := .slice p.A p.n p.c)).drew
            exact bodyPost_ret (run_res_two rfl rfl rfl (blk_far5 (blk_put7 ((n2.far (p := ⟨G, 3, none⟩) (by simp; omega) (.int .i64 p.id)).far (p := ⟨G, 4, none⟩) (by simp; omega) (.slice p.A p.n p.c))) (by omega)).drew (blk_put5 (blk_far7 ((n3.far (p := ⟨G, 3, none⟩) (by simp; omega) (.int .i64 p.id)).far (p := ⟨G, 4, none⟩) (by simp; omega) (.slice p.A p.n p.c)) (by omega))).drew _ _ Try.underlying26 rfl (by kernel_rfl) Try.underlying32 rfl (by kernel_rfl)) rfl (rs_mk (p := p) HE.out.symm (by unfold smd; rw [if_neg (by simp; omega)]) (hp.below BF) (HPH.out) BF)
      · rcases Nat.eq_zero_or_pos m with hm0 | hm0
        · have hm1 : (m : Int) ≤ 0 := by omega
          have HM := hide hm0
          clear hm0
          go_wp2_with fail
          go_region
          go_wp2
          have BF := (below_put5 (below_put7 B1 (show w.heap.size ≤ w.heap.size + 1 by omega) (u0 := .int .i64 sn) (u1 := .int .i64 ne) (u2 := .slice Q m cap) (u3 := .bool true) (u4 := .bool true) (u5 := .int .i64 ack) (u6 := .int .i64 tak)) (show w.heap.size ≤ w.heap.size + 1 + 1 by omega) (u0 := .int .i64 sn) (u1 := .int .i64 ne) (u2 := .int .i64 0) (u3 := .int .i64 1) (u4 := .slice none 0 0)).drew
          exact bodyPost_ret (run_res_two rfl rfl rfl (blk_far5 (blk_put7 n2) (by omega)).drew (blk_put5 (blk_far7 n3 (by omega))).drew _ _ Try.underlying26 rfl (by kernel_rfl) Try.underlying32 rfl (by kernel_rfl)) rfl (rs_mk (p := ⟨1, none, 0, 0, []⟩) HE.out.symm (by unfold smd; rw [if_pos rfl, if_neg (by rw [HM.out]; omega)]) ((own1_blank 0 _ _).1) (rfl) BF)
        · have hm1 : (0 : Int) < (m : Int) := by omega
          go_wp2_with fail
          go_region
          go_wp2
          have BF := (below_put5 (below_put7 (B1.setCell (p := ⟨G, 2, none⟩) (by simp; omega) (.int .i64 1)) (show w.heap.size ≤ w.heap.size + 1 by omega) (u0 := .int .i64 sn) (u1 := .int .i64 ne) (u2 := .slice Q m cap) (u3 := .bool true) (u4 := .bool true) (u5 := .int .i64 ack) (u6 := .int .i64 tak)) (show w.heap.size ≤ w.heap.size + 1 + 1 by omega) (u0 := .int .i64 sn) (u1 := .int .i64 ne) (u2 := .int .i64 1) (u3 := .int .i64 1) (u4 := .slice none 0 0)).drew
          exact bodyPost_ret (run_res_two rfl rfl rfl (blk_far5 (blk_put7 (n2.far (p := ⟨G, 2, none⟩) (by simp; omega) (.int .i64 1))) (by omega)).drew (blk_put5 (blk_far7 (n3.far (p := ⟨G, 2, none⟩) (by simp; omega) (.int .i64 1)) (by omega))).drew _ _ Try.underlying26 rfl (by kernel_rfl) Try.underlying32 rfl (by kernel_rfl)) rfl (rs_mk (p := ⟨1, none, 0, 0, []⟩) HE.out.symm (by unfold smd; rw [if_pos rfl, if_pos hm0]) ((own1_blank 0 _ _).1) (rfl) BF)
end Go.Proofs.Ytobljnbpokijdaa
