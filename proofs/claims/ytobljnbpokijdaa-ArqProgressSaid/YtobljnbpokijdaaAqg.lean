/-
  The walk of Send in the program. Its contract.
-/
import Derived.Test.YtobljnbpokijdaaAqf
namespace Go.Proofs.Ytobljnbpokijdaa
set_option linter.unusedVariables false
set_option linter.unusedSimpArgs false
open Go.RowKit

/-- Two results, both structs in cells; and two structs in cells with two results behind them. -/
theorem run_res_two {P : Program} {w : World} {fn : Func} {tmps : Array Value} {i j g k : Nat} {t ty t2 ty2 : TypeId} {cs ds : Array Value} (hf : fn.results = #[.cell i ty, .cell j ty2]) (hi : tmps.getD i undef = .pointer (some ⟨g, 0, none⟩)) (hj : tmps.getD j undef = .pointer (some ⟨k, 0, none⟩)) (hB : Blk w g t cs) (hC : Blk w k t2 ds)
    (d d2 : TypeDesc) (hu : P.underlying ty = some d) (hd : (match d with | .struct _ | .array _ _ => true | _ => false) = true) (hs : (P.info? ty).map (·.size) = some cs.size)
    (hu2 : P.underlying ty2 = some d2) (hd2 : (match d2 with | .struct _ | .array _ _ => true | _ => false) = true) (hs2 : (P.info? ty2).map (·.size) = some ds.size) :
    (results fn tmps).run P w = .ok (.tuple #[.agg cs, .agg ds]) w := by
  have hl := run_loadVar_row (P := P) w g t ty cs (0, 0) d hB hu hd hs
  have hl2 := run_loadVar_row (P := P) w k t2 ty2 ds (0, 0) d2 hC hu2 hd2 hs2
  have ha : ∀ (b : Nat) (w : World), (asAddr (.pointer (some ⟨b, 0, none⟩))).run P w = .ok ⟨b, 0, none⟩ w := fun b w => by simp [asAddr, go_sem]
  unfold results
  rw [hf]
  simp only [List.mapM_toArray, List.mapM_cons, List.mapM_nil, map_eq_pure_bind, bind_assoc, pure_bind, Sem.run_bind, Sem.run_pure, Result.andThen_ok, hi, hj, ha, hl, hl2]
  rfl
theorem run_res_four {P : Program} {w : World} {fn : Func} {tmps : Array Value} {i j g k a b : Nat} {t ty t2 ty2 : TypeId} {cs ds : Array Value} {x y : Value} (hf : fn.results = #[.cell i ty, .cell j ty2, .tmp a, .tmp b]) (hi : tmps.getD i undef = .pointer (some ⟨g, 0, none⟩)) (hj : tmps.getD j undef = .pointer (some ⟨k, 0, none⟩)) (hx : tmps.getD a undef = x) (hy : tmps.getD b undef = y) (hB : Blk w g t cs) (hC : Blk w k t2 ds)
    (d d2 : TypeDesc) (hu : P.underlying ty = some d) (hd : (match d with | .struct _ | .array _ _ => true | _ => false) = true) (hs : (P.info? ty).map (·.size) = some cs.size)
    (hu2 : P.underlying ty2 = some d2) (hd2 : (match d2 with | .struct _ | .array _ _ => true | _ => false) = true) (hs2 : (P.info? ty2).map (·.size) = some ds.size) :
    (results fn tmps).run P w = .ok (.tuple #[.agg cs, .agg ds, x, y]) w := by
  have hl := run_loadVar_row (P := P) w g t ty cs (0, 0) d hB hu hd hs
  have hl2 := run_loadVar_row (P := P) w k t2 ty2 ds (0, 0) d2 hC hu2 hd2 hs2
  have ha : ∀ (b : Nat) (w : World), (asAddr (.pointer (some ⟨b, 0, none⟩))).run P w = .ok ⟨b, 0, none⟩ w := fun b w => by simp [asAddr, go_sem]
  subst hx
  subst hy
  unfold results
  rw [hf]
  simp only [List.mapM_toArray, List.mapM_cons, List.mapM_nil, map_eq_pure_bind, bind_assoc, pure_bind, Sem.run_bind, Sem.run_pure, Result.andThen_ok, hi, hj, ha, hl, hl2]
  rfl

theorem Mine.alloc {base : Nat} {w : World} {Q : Option Addr} {m cap : Nat} {qs : List Pk} {L : List Pkt} (h : Mine base w Q m cap qs L) (o : Obj) : Mine base (w.alloc o) Q m cap qs L := ⟨h.own.alloc o, h.abs, fun q hq => (h.pay q hq).alloc o, h.sep, h.low, h.cap_⟩
/-- What Send does to a side's 'Empty', and what it sends. -/
def sem (op em : Bool) (k : Nat) : Bool := if op then em else (k : Int) == 0
def spk (E : Bool) (q : List Pkt) : Pkt := if E then (1, []) else q.headD (1, [])
def smd (E : Bool) (k : Nat) : Int := if 0 < (if E then k else k - 1) then 1 else 0
/-- A packet of the call's own. -/
def Own1 (base : Nat) (w : World) (p : Pk) : Prop := Pay w p ∧ (0 < p.n → ∀ a, p.A = some a → base ≤ a.block)
theorem own1_blank (base : Nat) (w : World) (i : Int) : Own1 base w ⟨i, none, 0, 0, []⟩ := ⟨⟨Rd.none_ _ _ _, by simp, Nat.le_refl _, big_of (Nat.zero_le _)⟩, fun h => absurd h (by simp)⟩
theorem Own1.below {base : Nat} {w w' : World} {p : Pk} (h : Own1 base w p) (hb : Below w.heap.size w w') : Own1 base w' p := ⟨h.1.below hb, h.2⟩
theorem Own1.set {base g i : Nat} {w : World} {p : Pk} {u : Value} (h : Own1 base w p) (hg : g < base) : Own1 base (w.setCell ⟨g, i, none⟩ u) p := ⟨pay_fills [(i, u)] h.1 (fun h0 a ha => by have := h.2 h0 a ha; omega), h.2⟩
theorem Own1.put7 {base g : Nat} {W : World} {p : Pk} {u0 u1 u2 u3 u4 u5 u6 : Value} (h : Own1 base W p) (hg : g < base) : Own1 base ((((((((W).setCell ⟨g, 0, none⟩ u0).setCell ⟨g, 1, none⟩ u1).setCell ⟨g, 2, none⟩ u2).setCell ⟨g, 3, none⟩ u3).setCell ⟨g, 4, none⟩ u4).setCell ⟨g, 5, none⟩ u5).setCell ⟨g, 6, none⟩ u6) p := ⟨pay_fills [(0, u0), (1, u1), (2, u2), (3, u3), (4, u4), (5, u5), (6, u6)] h.1 (fun h0 a ha => by have := h.2 h0 a ha; omega), h.2⟩
theorem Own1.put5 {base g : Nat} {W : World} {p : Pk} {u0 u1 u2 u3 u4 : Value} (h : Own1 base W p) (hg : g < base) : Own1 base ((((((W).setCell ⟨g, 0, none⟩ u0).setCell ⟨g, 1, none⟩ u1).setCell ⟨g, 2, none⟩ u2).setCell ⟨g, 3, none⟩ u3).setCell ⟨g, 4, none⟩ u4) p := ⟨pay_fills [(0, u0), (1, u1), (2, u2), (3, u3), (4, u4)] h.1 (fun h0 a ha => by have := h.2 h0 a ha; omega), h.2⟩
theorem Own1.put2 {base g : Nat} {W : World} {p : Pk} {u0 u1 : Value} (h : Own1 base W p) (hg : g < base) : Own1 base (((W).setCell ⟨g, 0, none⟩ u0).setCell ⟨g, 1, none⟩ u1) p := ⟨pay_fills [(0, u0), (1, u1)] h.1 (fun h0 a ha => by have := h.2 h0 a ha; omega), h.2⟩
theorem Own1.drew {base : Nat} {w : World} {p : Pk} (h : Own1 base w p) : Own1 base w.drew p := ⟨h.1.drew, h.2⟩
theorem Own1.weak {base b2 : Nat} {w : World} {p : Pk} (h : Own1 base w p) (hb : b2 ≤ base) : Own1 b2 w p := ⟨h.1, fun h0 a ha => Nat.le_trans hb (h.2 h0 a ha)⟩
theorem spk_head {qs : List Pk} {p : Pk} {L : List Pkt} (h : qs[0]? = some p) (ha : qs.map Pk.abs = L) : p.abs = spk false L := by
  subst ha
  cases qs with
  | nil => cases h
  | cons q qs =>
    simp only [List.getElem?_cons_zero, Option.some.injEq] at h
    subst h
    rfl
/-- A queue whose cells and payloads are apart from block g. -/
def Apart (Q : Option Addr) (m cap : Nat) (qs : List Pk) (g : Nat) : Prop := (Value.slice Q m cap).ownBlock ≠ some g ∧ ∀ q ∈ qs, 0 < q.n → ∀ a, q.A = some a → a.block ≠ g
theorem Mine.apart {base : Nat} {w : World} {Q : Option Addr} {m cap : Nat} {qs : List Pk} {L : List Pkt} (h : Mine base w Q m cap qs L) {g : Nat} (hg : w.heap.size ≤ g) : Apart Q m cap qs g :=
  ⟨fun e => by have := (h.own.lt _ e).2; omega, fun q hq h0 a ha => by have := (h.pay q hq).lt h0 a ha; omega⟩
theorem Mine.setA {base : Nat} {w : World} {Q : Option Addr} {m cap : Nat} {qs : List Pk} {L : List Pkt} {g i : Nat} {u : Value} (h : Mine base w Q m cap qs L) (ha : Apart Q m cap qs g) : Mine base (w.setCell ⟨g, i, none⟩ u) Q m cap qs L :=
  ⟨own_far h.own ha.1 u, h.abs, fun q hq => pay_fills [(i, u)] (h.pay q hq) (ha.2 q hq), h.sep, h.low, h.cap_⟩
set_option maxHeartbeats 2000000 in
theorem send_any (sn ne ack tak : Int) (op em : Bool) (Q : Option Addr) (m cap : Nat) (ps : List Pk) (w : World) (hQ : PRd w Q m ps) (hm : m ≤ 100000) :
    Calls Try.prog 13 #[.agg #[.int .i64 sn, .int .i64 ne, .slice Q m cap, .bool op, .bool em, .int .i64 ack, .int .i64 tak]] w fun e w' =>
      ∃ Q' cap' qs p, e = .returned (.tuple #[.agg #[.int .i64 sn, .int .i64 ne, .slice Q' m cap', .bool true, .bool (sem op em m), .int .i64 ack, .int .i64 tak], .agg #[.int .i64 sn, .int .i64 ne, .int .i64 (smd (sem op em m) m), .int .i64 p.id, .slice p.A p.n p.c]]) ∧ Fresh w.heap.size w' Q' m cap' qs (ps.map Pk.abs) ∧ Own1 w.heap.size w' p ∧ p.abs = spk (sem op em m) (ps.map Pk.abs) ∧ Below w.heap.size w w' := by
  have hB : Below w.heap.size w (((w.alloc (.cells #[.int .i64 sn, .int .i64 ne, .slice Q m cap, .bool op, .bool em, .int .i64 ack, .int .i64 tak] 26)).alloc (.cells #[.int .i64 0, .int .i64 0, .slice none 0 0, .bool false, .bool false, .int .i64 0, .int .i64 0] 26)).alloc (.cells #[.int .i64 0, .int .i64 0, .int .i64 0, .int .i64 0, .slice none 0 0] 32)) := (((Below.refl _ _).alloc (Nat.le_refl _) _).alloc (by simp) _).alloc (by simp; omega) _
  have k1 : Blk (((w.alloc (.cells #[.int .i64 sn, .int .i64 ne, .slice Q m cap, .bool op, .bool em, .int .i64 ack, .int .i64 tak] 26)).alloc (.cells #[.int .i64 0, .int .i64 0, .slice none 0 0, .bool false, .bool false, .int .i64 0, .int .i64 0] 26)).alloc (.cells #[.int .i64 0, .int .i64 0, .int .i64 0, .int .i64 0, .slice none 0 0] 32)) w.heap.size 26 #[.int .i64 sn, .int .i64 ne, .slice Q m cap, .bool op, .bool em, .int .i64 ack, .int .i64 tak] := ((Blk.new _ _ _).alloc _).alloc _
  have k2 : Blk (((w.alloc (.cells #[.int .i64 sn, .int .i64 ne, .slice Q m cap, .bool op, .bool em, .int .i64 ack, .int .i64 tak] 26)).alloc (.cells #[.int .i64 0, .int .i64 0, .slice none 0 0, .bool false, .bool false, .int .i64 0, .int .i64 0] 26)).alloc (.cells #[.int .i64 0, .int .i64 0, .int .i64 0, .int .i64 0, .slice none 0 0] 32)) (w.heap.size + 1) 26 #[.int .i64 0, .int .i64 0, .slice none 0 0, .bool false, .bool false, .int .i64 0, .int .i64 0] := (blk_new2 (by simp)).alloc _
  have k3 : Blk (((w.alloc (.cells #[.int .i64 sn, .int .i64 ne, .slice Q m cap, .bool op, .bool em, .int .i64 ack, .int .i64 tak] 26)).alloc (.cells #[.int .i64 0, .int .i64 0, .slice none 0 0, .bool false, .bool false, .int .i64 0, .int .i64 0] 26)).alloc (.cells #[.int .i64 0, .int .i64 0, .int .i64 0, .int .i64 0, .slice none 0 0] 32)) (w.heap.size + 2) 32 #[.int .i64 0, .int .i64 0, .int .i64 0, .int .i64 0, .slice none 0 0] := blk_new2 (by simp)
  go_enter Try.func13, Try.ntmps13
  go_upto_region 1 with (fail)
  go_cut [] (fun wx => ∃ Q1 cap1 qs, Mine (w.heap.size + 3) wx Q1 m cap1 qs (ps.map Pk.abs) ∧ Below w.heap.size w wx ∧ Blk wx w.heap.size 26 #[.int .i64 sn, .int .i64 ne, .slice Q1 m cap1, .bool op, .bool em, .int .i64 ack, .int .i64 tak] ∧ Blk wx (w.heap.size + 1) 26 #[.int .i64 0, .int .i64 0, .slice none 0 0, .bool false, .bool false, .int .i64 0, .int .i64 0] ∧ Blk wx (w.heap.size + 2) 32 #[.int .i64 0, .int .i64 0, .int .i64 0, .int .i64 0, .slice none 0 0])
  case first =>
    go_wp2_with ((go_at_call 26; refine (mine2_any sn ne ack tak op em Q m cap ps _ (hQ.below hB) hm).mono ?_; rintro e w1 ⟨Q1, cap1, qs, rfl, HM1, hb1⟩; have hO1 : Mine (w.heap.size + 3) w1 Q1 m cap1 qs (ps.map Pk.abs) := HM1.weak (by simp); have B1 := hB.trans (hb1.mono hB.size); have m1 := k1.below hb1 k1.lt; have m2 := k2.below hb1 k2.lt; have m3 := k3.below hb1 k3.lt; obtain ⟨f0, f1, f2, f3, f4, f5, f6⟩ := fr7 m1; obtain ⟨r0, r1, r2, r3, r4, r5, r6⟩ := at7 m1))
    go_meet
    case rel => exact ⟨Q1, cap1, qs, hO1.put7 (by omega), below_put7 B1 (Nat.le_refl _), blk_put7 m1, blk_far7 m2 (by omega), blk_far7 m3 (by omega)⟩
  case rest =>
    obtain ⟨Q1, cap1, qs, hO, B1, n1, n2, n3⟩ := hcut
    obtain ⟨f0, f1, f2, f3, f4, f5, f6⟩ := fr7 n1
    obtain ⟨r0, r1, r2, r3, r4, r5, r6⟩ := at7 n1
    go_upto_if 10 with (fail)
    go_cut [] (fun wx => Mine (w.heap.size + 3) wx Q1 m cap1 qs (ps.map Pk.abs) ∧ Below w.heap.size w wx ∧ Blk wx w.heap.size 26 #[.int .i64 sn, .int .i64 ne, .slice Q1 m cap1, .bool true, .bool (sem op em m), .int .i64 ack, .int .i64 tak] ∧ Blk wx (w.heap.size + 1) 26 #[.int .i64 0, .int .i64 0, .slice none 0 0, .bool false, .bool false, .int .i64 0, .int .i64 0] ∧ Blk wx (w.heap.size + 2) 32 #[.int .i64 0, .int .i64 0, .int .i64 0, .int .i64 0, .slice none 0 0])
    case first =>
      cases op
      · go_wp2
        go_meet
        case rel => exact ⟨(hO.set (by omega)).set (by omega), (B1.setCell (p := ⟨w.heap.size, 3, none⟩) (Nat.le_refl _) _).setCell (p := ⟨w.heap.size, 4, none⟩) (Nat.le_refl _) _, by simpa [sem] using (n1.set_ 3 (.bool true)).set_ 4 (.bool ((m : Int) == 0)), (n2.far (p := ⟨w.heap.size, 3, none⟩) (by simp) _).far (p := ⟨w.heap.size, 4, none⟩) (by simp) _, (n3.far (p := ⟨w.heap.size, 3, none⟩) (by simp) _).far (p := ⟨w.heap.size, 4, none⟩) (by simp) _⟩
      · go_wp2
        go_meet
        case rel => exact ⟨hO, B1, n1, n2, n3⟩
    case rest =>
      clear f0 f1 f2 f3 f4 f5 f6 r0 r1 r2 r3 r4 r5 r6 n1 n2 n3 B1 hO
      obtain ⟨hO, B1, n1, n2, n3⟩ := hcut
      obtain ⟨E, hE⟩ : ∃ E, E = sem op em m := ⟨_, rfl⟩
      rw [← hE] at n1
      have HE := hide hE
      clear hE
      have hX2 := n3.lt
      have hX0 := n1.lt
      have hX1 := n2.lt
      obtain ⟨r0, r1, r2, r3, r4, r5, r6⟩ := at7 n1
      obtain ⟨t0, t1, t2, t3, t4, t5, t6⟩ := at7 n2
      obtain ⟨g0, g1, g2, g3, g4, g5, g6⟩ := fr7 n2
      obtain ⟨s0, s1, s2, s3, s4⟩ := at5 n3
      obtain ⟨h0, h1, h2, h3, h4⟩ := fr5 n3
      cases E
      · rcases Nat.eq_zero_or_pos m with hm0 | hm0
        · have hm1 : (m : Int) ≤ 0 := by omega
          have HM := hide hm0
          have HP0 := hide (show ps.map Pk.abs = [] by rw [List.map_eq_nil_iff]; exact List.eq_nil_of_length_eq_zero (by rw [hQ.len]; exact hm0))
          clear hm0
          go_wp2_with fail
          go_region
          go_wp2
          have X1 := below_put5 (below_put7 B1 (show w.heap.size ≤ w.heap.size + 1 by omega) (u0 := .int .i64 sn) (u1 := .int .i64 ne) (u2 := .slice Q1 m cap1) (u3 := .bool true) (u4 := .bool false) (u5 := .int .i64 ack) (u6 := .int .i64 tak)) (show w.heap.size ≤ w.heap.size + 1 + 1 by omega) (u0 := .int .i64 sn) (u1 := .int .i64 ne) (u2 := .int .i64 0) (u3 := .int .i64 1) (u4 := .slice none 0 0)
          refine bodyPost_ret (run_res_two rfl rfl rfl (((blk_far5 (blk_put7 n2) (by omega)).alloc _).drew) (((blk_put5 (blk_far7 n3 (by omega))).alloc _).drew) _ _ Try.underlying26 rfl (by kernel_rfl) Try.underlying32 rfl (by kernel_rfl)) rfl ⟨Q1, cap1, qs, ⟨1, none, 0, 0, []⟩, ?_, (((((hO.put7 (by omega)).put5 (by omega)).alloc _).drew).fresh).weak (by omega), own1_blank _ _ _, by rw [← HE.out]; unfold spk; rw [HP0.out]; rfl, (X1.alloc X1.size _).drew⟩
          rw [← HE.out, show smd false m = 0 by unfold smd; rw [if_neg (by rw [HM.out]; simp)]]
        · obtain ⟨b, o, p, rfl, hbw, HX, c0, c1, hp⟩ := hO.fresh.rd.pk hm0
          simp only [Nat.zero_mul, Nat.add_zero] at c0 c1
          have HPH := hide (show p.abs = spk false (ps.map Pk.abs) from spk_head HX.out hO.abs)
          have hm1 : (0 : Int) < (m : Int) := by omega
          rcases Nat.lt_or_ge 1 m with hm2 | hm2
          · have hm3 : (0 : Int) < (m : Int) - 1 := by omega
            go_wp2_with fail
            refine (clone_any p.id p.A p.n p.c p.l _ (hp.alloc _).1 hp.2.2.2).mono ?_
            rintro e w4 ⟨A4, c4, rfl, hown4, hc4, hb4⟩
            have HH := hide hown4
            have B4 := (B1.alloc B1.size _).trans (hb4.mono (B1.alloc B1.size _).size)
            have hz4 : wc.heap.size + 1 ≤ w4.heap.size := by have := hb4.size; simp at this; omega
            have n4 : Blk w4 wc.heap.size 32 #[.int .i64 sn, .int .i64 ne, .int .i64 0, .int .i64 1, .slice none 0 0] := (Blk.new wc _ _).below hb4 (by simp)
            have p1 := (n1.alloc _).below hb4 (n1.alloc _).lt
            have p2 := (n2.alloc _).below hb4 (n2.alloc _).lt
            have p3 := (n3.alloc _).below hb4 (n3.alloc _).lt
            obtain ⟨hpay4, hpb4⟩ := pay_own (id := p.id) hown4 hp.2.1 hc4 hp.2.2.2
            have HPY := hide hpay4
            have HPB := hide hpb4
            clear hown4 hpay4 hpb4
            obtain ⟨r0, r1, r2, r3, r4, r5, r6⟩ := at7 p1
            obtain ⟨t0, t1, t2, t3, t4, t5, t6⟩ := at7 p2
            obtain ⟨g0, g1, g2, g3, g4, g5, g6⟩ := fr7 p2
            obtain ⟨s0, s1, s2, s3, s4⟩ := at5 p3
            obtain ⟨h0, h1, h2, h3, h4⟩ := fr5 p3
            obtain ⟨y0, y1, y2, y3, y4⟩ := at5 n4
            obtain ⟨z0, z1, z2, z3, z4⟩ := fr5 n4
            have hO4 := (hO.alloc _).below hb4
            have hAp := hO.apart (Nat.le_refl wc.heap.size)
            go_wp2_with fail
            go_region
            go_wp2
            have hgw : w.heap.size ≤ wc.heap.size := by omega
            have hOV := ((hO4.setA (i := 3) (u := .int .i64 p.id) hAp).setA (i := 4) (u := .slice A4 p.n c4) hAp).setA (i := 2) (u := .int .i64 1) hAp
            have BV := ((B4.setCell (p := ⟨wc.heap.size, 3, none⟩) hgw (.int .i64 p.id)).setCell (p := ⟨wc.heap.size, 4, none⟩) hgw (.slice A4 p.n c4)).setCell (p := ⟨wc.heap.size, 2, none⟩) hgw (.int .i64 1)
            have q2 := ((p2.far (p := ⟨wc.heap.size, 3, none⟩) (by simp; omega) (.int .i64 p.id)).far (p := ⟨wc.heap.size, 4, none⟩) (by simp; omega) (.slice A4 p.n c4)).far (p := ⟨wc.heap.size, 2, none⟩) (by simp; omega) (.int .i64 1)
            have q3 := ((p3.far (p := ⟨wc.heap.size, 3, none⟩) (by simp; omega) (.int .i64 p.id)).far (p := ⟨wc.heap.size, 4, none⟩) (by simp; omega) (.slice A4 p.n c4)).far (p := ⟨wc.heap.size, 2, none⟩) (by simp; omega) (.int .i64 1)
            have hW4 : Own1 (wc.heap.size + 1) w4 ⟨p.id, A4, p.n, c4, p.l⟩ := ⟨HPY.out, fun h0 a ha => by have := HPB.out h0 a ha; simp at this; exact this⟩
            have hWV := ((hW4.set (g := wc.heap.size) (i := 3) (u := .int .i64 p.id) (by omega)).set (g := wc.heap.size) (i := 4) (u := .slice A4 p.n c4) (by omega)).set (g := wc.heap.size) (i := 2) (u := .int .i64 1) (by omega)
            exact bodyPost_ret (run_res_two rfl rfl rfl (blk_far5 (blk_put7 q2) (by omega)).drew (blk_put5 (blk_far7 q3 (by omega))).drew _ _ Try.underlying26 rfl (by kernel_rfl) Try.underlying32 rfl (by kernel_rfl)) rfl ⟨some ⟨b, o, none⟩, cap1, qs, ⟨p.id, A4, p.n, c4, p.l⟩, by rw [← HE.out, show smd false m = 1 by unfold smd; rw [if_pos (by simp; omega)]], ((((hOV.put7 (by omega)).put5 (by omega)).drew).fresh).weak (by omega), (((hWV.put7 (by omega)).put5 (by omega)).drew).weak (by omega), by rw [← HE.out]; exact HPH.out, (below_put5 (below_put7 BV (by omega)) (by omega)).drew⟩
          · have hm3 : (m : Int) - 1 ≤ 0 := by omega
            go_wp2_with fail
            refine (clone_any p.id p.A p.n p.c p.l _ (hp.alloc _).1 hp.2.2.2).mono ?_
            rintro e w4 ⟨A4, c4, rfl, hown4, hc4, hb4⟩
            have HH := hide hown4
            have B4 := (B1.alloc B1.size _).trans (hb4.mono (B1.alloc B1.size _).size)
            have hz4 : wc.heap.size + 1 ≤ w4.heap.size := by have := hb4.size; simp at this; omega
            have n4 : Blk w4 wc.heap.size 32 #[.int .i64 sn, .int .i64 ne, .int .i64 0, .int .i64 1, .slice none 0 0] := (Blk.new wc _ _).below hb4 (by simp)
            have p1 := (n1.alloc _).below hb4 (n1.alloc _).lt
            have p2 := (n2.alloc _).below hb4 (n2.alloc _).lt
            have p3 := (n3.alloc _).below hb4 (n3.alloc _).lt
            obtain ⟨hpay4, hpb4⟩ := pay_own (id := p.id) hown4 hp.2.1 hc4 hp.2.2.2
            have HPY := hide hpay4
            have HPB := hide hpb4
            clear hown4 hpay4 hpb4
            obtain ⟨r0, r1, r2, r3, r4, r5, r6⟩ := at7 p1
            obtain ⟨t0, t1, t2, t3, t4, t5, t6⟩ := at7 p2
            obtain ⟨g0, g1, g2, g3, g4, g5, g6⟩ := fr7 p2
            obtain ⟨s0, s1, s2, s3, s4⟩ := at5 p3
            obtain ⟨h0, h1, h2, h3, h4⟩ := fr5 p3
            obtain ⟨y0, y1, y2, y3, y4⟩ := at5 n4
            obtain ⟨z0, z1, z2, z3, z4⟩ := fr5 n4
            have hO4 := (hO.alloc _).below hb4
            have hAp := hO.apart (Nat.le_refl wc.heap.size)
            go_wp2_with fail
            go_region
            go_wp2
            have hgw : w.heap.size ≤ wc.heap.size := by omega
            have hOV := ((hO4.setA (i := 3) (u := .int .i64 p.id) hAp).setA (i := 4) (u := .slice A4 p.n c4) hAp)
            have BV := ((B4.setCell (p := ⟨wc.heap.size, 3, none⟩) hgw (.int .i64 p.id)).setCell (p := ⟨wc.heap.size, 4, none⟩) hgw (.slice A4 p.n c4))
            have q2 := ((p2.far (p := ⟨wc.heap.size, 3, none⟩) (by simp; omega) (.int .i64 p.id)).far (p := ⟨wc.heap.size, 4, none⟩) (by simp; omega) (.slice A4 p.n c4))
            have q3 := ((p3.far (p := ⟨wc.heap.size, 3, none⟩) (by simp; omega) (.int .i64 p.id)).far (p := ⟨wc.heap.size, 4, none⟩) (by simp; omega) (.slice A4 p.n c4))
            have hW4 : Own1 (wc.heap.size + 1) w4 ⟨p.id, A4, p.n, c4, p.l⟩ := ⟨HPY.out, fun h0 a ha => by have := HPB.out h0 a ha; simp at this; exact this⟩
            have hWV := ((hW4.set (g := wc.heap.size) (i := 3) (u := .int .i64 p.id) (by omega)).set (g := wc.heap.size) (i := 4) (u := .slice A4 p.n c4) (by omega))
            exact bodyPost_ret (run_res_two rfl rfl rfl (blk_far5 (blk_put7 q2) (by omega)).drew (blk_put5 (blk_far7 q3 (by omega))).drew _ _ Try.underlying26 rfl (by kernel_rfl) Try.underlying32 rfl (by kernel_rfl)) rfl ⟨some ⟨b, o, none⟩, cap1, qs, ⟨p.id, A4, p.n, c4, p.l⟩, by rw [← HE.out, show smd false m = 0 by unfold smd; rw [if_neg (by simp; omega)]], ((((hOV.put7 (by omega)).put5 (by omega)).drew).fresh).weak (by omega), (((hWV.put7 (by omega)).put5 (by omega)).drew).weak (by omega), by rw [← HE.out]; exact HPH.out, (below_put5 (below_put7 BV (by omega)) (by omega)).drew⟩
      · rcases Nat.eq_zero_or_pos m with hm0 | hm0
        · have hm1 : (m : Int) ≤ 0 := by omega
          have HM := hide hm0
          clear hm0
          go_wp2_with fail
          go_region
          go_wp2
          have X1 := below_put5 (below_put7 B1 (show w.heap.size ≤ w.heap.size + 1 by omega) (u0 := .int .i64 sn) (u1 := .int .i64 ne) (u2 := .slice Q1 m cap1) (u3 := .bool true) (u4 := .bool true) (u5 := .int .i64 ack) (u6 := .int .i64 tak)) (show w.heap.size ≤ w.heap.size + 1 + 1 by omega) (u0 := .int .i64 sn) (u1 := .int .i64 ne) (u2 := .int .i64 0) (u3 := .int .i64 1) (u4 := .slice none 0 0)
          refine bodyPost_ret (run_res_two rfl rfl rfl (((blk_far5 (blk_put7 n2) (by omega)).alloc _).drew) (((blk_put5 (blk_far7 n3 (by omega))).alloc _).drew) _ _ Try.underlying26 rfl (by kernel_rfl) Try.underlying32 rfl (by kernel_rfl)) rfl ⟨Q1, cap1, qs, ⟨1, none, 0, 0, []⟩, ?_, (((((hO.put7 (by omega)).put5 (by omega)).alloc _).drew).fresh).weak (by omega), own1_blank _ _ _, by rw [← HE.out]; rfl, (X1.alloc X1.size _).drew⟩
          rw [← HE.out, show smd true m = 0 by unfold smd; rw [if_pos rfl, if_neg (by rw [HM.out]; omega)]]
        · have hm1 : (0 : Int) < (m : Int) := by omega
          go_wp2_with fail
          go_region
          go_wp2
          have X1 := below_put5 (below_put7 B1 (show w.heap.size ≤ w.heap.size + 1 by omega) (u0 := .int .i64 sn) (u1 := .int .i64 ne) (u2 := .slice Q1 m cap1) (u3 := .bool true) (u4 := .bool true) (u5 := .int .i64 ack) (u6 := .int .i64 tak)) (show w.heap.size ≤ w.heap.size + 1 + 1 by omega) (u0 := .int .i64 sn) (u1 := .int .i64 ne) (u2 := .int .i64 1) (u3 := .int .i64 1) (u4 := .slice none 0 0)
          refine bodyPost_ret (run_res_two rfl rfl rfl (((blk_far5 (blk_put7 n2) (by omega)).alloc _).drew) (((blk_put5 (blk_far7 n3 (by omega))).alloc _).drew) _ _ Try.underlying26 rfl (by kernel_rfl) Try.underlying32 rfl (by kernel_rfl)) rfl ⟨Q1, cap1, qs, ⟨1, none, 0, 0, []⟩, ?_, (((((hO.put7 (by omega)).put5 (by omega)).alloc _).drew).fresh).weak (by omega), own1_blank _ _ _, by rw [← HE.out]; rfl, (X1.alloc X1.size _).drew⟩
          rw [← HE.out, show smd true m = 1 by unfold smd; rw [if_pos rfl, if_pos hm0]]
end Go.Proofs.Ytobljnbpokijdaa
