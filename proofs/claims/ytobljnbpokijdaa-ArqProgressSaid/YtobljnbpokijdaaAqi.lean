/-
  The walks of Queue and Send in the reference. Their contracts.
-/
import Derived.Test.YtobljnbpokijdaaAqh
namespace Go.Proofs.Ytobljnbpokijdaa
set_option linter.unusedVariables false
set_option linter.unusedSimpArgs false
open Go.RowKit

theorem own_put7 {base : Nat} {W : World} {e : TypeId} {size g : Nat} {v : Value} {n : Nat} {xs : List Value} {u0 u1 u2 u3 u4 u5 u6 : Value} (h : W.ownsRow base e size v n xs) (hg : g < base) : ((((((((W).setCell ⟨g, 0, none⟩ u0).setCell ⟨g, 1, none⟩ u1).setCell ⟨g, 2, none⟩ u2).setCell ⟨g, 3, none⟩ u3).setCell ⟨g, 4, none⟩ u4).setCell ⟨g, 5, none⟩ u5).setCell ⟨g, 6, none⟩ u6).ownsRow base e size v n xs := own_fills [(0, u0), (1, u1), (2, u2), (3, u3), (4, u4), (5, u5), (6, u6)] (fun e => by have := (h.lt _ e).1; omega) h
theorem own_put5 {base : Nat} {W : World} {e : TypeId} {size g : Nat} {v : Value} {n : Nat} {xs : List Value} {u0 u1 u2 u3 u4 : Value} (h : W.ownsRow base e size v n xs) (hg : g < base) : ((((((W).setCell ⟨g, 0, none⟩ u0).setCell ⟨g, 1, none⟩ u1).setCell ⟨g, 2, none⟩ u2).setCell ⟨g, 3, none⟩ u3).setCell ⟨g, 4, none⟩ u4).ownsRow base e size v n xs := own_fills [(0, u0), (1, u1), (2, u2), (3, u3), (4, u4)] (fun e => by have := (h.lt _ e).1; omega) h
theorem own_put2 {base : Nat} {W : World} {e : TypeId} {size g : Nat} {v : Value} {n : Nat} {xs : List Value} {u0 u1 : Value} (h : W.ownsRow base e size v n xs) (hg : g < base) : (((W).setCell ⟨g, 0, none⟩ u0).setCell ⟨g, 1, none⟩ u1).ownsRow base e size v n xs := own_fills [(0, u0), (1, u1)] (fun e => by have := (h.lt _ e).1; omega) h
theorem own_set {base : Nat} {W : World} {e : TypeId} {size g i : Nat} {v : Value} {n : Nat} {xs : List Value} {u : Value} (h : W.ownsRow base e size v n xs) (hg : g < base) : (W.setCell ⟨g, i, none⟩ u).ownsRow base e size v n xs := own_fills [(i, u)] (fun e => by have := (h.lt _ e).1; omega) h
/-- A queue that reads as a list. -/
structure Has (w : World) (Q : Option Addr) (m cap : Nat) (qs : List Pk) (L : List Pkt) : Prop where
  rd : PRd w Q m qs
  abs : qs.map Pk.abs = L
  cap_ : m ≤ cap
theorem Has.below {w w' : World} {Q : Option Addr} {m cap : Nat} {qs : List Pk} {L : List Pkt} (h : Has w Q m cap qs L) (hb : Below w.heap.size w w') : Has w' Q m cap qs L := ⟨h.rd.below hb, h.abs, h.cap_⟩
theorem Fresh.has {base : Nat} {w : World} {Q : Option Addr} {m cap : Nat} {qs : List Pk} {L : List Pkt} (h : Fresh base w Q m cap qs L) : Has w Q m cap qs L := ⟨h.rd, h.abs, h.cap_⟩
theorem rd2_pk {w : World} {p : Pk} {g : Nat} {t : TypeId} (h : Blk w g t #[.int .i64 p.id, .slice p.A p.n p.c]) : Rd w 2 (some ⟨g, 0, none⟩) 1 (pv [p]) := by
  refine ⟨by simp [pv, Pk.cells], fun _ => ⟨g, 0, rfl, h.lt, fun j u hu => ?_⟩⟩
  rw [Nat.zero_add, h.cell]
  simpa [pv, Pk.cells] using hu
/-- Is a packet refused? -/
def qbad (id : Int) (n : Nat) : Bool := dblank id n || decide (251 < n) || (((dpk id n : Nat) : Int) != 0)
theorem qbad_cases (id : Int) (n : Nat) : (dblank id n = true ∧ qbad id n = true) ∨ (dblank id n = false ∧ 251 < n ∧ qbad id n = true) ∨ (dblank id n = false ∧ n ≤ 251 ∧ qbad id n = (((dpk id n : Nat) : Int) != 0)) := by
  unfold qbad
  cases dblank id n
  · by_cases h : 251 < n
    · exact .inr (.inl ⟨rfl, h, by simp [h]⟩)
    · exact .inr (.inr ⟨rfl, by omega, by simp [h]⟩)
  · exact .inl ⟨rfl, by simp⟩
theorem qerr_bad (id : Int) (n m : Nat) : qerr id n m = if qbad id n then 1 else if 64 ≤ m then 8 else 0 := by
  unfold qerr
  have : (dblank id n = true ∨ 251 < n ∨ dpk id n ≠ 0) ↔ qbad id n = true := by
    unfold qbad
    simp only [Bool.or_eq_true, decide_eq_true_eq, bne_iff_ne, or_assoc]
    refine or_congr Iff.rfl (or_congr Iff.rfl ?_)
    omega
  by_cases h : qbad id n = true
  · rw [if_pos (this.2 h), if_pos h]
  · rw [if_neg (fun e => h (this.1 e)), if_neg h]
/-- A queue that a call handed back lies where the queue lay that came in, or in new memory. -/
def Loc (w : World) (Q : Option Addr) (m : Nat) (Q' : Option Addr) (m' : Nat) : Prop := 0 < m' → ∀ a, Q' = some a → (0 < m ∧ Q = some a) ∨ w.heap.size ≤ a.block
theorem Loc.same (w : World) (Q : Option Addr) (m : Nat) : Loc w Q m Q m := fun h0 a ha => .inl ⟨h0, ha⟩
theorem Loc.own {w w2 : World} {base : Nat} {Q A : Option Addr} {m n n2 c : Nat} {e : TypeId} {xs : List Value} (h : w2.ownsRow base e 2 (.slice A n c) n2 xs) (hb : w.heap.size ≤ base) : Loc w Q m A n := by
  intro _ a ha
  subst ha
  exact .inr (Nat.le_trans hb (h.lt a.block rfl).1)
/-- What the reference's Queue leaves. -/
def RQPost (Q : Option Addr) (m : Nat) (sn ne ack tak : Int) (op em : Bool) (E : Nat) (L : List Pkt) (w : World) (e : Ending) (w' : World) : Prop :=
  ∃ Q' m' cap' qs, e = .returned (.tuple #[.agg #[.int .i64 sn, .int .i64 ne, .slice Q' m' cap', .bool op, .bool em, .int .i64 ack, .int .i64 tak], .int .i64 ((E : Nat) : Int)]) ∧ Has w' Q' m' cap' qs L ∧ Loc w Q m Q' m' ∧ Below w.heap.size w w'
theorem rq_mk {Q : Option Addr} {m : Nat} {sn ne ack tak : Int} {op em : Bool} {E E' : Nat} {L : List Pkt} {w w' : World} {Q' : Option Addr} {m' cap' : Nat} {qs : List Pk} (h : E = E') (h1 : Has w' Q' m' cap' qs L) (hl : Loc w Q m Q' m') (h2 : Below w.heap.size w w') : RQPost Q m sn ne ack tak op em E L w (.returned (.tuple #[.agg #[.int .i64 sn, .int .i64 ne, .slice Q' m' cap', .bool op, .bool em, .int .i64 ack, .int .i64 tak], .int .i64 ((E' : Nat) : Int)])) w' :=
  ⟨Q', m', cap', qs, by rw [h], h1, hl, h2⟩
set_option maxHeartbeats 4000000 in
theorem rqueue_any (sn ne ack tak : Int) (op em : Bool) (Q : Option Addr) (m cap : Nat) (ps : List Pk) (id : Int) (A : Option Addr) (n c : Nat) (l : List Nat) (w : World) (hQ : PRd w Q m ps) (hmc : m ≤ cap) (hm : m ≤ 100000) (hp : Pay w ⟨id, A, n, c, l⟩) :
    Calls Try.prog 12 #[.agg #[.int .i64 sn, .int .i64 ne, .slice Q m cap, .bool op, .bool em, .int .i64 ack, .int .i64 tak], .agg #[.int .i64 id, .slice A n c]] w (RQPost Q m sn ne ack tak op em (qerr id n m) (qadd (ps.map Pk.abs) (id, l)) w) := by
  have hB : Below w.heap.size w (((w.alloc (.cells #[.int .i64 sn, .int .i64 ne, .slice Q m cap, .bool op, .bool em, .int .i64 ack, .int .i64 tak] 26)).alloc (.cells #[.int .i64 id, .slice A n c] 30)).alloc (.cells #[.int .i64 0, .int .i64 0, .slice none 0 0, .bool false, .bool false, .int .i64 0, .int .i64 0] 26)) := ((((Below.refl _ _).alloc (Nat.le_refl _) _).alloc (by simp) _).alloc (by simp; omega) _)
  have k1 : Blk (((w.alloc (.cells #[.int .i64 sn, .int .i64 ne, .slice Q m cap, .bool op, .bool em, .int .i64 ack, .int .i64 tak] 26)).alloc (.cells #[.int .i64 id, .slice A n c] 30)).alloc (.cells #[.int .i64 0, .int .i64 0, .slice none 0 0, .bool false, .bool false, .int .i64 0, .int .i64 0] 26)) w.heap.size 26 #[.int .i64 sn, .int .i64 ne, .slice Q m cap, .bool op, .bool em, .int .i64 ack, .int .i64 tak] := (((Blk.new _ _ _).alloc _).alloc _)
  have k2 : Blk (((w.alloc (.cells #[.int .i64 sn, .int .i64 ne, .slice Q m cap, .bool op, .bool em, .int .i64 ack, .int .i64 tak] 26)).alloc (.cells #[.int .i64 id, .slice A n c] 30)).alloc (.cells #[.int .i64 0, .int .i64 0, .slice none 0 0, .bool false, .bool false, .int .i64 0, .int .i64 0] 26)) (w.heap.size + 1) 30 #[.int .i64 id, .slice A n c] := ((blk_new2 (by simp)).alloc _)
  have k3 : Blk (((w.alloc (.cells #[.int .i64 sn, .int .i64 ne, .slice Q m cap, .bool op, .bool em, .int .i64 ack, .int .i64 tak] 26)).alloc (.cells #[.int .i64 id, .slice A n c] 30)).alloc (.cells #[.int .i64 0, .int .i64 0, .slice none 0 0, .bool false, .bool false, .int .i64 0, .int .i64 0] 26)) (w.heap.size + 2) 26 #[.int .i64 0, .int .i64 0, .slice none 0 0, .bool false, .bool false, .int .i64 0, .int .i64 0] := (blk_new2 (by simp))
  have HPL := hide hp.len
  have HL := hide hQ.len
  have HDZ := hide (dchk_zero0 id n)
  go_enter Try.func12, Try.ntmps12
  go_upto_region 1 with (fail)
  go_cut [5, 19] (fun s5 s19 wx => s5 = .int .i64 0 ∧ s19 = .bool (qbad id n) ∧ Below w.heap.size w wx ∧ Blk wx w.heap.size 26 #[.int .i64 sn, .int .i64 ne, .slice Q m cap, .bool op, .bool em, .int .i64 ack, .int .i64 tak] ∧ Blk wx (w.heap.size + 1) 30 #[.int .i64 id, .slice A n c] ∧ Blk wx (w.heap.size + 2) 26 #[.int .i64 0, .int .i64 0, .slice none 0 0, .bool false, .bool false, .int .i64 0, .int .i64 0])
  case first =>
    rcases qbad_cases id n with ⟨hb, he⟩ | ⟨hb, h1, he⟩ | ⟨hb, h1, he⟩
    · have HE := hide he
      have HB := hide hb
      clear he hb
      go_wp2_with fail
      refine (rblank_any id A n c _).mono ?_
      rintro e w2 ⟨rfl, hb2⟩
      rw [HB.out]
      go_wp2
      go_meet
      case rel => exact ⟨rfl, by rw [HE.out], hB.trans (hb2.mono hB.size), k1.below hb2 k1.lt, k2.below hb2 k2.lt, k3.below hb2 k3.lt⟩
    · have HE := hide he
      have HB := hide hb
      have h1' : (251 : Int) < (n : Int) := by omega
      clear he hb
      go_wp2_with fail
      refine (rblank_any id A n c _).mono ?_
      rintro e w2 ⟨rfl, hb2⟩
      rw [HB.out]
      obtain ⟨s0, s1⟩ := at2 (k2.below hb2 k2.lt)
      go_wp2
      go_meet
      case rel => exact ⟨rfl, by rw [HE.out], hB.trans (hb2.mono hB.size), k1.below hb2 k1.lt, k2.below hb2 k2.lt, k3.below hb2 k3.lt⟩
    · have HE := hide he
      have HB := hide hb
      have h1' : (n : Int) ≤ (251 : Int) := by omega
      clear he hb
      go_wp2_with fail
      refine (rblank_any id A n c _).mono ?_
      rintro e w2 ⟨rfl, hb2⟩
      rw [HB.out]
      obtain ⟨s0, s1⟩ := at2 (k2.below hb2 k2.lt)
      go_wp2_with fail
      refine (rcheck_any 0 0 0 id A n c _).mono ?_
      rintro e w3 ⟨rfl, hb3⟩
      rw [HDZ.out]
      have hb2 := hb2.trans (hb3.mono hb2.size)
      go_wp2
      go_meet
      case rel => exact ⟨rfl, by rw [HE.out, decide_eq_false (show ¬ (251 : Int) < (n : Int) by omega), Bool.false_or], hB.trans (hb2.mono hB.size), k1.below hb2 k1.lt, k2.below hb2 k2.lt, k3.below hb2 k3.lt⟩
  case rest =>
    obtain ⟨rfl, rfl, B1, n1, n2, n3⟩ := hcut
    have hX3 := n3.lt
    have hX1 := n1.lt
    have hX2 := n2.lt
    obtain ⟨r0, r1, r2, r3, r4, r5, r6⟩ := at7 n1
    obtain ⟨f0, f1, f2, f3, f4, f5, f6⟩ := fr7 n1
    obtain ⟨s0, s1⟩ := at2 n2
    obtain ⟨t0, t1, t2, t3, t4, t5, t6⟩ := at7 n3
    obtain ⟨g0, g1, g2, g3, g4, g5, g6⟩ := fr7 n3
    have HE := hide (qerr_bad id n m)
    have hQc := hQ.below B1
    clear k1 k2 k3 hB
    cases hbd : qbad id n with
    | true =>
      have HBD := hide hbd
      clear hbd
      go_wp2
      refine bodyPost_ret (run_res_cell rfl rfl rfl (blk_put7 n3) _ Try.underlying26 rfl (by kernel_rfl)) rfl (rq_mk (E' := 1) (by rw [HE.out, HBD.out]; rfl) (qs := ps) ?_ (Loc.same _ _ _) (below_put7 B1 (by omega)))
      rw [qadd_no HPL.out HL.out (by rw [HE.out, HBD.out]; simp)]
      exact ⟨hQ.below (below_put7 B1 (by omega)), rfl, hmc⟩
    | false =>
      have HBD := hide hbd
      clear hbd
      rcases Nat.lt_or_ge m 64 with hm64 | hm64
      · have hm64' : (m : Int) < 64 := by omega
        have HE0 := hide (show qerr id n m = 0 by rw [HE.out, HBD.out]; simp; omega)
        have K1 : ((wc.alloc (.cells #[] 30)).drew).ownsRow (w.heap.size + 3) 30 2 (.slice (some ⟨wc.heap.size, 0, none⟩) 0 0) 0 [] := own_drew (own_made2 rfl (by omega))
        have K2 : (((wc.alloc (.cells #[] 30)).alloc (.cells #[.int .i64 id, .slice A n c] 30)).drew).ownsRow (w.heap.size + 3) 30 2 (.slice (some ⟨wc.heap.size, 0, none⟩) 0 0) 0 [] := own_drew ((own_made2 rfl (by omega)).alloc _)
        have K3 : (((wc.alloc (.cells #[.int .i64 id, .slice A n c] 30)).alloc (.cells #[] 30)).drew).ownsRow (w.heap.size + 3) 30 2 (.slice (some ⟨wc.heap.size + 1, 0, none⟩) 0 0) 0 [] := own_drew (own_made2 (by simp) (by omega))
        have hle1 : ∀ k, (Value.slice (some ⟨wc.heap.size, 0, none⟩) 0 0).ownBlock = some k → w.heap.size ≤ k := by intro k hk; simp [Value.ownBlock] at hk; omega
        have hle3 : ∀ k, (Value.slice (some ⟨wc.heap.size + 1, 0, none⟩) 0 0).ownBlock = some k → w.heap.size ≤ k := by intro k hk; simp [Value.ownBlock] at hk; omega
        have hn1 : some w.heap.size ≠ (Value.slice (some ⟨wc.heap.size, 0, none⟩) 0 0).ownBlock := by simp [Value.ownBlock]; omega
        have hn2 : some (w.heap.size + 2) ≠ (Value.slice (some ⟨wc.heap.size, 0, none⟩) 0 0).ownBlock := by simp [Value.ownBlock]; omega
        have hn3 : some w.heap.size ≠ (Value.slice (some ⟨wc.heap.size + 1, 0, none⟩) 0 0).ownBlock := by simp [Value.ownBlock]; omega
        have hn4 : some (w.heap.size + 2) ≠ (Value.slice (some ⟨wc.heap.size + 1, 0, none⟩) 0 0).ownBlock := by simp [Value.ownBlock]; omega
        have hn5 : some (wc.heap.size + 1) ≠ (Value.slice (some ⟨wc.heap.size, 0, none⟩) 0 0).ownBlock := by simp [Value.ownBlock]
        have hn6 : some wc.heap.size ≠ (Value.slice (some ⟨wc.heap.size + 1, 0, none⟩) 0 0).ownBlock := by simp [Value.ownBlock]
        have X2 : Blk (((wc.alloc (.cells #[] 30)).alloc (.cells #[.int .i64 id, .slice A n c] 30)).drew) (wc.heap.size + 1) 30 #[.int .i64 id, .slice A n c] := (blk_new2 (by simp)).drew
        have X3 : Blk (((wc.alloc (.cells #[.int .i64 id, .slice A n c] 30)).alloc (.cells #[] 30)).drew) wc.heap.size 30 #[.int .i64 id, .slice A n c] := ((Blk.new _ _ _).alloc _).drew
        have G1 := (B1.alloc B1.size (.cells #[] 30)).drew
        have G2 := ((B1.alloc B1.size (.cells #[] 30)).alloc (B1.alloc B1.size _).size (.cells #[.int .i64 id, .slice A n c] 30)).drew
        have G3 := ((B1.alloc B1.size (.cells #[.int .i64 id, .slice A n c] 30)).alloc (B1.alloc B1.size _).size (.cells #[] 30)).drew
        have z1 : w.heap.size + 3 ≤ (wc.alloc (.cells #[] 30)).drew.heap.size := by simp; omega
        have z2 : w.heap.size + 3 ≤ ((wc.alloc (.cells #[] 30)).alloc (.cells #[.int .i64 id, .slice A n c] 30)).drew.heap.size := by simp; omega
        have z3 : w.heap.size + 3 ≤ ((wc.alloc (.cells #[.int .i64 id, .slice A n c] 30)).alloc (.cells #[] 30)).drew.heap.size := by simp; omega
        go_wp2_with fail
        go_region_law (first
          | (refine step_append_rd _ rfl (.tmp 26) (.tmp 28) _ rfl (w.heap.size + 3) 30 (.agg #[.int .i64 0, .slice none 0 0]) 2 32 underP infoP rfl (by omega) (.slice (some ⟨wc.heap.size, 0, none⟩) 0 0) 0 [] (by simp [Act.eval, Act.put]) K1 Q m cap (pv ps) (by simp [Act.eval, Act.put]) (hQ.below G1).1 (pv_one _) (by omega) (by omega) z1 ?_; intro v1 w1 hown1 hg1 _; rw [Nat.zero_add, List.nil_append] at hown1; have n1 := (n1.alloc (.cells #[] 30)).drew.grown hg1 hn1; have n3 := (n3.alloc (.cells #[] 30)).drew.grown hg1 hn2; have B1 := (G1).grown hg1 (by simp; omega) hle1; obtain ⟨r0, r1, r2, r3, r4, r5, r6⟩ := at7 n1; obtain ⟨f0, f1, f2, f3, f4, f5, f6⟩ := fr7 n1; have hs1 : w.heap.size + 3 ≤ w1.heap.size := (by have := n3.lt; have := (hown1.lt); exact Nat.le_trans z1 hg1.size); have n2 := (n2.alloc (.cells #[] 30)).drew.grown hg1 (by simp [Value.ownBlock]; omega); obtain ⟨s0, s1⟩ := at2 n2; obtain ⟨x0, x1, x2, x3, x4, x5, x6⟩ := at7 (n1.alloc (.cells #[.int .i64 id, .slice A n c] 30)); obtain ⟨y0, y1, y2, y3, y4, y5, y6⟩ := fr7 (n1.alloc (.cells #[.int .i64 id, .slice A n c] 30)))
          | (refine step_append_rd _ rfl (.tmp 26) (.tmp 28) _ rfl (w.heap.size + 3) 30 (.agg #[.int .i64 0, .slice none 0 0]) 2 32 underP infoP rfl (by omega) (.slice (some ⟨wc.heap.size, 0, none⟩) 0 0) 0 [] (by simp [Act.eval, Act.put]) K2 Q m cap (pv ps) (by simp [Act.eval, Act.put]) (hQ.below G2).1 (pv_one _) (by omega) (by omega) z2 ?_; intro v1 w1 hown1 hg1 _; rw [Nat.zero_add, List.nil_append] at hown1; have n1 := ((n1.alloc (.cells #[] 30)).alloc (.cells #[.int .i64 id, .slice A n c] 30)).drew.grown hg1 hn1; have n3 := ((n3.alloc (.cells #[] 30)).alloc (.cells #[.int .i64 id, .slice A n c] 30)).drew.grown hg1 hn2; have B1 := (G2).grown hg1 (by simp; omega) hle1; obtain ⟨r0, r1, r2, r3, r4, r5, r6⟩ := at7 n1; obtain ⟨f0, f1, f2, f3, f4, f5, f6⟩ := fr7 n1; have hs1 : w.heap.size + 3 ≤ w1.heap.size := Nat.le_trans z2 hg1.size; have X4 := X2.grown hg1 hn5)
          | (refine step_append_rd _ rfl (.tmp 26) (.tmp 28) _ rfl (w.heap.size + 3) 30 (.agg #[.int .i64 0, .slice none 0 0]) 2 32 underP infoP rfl (by omega) (.slice (some ⟨wc.heap.size + 1, 0, none⟩) 0 0) 0 [] (by simp [Act.eval, Act.put]) K3 Q m cap (pv ps) (by simp [Act.eval, Act.put]) (hQ.below G3).1 (pv_one _) (by omega) (by omega) z3 ?_; intro v1 w1 hown1 hg1 _; rw [Nat.zero_add, List.nil_append] at hown1; have n1 := ((n1.alloc (.cells #[.int .i64 id, .slice A n c] 30)).alloc (.cells #[] 30)).drew.grown hg1 hn3; have n3 := ((n3.alloc (.cells #[.int .i64 id, .slice A n c] 30)).alloc (.cells #[] 30)).drew.grown hg1 hn4; have B1 := (G3).grown hg1 (by simp; omega) hle3; obtain ⟨r0, r1, r2, r3, r4, r5, r6⟩ := at7 n1; obtain ⟨f0, f1, f2, f3, f4, f5, f6⟩ := fr7 n1; have hs1 : w.heap.size + 3 ≤ w1.heap.size := Nat.le_trans z3 hg1.size; have X5 := X3.grown hg1 hn6)
          | (refine step_append_rd _ rfl (.tmp 29) (.tmp 31) _ rfl (w.heap.size + 3) 30 (.agg #[.int .i64 0, .slice none 0 0]) 2 32 underP infoP rfl (by omega) v1 m (pv ps) (by simp [Act.eval, Act.put]) (hown1.alloc (.cells #[.int .i64 id, .slice A n c] 30)) (some ⟨w1.heap.size, 0, none⟩) 1 1 (pv [⟨id, A, n, c, l⟩]) (by simp [Act.eval, Act.put]) (rd2_one w1 ⟨id, A, n, c, l⟩ 30 rfl) (pv_one _) (by omega) (by omega) (Nat.le_trans hs1 (by simp)) ?_; intro v2 w2 hown2 hg2 _; rw [← pv_append] at hown2; have B2 := (B1.alloc B1.size (.cells #[.int .i64 id, .slice A n c] 30)).grown hg2 ((B1.alloc B1.size (.cells #[.int .i64 id, .slice A n c] 30)).size) (fun k hk => by have := (hown1.lt k hk).1; omega); have n1 := (n1.alloc (.cells #[.int .i64 id, .slice A n c] 30)).grown hg2 (fun e => by have := (hown1.lt _ e.symm).1; omega); have n3 := (n3.alloc (.cells #[.int .i64 id, .slice A n c] 30)).grown hg2 (fun e => by have := (hown1.lt _ e.symm).1; omega); obtain ⟨A2, c2, hv2, hc2, _, _⟩ := own_rdn hown2; rw [hv2] at hown2; rw [hv2]; obtain ⟨r0, r1, r2, r3, r4, r5, r6⟩ := at7 n1; obtain ⟨f0, f1, f2, f3, f4, f5, f6⟩ := fr7 n1; obtain ⟨t0, t1, t2, t3, t4, t5, t6⟩ := at7 n3; obtain ⟨g0, g1, g2, g3, g4, g5, g6⟩ := fr7 n3)
          | (refine step_append_rd _ rfl (.tmp 29) (.tmp 31) _ rfl (w.heap.size + 3) 30 (.agg #[.int .i64 0, .slice none 0 0]) 2 32 underP infoP rfl (by omega) v1 m (pv ps) (by simp [Act.eval, Act.put]) hown1 (some ⟨wc.heap.size + 1, 0, none⟩) 1 1 (pv [⟨id, A, n, c, l⟩]) (by simp [Act.eval, Act.put]) (rd2_pk (p := ⟨id, A, n, c, l⟩) X4) (pv_one _) (by omega) (by omega) hs1 ?_; intro v2 w2 hown2 hg2 _; rw [← pv_append] at hown2; have B2 := (B1).grown hg2 (B1.size) (fun k hk => by have := (hown1.lt k hk).1; omega); have n1 := (n1).grown hg2 (fun e => by have := (hown1.lt _ e.symm).1; omega); have n3 := (n3).grown hg2 (fun e => by have := (hown1.lt _ e.symm).1; omega); obtain ⟨A2, c2, hv2, hc2, _, _⟩ := own_rdn hown2; rw [hv2] at hown2; rw [hv2]; obtain ⟨r0, r1, r2, r3, r4, r5, r6⟩ := at7 n1; obtain ⟨f0, f1, f2, f3, f4, f5, f6⟩ := fr7 n1; obtain ⟨t0, t1, t2, t3, t4, t5, t6⟩ := at7 n3; obtain ⟨g0, g1, g2, g3, g4, g5, g6⟩ := fr7 n3)
          | (refine step_append_rd _ rfl (.tmp 29) (.tmp 31) _ rfl (w.heap.size + 3) 30 (.agg #[.int .i64 0, .slice none 0 0]) 2 32 underP infoP rfl (by omega) v1 m (pv ps) (by simp [Act.eval, Act.put]) hown1 (some ⟨wc.heap.size, 0, none⟩) 1 1 (pv [⟨id, A, n, c, l⟩]) (by simp [Act.eval, Act.put]) (rd2_pk (p := ⟨id, A, n, c, l⟩) X5) (pv_one _) (by omega) (by omega) hs1 ?_; intro v2 w2 hown2 hg2 _; rw [← pv_append] at hown2; have B2 := (B1).grown hg2 (B1.size) (fun k hk => by have := (hown1.lt k hk).1; omega); have n1 := (n1).grown hg2 (fun e => by have := (hown1.lt _ e.symm).1; omega); have n3 := (n3).grown hg2 (fun e => by have := (hown1.lt _ e.symm).1; omega); obtain ⟨A2, c2, hv2, hc2, _, _⟩ := own_rdn hown2; rw [hv2] at hown2; rw [hv2]; obtain ⟨r0, r1, r2, r3, r4, r5, r6⟩ := at7 n1; obtain ⟨f0, f1, f2, f3, f4, f5, f6⟩ := fr7 n1; obtain ⟨t0, t1, t2, t3, t4, t5, t6⟩ := at7 n3; obtain ⟨g0, g1, g2, g3, g4, g5, g6⟩ := fr7 n3))
        all_goals
          have hf := own_put7 (own_set (g := w.heap.size) (i := 2) (u := .slice A2 (m + 1) c2) hown2 (by omega)) (show w.heap.size + 2 < w.heap.size + 3 by omega) (u0 := .int .i64 sn) (u1 := .int .i64 ne) (u2 := .slice A2 (m + 1) c2) (u3 := .bool op) (u4 := .bool em) (u5 := .int .i64 ack) (u6 := .int .i64 tak)
          have BF := below_put7 (B2.setCell (p := ⟨w.heap.size, 2, none⟩) (Nat.le_refl _) (.slice A2 (m + 1) c2)) (show w.heap.size ≤ w.heap.size + 2 by omega) (u0 := .int .i64 sn) (u1 := .int .i64 ne) (u2 := .slice A2 (m + 1) c2) (u3 := .bool op) (u4 := .bool em) (u5 := .int .i64 ack) (u6 := .int .i64 tak)
          go_wp2
          refine bodyPost_ret (run_res_cell rfl rfl rfl (blk_put7 (n3.far (p := ⟨w.heap.size, 2, none⟩) (by simp) _)) _ Try.underlying26 rfl (by kernel_rfl)) rfl (rq_mk (E' := 0) HE0.out (qs := ps ++ [⟨id, A, n, c, l⟩]) ?_ (Loc.own hown2 (by omega)) BF)
          rw [qadd_yes HPL.out HL.out HE0.out]
          obtain ⟨_, _, hv9, _, _, hr9⟩ := own_rdn hf
          injection hv9 with e1 _ _
          subst e1
          refine ⟨⟨hr9, fun q hq => ?_⟩, by rw [List.map_append]; rfl, hc2⟩
          rcases List.mem_append.1 hq with hq | hq
          · exact (hQ.2 q hq).below BF
          · simp only [List.mem_singleton] at hq
            subst hq
            exact hp.below BF
      · have hm64' : (64 : Int) ≤ (m : Int) := by omega
        have HE0 := hide (show qerr id n m = 8 by rw [HE.out, HBD.out]; simp; omega)
        go_wp2
        refine bodyPost_ret (run_res_cell rfl rfl rfl (blk_put7 n3) _ Try.underlying26 rfl (by kernel_rfl)) rfl (rq_mk (E' := 8) HE0.out (qs := ps) ?_ (Loc.same _ _ _) (below_put7 B1 (by omega)))
        rw [qadd_no HPL.out HL.out (by rw [HE0.out]; decide)]
        exact ⟨hQ.below (below_put7 B1 (by omega)), rfl, hmc⟩
end Go.Proofs.Ytobljnbpokijdaa
