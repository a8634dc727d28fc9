/-
  The walk of Take in the program. Its contract.
-/
import Derived.Test.YtobljnbpokijdaaAqg
namespace Go.Proofs.Ytobljnbpokijdaa
set_option linter.unusedVariables false
set_option linter.unusedSimpArgs false
open Go.RowKit

theorem Fresh.fills {base : Nat} {w : World} {Q : Option Addr} {m cap : Nat} {qs : List Pk} {L : List Pkt} (h : Fresh base w Q m cap qs L) {g : Nat} (hg : g < base) (l : List (Nat × Value)) : Fresh base (fills w g l) Q m cap qs L :=
  ⟨⟨rd_fills l h.rd.1 (fun h0 a ha => by have := h.at_ h0 a ha; omega), fun q hq => pay_fills l (h.rd.2 q hq) (fun h0 a ha => by have := h.low q hq h0 a ha; omega)⟩, h.abs, h.at_, h.low, h.cap_⟩
theorem Fresh.set {base : Nat} {w : World} {Q : Option Addr} {m cap : Nat} {qs : List Pk} {L : List Pkt} {g i : Nat} {u : Value} (h : Fresh base w Q m cap qs L) (hg : g < base) : Fresh base (w.setCell ⟨g, i, none⟩ u) Q m cap qs L := h.fills hg [(i, u)]
theorem Fresh.alloc {base : Nat} {w : World} {Q : Option Addr} {m cap : Nat} {qs : List Pk} {L : List Pkt} (h : Fresh base w Q m cap qs L) (o : Obj) : Fresh base (w.alloc o) Q m cap qs L := ⟨h.rd.alloc o, h.abs, h.at_, h.low, h.cap_⟩
theorem Fresh.drew {base : Nat} {w : World} {Q : Option Addr} {m cap : Nat} {qs : List Pk} {L : List Pkt} (h : Fresh base w Q m cap qs L) : Fresh base w.drew Q m cap qs L := ⟨h.rd.drew, h.abs, h.at_, h.low, h.cap_⟩
theorem Fresh.put7 {base : Nat} {W : World} {g : Nat} {Q : Option Addr} {m cap : Nat} {qs : List Pk} {L : List Pkt} {u0 u1 u2 u3 u4 u5 u6 : Value} (h : Fresh base W Q m cap qs L) (hg : g < base) : Fresh base ((((((((W).setCell ⟨g, 0, none⟩ u0).setCell ⟨g, 1, none⟩ u1).setCell ⟨g, 2, none⟩ u2).setCell ⟨g, 3, none⟩ u3).setCell ⟨g, 4, none⟩ u4).setCell ⟨g, 5, none⟩ u5).setCell ⟨g, 6, none⟩ u6) Q m cap qs L := h.fills hg [(0, u0), (1, u1), (2, u2), (3, u3), (4, u4), (5, u5), (6, u6)]
theorem Fresh.put5 {base : Nat} {W : World} {g : Nat} {Q : Option Addr} {m cap : Nat} {qs : List Pk} {L : List Pkt} {u0 u1 u2 u3 u4 : Value} (h : Fresh base W Q m cap qs L) (hg : g < base) : Fresh base ((((((W).setCell ⟨g, 0, none⟩ u0).setCell ⟨g, 1, none⟩ u1).setCell ⟨g, 2, none⟩ u2).setCell ⟨g, 3, none⟩ u3).setCell ⟨g, 4, none⟩ u4) Q m cap qs L := h.fills hg [(0, u0), (1, u1), (2, u2), (3, u3), (4, u4)]
theorem Fresh.put2 {base : Nat} {W : World} {g : Nat} {Q : Option Addr} {m cap : Nat} {qs : List Pk} {L : List Pkt} {u0 u1 : Value} (h : Fresh base W Q m cap qs L) (hg : g < base) : Fresh base (((W).setCell ⟨g, 0, none⟩ u0).setCell ⟨g, 1, none⟩ u1) Q m cap qs L := h.fills hg [(0, u0), (1, u1)]
/-- Without its first packet. -/
theorem Fresh.tail {base : Nat} {w : World} {b o : Nat} {m cap : Nat} {qs : List Pk} {L : List Pkt} (h : Fresh base w (some ⟨b, o, none⟩) m cap qs L) (h0 : 1 < m) : Fresh base w (some ⟨b, o + 2, none⟩) (m - 1) (m - 1) (qs.drop 1) (L.drop 1) := by
  refine ⟨by simpa using h.rd.drop (k := 1) (by omega), by rw [List.map_drop, h.abs], fun _ a ha => ?_, fun p hp => h.low p (List.mem_of_mem_drop hp), Nat.le_refl _⟩
  injection ha with ha
  subst ha
  exact h.at_ (by omega) ⟨b, o, none⟩ rfl
theorem Fresh.none_ (base : Nat) (w : World) (A : Option Addr) (cap : Nat) : Fresh base w A 0 cap [] [] := ⟨PRd.nil _ _, rfl, fun h => absurd h (by omega), fun p hp => by (cases hp), Nat.zero_le _⟩

/-- A side. -/
structure St where
  sn : Int
  ne : Int
  q : List Pkt
  op : Bool
  em : Bool
  ack : Int
  tak : Int
/-- What Take makes of a side and a valid PDU: what is acknowledged; then what is received. -/
def tkA (s : St) (pne : Int) : Bool := s.op && (pne != s.sn)
def tkP (s : St) (pne : Int) : Bool := tkA s pne && !s.em && decide (0 < s.q.length)
def tk1 (s : St) (pne : Int) : St := ⟨if tkA s pne then 1 - s.sn else s.sn, s.ne, if tkP s pne then s.q.drop 1 else s.q, !tkA s pne && s.op, !tkA s pne && s.em, if tkP s pne then s.ack + 1 else s.ack, s.tak⟩
def tkF (s : St) (psn id : Int) (n : Nat) : Bool := psn == s.ne && !dblank id n
def tk2 (s : St) (psn id : Int) (n : Nat) : St := ⟨s.sn, if psn == s.ne then 1 - s.ne else s.ne, s.q, s.op, s.em, s.ack, if tkF s psn id n then s.tak + 1 else s.tak⟩
set_option maxHeartbeats 2000000 in
/-- A PDU that is not valid changes nothing. -/
theorem take_no (sn ne ack tak : Int) (op em : Bool) (Q : Option Addr) (m cap : Nat) (ps : List Pk) (psn pne pmd id : Int) (A : Option Addr) (n c : Nat) (l : List Nat) (w : World) (hQ : PRd w Q m ps) (hm : m ≤ 100000) (hp : Pay w ⟨id, A, n, c, l⟩) (hbad : dchk psn pne pmd id n ≠ 0) :
    Calls Try.prog 16 #[.agg #[.int .i64 sn, .int .i64 ne, .slice Q m cap, .bool op, .bool em, .int .i64 ack, .int .i64 tak], .agg #[.int .i64 psn, .int .i64 pne, .int .i64 pmd, .int .i64 id, .slice A n c]] w fun e w' =>
      ∃ Q' cap' qs, e = .returned (.tuple #[.agg #[.int .i64 sn, .int .i64 ne, .slice Q' m cap', .bool op, .bool em, .int .i64 ack, .int .i64 tak], .agg #[.int .i64 0, .slice none 0 0], .bool false, .bool false]) ∧ Fresh w.heap.size w' Q' m cap' qs (ps.map Pk.abs) ∧ Below w.heap.size w w' := by
  have hB : Below w.heap.size w ((((w.alloc (.cells #[.int .i64 sn, .int .i64 ne, .slice Q m cap, .bool op, .bool em, .int .i64 ack, .int .i64 tak] 26)).alloc (.cells #[.int .i64 psn, .int .i64 pne, .int .i64 pmd, .int .i64 id, .slice A n c] 32)).alloc (.cells #[.int .i64 0, .int .i64 0, .slice none 0 0, .bool false, .bool false, .int .i64 0, .int .i64 0] 26)).alloc (.cells #[.int .i64 0, .slice none 0 0] 30)) := ((((Below.refl _ _).alloc (Nat.le_refl _) _).alloc (by simp) _).alloc (by simp; omega) _).alloc (by simp; omega) _
  have k1 : Blk ((((w.alloc (.cells #[.int .i64 sn, .int .i64 ne, .slice Q m cap, .bool op, .bool em, .int .i64 ack, .int .i64 tak] 26)).alloc (.cells #[.int .i64 psn, .int .i64 pne, .int .i64 pmd, .int .i64 id, .slice A n c] 32)).alloc (.cells #[.int .i64 0, .int .i64 0, .slice none 0 0, .bool false, .bool false, .int .i64 0, .int .i64 0] 26)).alloc (.cells #[.int .i64 0, .slice none 0 0] 30)) w.heap.size 26 #[.int .i64 sn, .int .i64 ne, .slice Q m cap, .bool op, .bool em, .int .i64 ack, .int .i64 tak] := (((Blk.new _ _ _).alloc _).alloc _).alloc _
  have k2 : Blk ((((w.alloc (.cells #[.int .i64 sn, .int .i64 ne, .slice Q m cap, .bool op, .bool em, .int .i64 ack, .int .i64 tak] 26)).alloc (.cells #[.int .i64 psn, .int .i64 pne, .int .i64 pmd, .int .i64 id, .slice A n c] 32)).alloc (.cells #[.int .i64 0, .int .i64 0, .slice none 0 0, .bool false, .bool false, .int .i64 0, .int .i64 0] 26)).alloc (.cells #[.int .i64 0, .slice none 0 0] 30)) (w.heap.size + 1) 32 #[.int .i64 psn, .int .i64 pne, .int .i64 pmd, .int .i64 id, .slice A n c] := ((blk_new2 (by simp)).alloc _).alloc _
  have k3 : Blk ((((w.alloc (.cells #[.int .i64 sn, .int .i64 ne, .slice Q m cap, .bool op, .bool em, .int .i64 ack, .int .i64 tak] 26)).alloc (.cells #[.int .i64 psn, .int .i64 pne, .int .i64 pmd, .int .i64 id, .slice A n c] 32)).alloc (.cells #[.int .i64 0, .int .i64 0, .slice none 0 0, .bool false, .bool false, .int .i64 0, .int .i64 0] 26)).alloc (.cells #[.int .i64 0, .slice none 0 0] 30)) (w.heap.size + 2) 26 #[.int .i64 0, .int .i64 0, .slice none 0 0, .bool false, .bool false, .int .i64 0, .int .i64 0] := (blk_new2 (by simp)).alloc _
  have k4 : Blk ((((w.alloc (.cells #[.int .i64 sn, .int .i64 ne, .slice Q m cap, .bool op, .bool em, .int .i64 ack, .int .i64 tak] 26)).alloc (.cells #[.int .i64 psn, .int .i64 pne, .int .i64 pmd, .int .i64 id, .slice A n c] 32)).alloc (.cells #[.int .i64 0, .int .i64 0, .slice none 0 0, .bool false, .bool false, .int .i64 0, .int .i64 0] 26)).alloc (.cells #[.int .i64 0, .slice none 0 0] 30)) (w.heap.size + 3) 30 #[.int .i64 0, .slice none 0 0] := blk_new2 (by simp)
  have hD : (((dchk psn pne pmd id n : Nat) : Int) != 0) = true := by rw [bne_iff_ne]; omega
  obtain ⟨D, hDe⟩ : ∃ D, D = dchk psn pne pmd id n := ⟨_, rfl⟩
  rw [← hDe] at hD
  have HD := hide hDe
  clear hDe hbad
  go_enter Try.func16, Try.ntmps16
  go_upto_region 1 with (fail)
  go_cut [6, 7] (fun s6 s7 wx => s6 = .bool false ∧ s7 = .bool false ∧ ∃ Q1 cap1 qs, Mine (w.heap.size + 4) wx Q1 m cap1 qs (ps.map Pk.abs) ∧ Below w.heap.size w wx ∧ Blk wx w.heap.size 26 #[.int .i64 sn, .int .i64 ne, .slice Q1 m cap1, .bool op, .bool em, .int .i64 ack, .int .i64 tak] ∧ Blk wx (w.heap.size + 1) 32 #[.int .i64 psn, .int .i64 pne, .int .i64 pmd, .int .i64 id, .slice A n c] ∧ Blk wx (w.heap.size + 2) 26 #[.int .i64 0, .int .i64 0, .slice none 0 0, .bool false, .bool false, .int .i64 0, .int .i64 0] ∧ Blk wx (w.heap.size + 3) 30 #[.int .i64 0, .slice none 0 0])
  case first =>
    go_wp2_with ((go_at_call 26; refine (mine2_any sn ne ack tak op em Q m cap ps _ (hQ.below hB) hm).mono ?_; rintro e w1 ⟨Q1, cap1, qs, rfl, HM1, hb1⟩; have hO1 : Mine (w.heap.size + 4) w1 Q1 m cap1 qs (ps.map Pk.abs) := HM1.weak (by simp); have B1 := hB.trans (hb1.mono hB.size); have m1 := k1.below hb1 k1.lt; have m2 := k2.below hb1 k2.lt; have m3 := k3.below hb1 k3.lt; have m4 := k4.below hb1 k4.lt; obtain ⟨f0, f1, f2, f3, f4, f5, f6⟩ := fr7 m1; obtain ⟨r0, r1, r2, r3, r4, r5, r6⟩ := at7 m1))
    go_meet
    case rel => exact ⟨rfl, rfl, Q1, cap1, qs, hO1.put7 (by omega), below_put7 B1 (Nat.le_refl _), blk_put7 m1, blk_far7 m2 (by omega), blk_far7 m3 (by omega), blk_far7 m4 (by omega)⟩
  case rest =>
    obtain ⟨rfl, rfl, Q1, cap1, qs, hO, B1, n1, n2, n3, n4⟩ := hcut
    have hX4 := n4.lt
    obtain ⟨r0, r1, r2, r3, r4, r5, r6⟩ := at7 n1
    obtain ⟨f0, f1, f2, f3, f4, f5, f6⟩ := fr7 n1
    obtain ⟨s0, s1, s2, s3, s4⟩ := at5 n2
    obtain ⟨t0, t1, t2, t3, t4, t5, t6⟩ := at7 n3
    obtain ⟨g0, g1, g2, g3, g4, g5, g6⟩ := fr7 n3
    obtain ⟨y0, y1⟩ := at2 n4
    obtain ⟨z0, z1⟩ := fr2 n4
    go_wp2_with fail
    refine (check_any psn pne pmd id A n c _).mono ?_
    rintro e w2 ⟨rfl, hb2⟩
    rw [← HD.out]
    have B2 := B1.trans (hb2.mono B1.size)
    have n1 := n1.below hb2 n1.lt
    have n2 := n2.below hb2 n2.lt
    have n3 := n3.below hb2 n3.lt
    have n4 := n4.below hb2 n4.lt
    have hO := hO.below hb2
    obtain ⟨r0, r1, r2, r3, r4, r5, r6⟩ := at7 n1
    obtain ⟨f0, f1, f2, f3, f4, f5, f6⟩ := fr7 n1
    obtain ⟨s0, s1, s2, s3, s4⟩ := at5 n2
    obtain ⟨t0, t1, t2, t3, t4, t5, t6⟩ := at7 n3
    obtain ⟨g0, g1, g2, g3, g4, g5, g6⟩ := fr7 n3
    obtain ⟨y0, y1⟩ := at2 n4
    obtain ⟨z0, z1⟩ := fr2 n4
    go_wp2
    exact bodyPost_ret (run_res_four rfl rfl rfl rfl rfl (blk_far2 (blk_put7 n3) (by omega)) (blk_put2 (blk_far7 n4 (by omega))) _ _ Try.underlying26 rfl (by kernel_rfl) Try.underlying30 rfl (by kernel_rfl)) rfl ⟨Q1, cap1, qs, rfl, (((hO.put7 (by omega)).put2 (by omega)).fresh).weak (by omega), below_put2 (below_put7 B2 (by omega)) (by omega)⟩
theorem tk1_no {s : St} {pne : Int} (h : tkA s pne = false) : tk1 s pne = s := by
  have hp : tkP s pne = false := by unfold tkP; rw [h]; rfl
  unfold tk1
  rw [h, hp]
  cases s
  simp
theorem tk1_keep {s : St} {pne : Int} (h : tkA s pne = true) (h2 : s.em = true ∨ s.q.length = 0) : tk1 s pne = ⟨1 - s.sn, s.ne, s.q, false, false, s.ack, s.tak⟩ := by
  have hp : tkP s pne = false := by
    unfold tkP
    rcases h2 with h2 | h2
    · rw [h2]; simp
    · rw [h2]; simp
  unfold tk1
  rw [h, hp]
  simp
theorem tk1_pop {s : St} {pne : Int} (h : tkA s pne = true) (h1 : s.em = false) (h2 : 0 < s.q.length) : tk1 s pne = ⟨1 - s.sn, s.ne, s.q.drop 1, false, false, s.ack + 1, s.tak⟩ := by
  have hp : tkP s pne = true := by unfold tkP; rw [h, h1]; simpa using h2
  unfold tk1
  rw [h, hp]
  simp
theorem tk2_no {s : St} {psn id : Int} {n : Nat} (h : psn ≠ s.ne) : tk2 s psn id n = s ∧ tkF s psn id n = false := by
  have e : (psn == s.ne) = false := by rw [beq_eq_false_iff_ne]; exact h
  have hf : tkF s psn id n = false := by unfold tkF; rw [e]; rfl
  refine ⟨?_, hf⟩
  unfold tk2
  rw [hf, e]
  cases s
  simp
theorem tk2_blank {s : St} {psn id : Int} {n : Nat} (h : psn = s.ne) (hb : dblank id n = true) : tk2 s psn id n = ⟨s.sn, 1 - s.ne, s.q, s.op, s.em, s.ack, s.tak⟩ ∧ tkF s psn id n = false := by
  have e : (psn == s.ne) = true := by rw [beq_iff_eq]; exact h
  have hf : tkF s psn id n = false := by unfold tkF; rw [e, hb]; rfl
  refine ⟨?_, hf⟩
  unfold tk2
  rw [hf, e]
  simp
theorem tk2_fresh {s : St} {psn id : Int} {n : Nat} (h : psn = s.ne) (hb : dblank id n = false) : tk2 s psn id n = ⟨s.sn, 1 - s.ne, s.q, s.op, s.em, s.ack, s.tak + 1⟩ ∧ tkF s psn id n = true := by
  have e : (psn == s.ne) = true := by rw [beq_iff_eq]; exact h
  have hf : tkF s psn id n = true := by unfold tkF; rw [e, hb]; rfl
  refine ⟨?_, hf⟩
  unfold tk2
  rw [hf, e]
  simp
theorem tkA_iff {s : St} {pne : Int} (h : tkA s pne = true) : s.op = true ∧ pne ≠ s.sn := by
  unfold tkA at h
  simpa using h
/-- The packet that a PDU hands over, if it is a new one. -/
def tkG (F : Bool) (id : Int) (l : List Nat) : Pkt := if F then (id, l) else (0, [])
set_option maxHeartbeats 4000000 in
/-- A valid PDU. -/
theorem take_yes (sn ne ack tak : Int) (op em : Bool) (Q : Option Addr) (m cap : Nat) (ps : List Pk) (psn pne pmd id : Int) (A : Option Addr) (n c : Nat) (l : List Nat) (w : World) (hQ : PRd w Q m ps) (hm : m ≤ 100000) (hp : Pay w ⟨id, A, n, c, l⟩) (hok : dchk psn pne pmd id n = 0) (hs0 : 0 ≤ sn) (hs1 : sn ≤ 1) (hn0 : 0 ≤ ne) (hn1 : ne ≤ 1) (ha0 : 0 ≤ ack) (ha1 : ack ≤ 100000) (ht0 : 0 ≤ tak) (ht1 : tak ≤ 100000) :
    Calls Try.prog 16 #[.agg #[.int .i64 sn, .int .i64 ne, .slice Q m cap, .bool op, .bool em, .int .i64 ack, .int .i64 tak], .agg #[.int .i64 psn, .int .i64 pne, .int .i64 pmd, .int .i64 id, .slice A n c]] w fun e w' =>
      ∃ Q' m' cap' qs p, e = .returned (.tuple #[.agg #[.int .i64 (tk2 (tk1 (⟨sn, ne, ps.map Pk.abs, op, em, ack, tak⟩ : St) pne) psn id n).sn, .int .i64 (tk2 (tk1 (⟨sn, ne, ps.map Pk.abs, op, em, ack, tak⟩ : St) pne) psn id n).ne, .slice Q' m' cap', .bool (tk2 (tk1 (⟨sn, ne, ps.map Pk.abs, op, em, ack, tak⟩ : St) pne) psn id n).op, .bool (tk2 (tk1 (⟨sn, ne, ps.map Pk.abs, op, em, ack, tak⟩ : St) pne) psn id n).em, .int .i64 (tk2 (tk1 (⟨sn, ne, ps.map Pk.abs, op, em, ack, tak⟩ : St) pne) psn id n).ack, .int .i64 (tk2 (tk1 (⟨sn, ne, ps.map Pk.abs, op, em, ack, tak⟩ : St) pne) psn id n).tak], .agg #[.int .i64 p.id, .slice p.A p.n p.c], .bool (tkF (tk1 (⟨sn, ne, ps.map Pk.abs, op, em, ack, tak⟩ : St) pne) psn id n), .bool (tkA (⟨sn, ne, ps.map Pk.abs, op, em, ack, tak⟩ : St) pne)]) ∧ Fresh w.heap.size w' Q' m' cap' qs (tk2 (tk1 (⟨sn, ne, ps.map Pk.abs, op, em, ack, tak⟩ : St) pne) psn id n).q ∧ Own1 w.heap.size w' p ∧ p.abs = tkG (tkF (tk1 (⟨sn, ne, ps.map Pk.abs, op, em, ack, tak⟩ : St) pne) psn id n) id l ∧ Below w.heap.size w w' := by
  have hB : Below w.heap.size w ((((w.alloc (.cells #[.int .i64 sn, .int .i64 ne, .slice Q m cap, .bool op, .bool em, .int .i64 ack, .int .i64 tak] 26)).alloc (.cells #[.int .i64 psn, .int .i64 pne, .int .i64 pmd, .int .i64 id, .slice A n c] 32)).alloc (.cells #[.int .i64 0, .int .i64 0, .slice none 0 0, .bool false, .bool false, .int .i64 0, .int .i64 0] 26)).alloc (.cells #[.int .i64 0, .slice none 0 0] 30)) := ((((Below.refl _ _).alloc (Nat.le_refl _) _).alloc (by simp) _).alloc (by simp; omega) _).alloc (by simp; omega) _
  have k1 : Blk ((((w.alloc (.cells #[.int .i64 sn, .int .i64 ne, .slice Q m cap, .bool op, .bool em, .int .i64 ack, .int .i64 tak] 26)).alloc (.cells #[.int .i64 psn, .int .i64 pne, .int .i64 pmd, .int .i64 id, .slice A n c] 32)).alloc (.cells #[.int .i64 0, .int .i64 0, .slice none 0 0, .bool false, .bool false, .int .i64 0, .int .i64 0] 26)).alloc (.cells #[.int .i64 0, .slice none 0 0] 30)) w.heap.size 26 #[.int .i64 sn, .int .i64 ne, .slice Q m cap, .bool op, .bool em, .int .i64 ack, .int .i64 tak] := (((Blk.new _ _ _).alloc _).alloc _).alloc _
  have k2 : Blk ((((w.alloc (.cells #[.int .i64 sn, .int .i64 ne, .slice Q m cap, .bool op, .bool em, .int .i64 ack, .int .i64 tak] 26)).alloc (.cells #[.int .i64 psn, .int .i64 pne, .int .i64 pmd, .int .i64 id, .slice A n c] 32)).alloc (.cells #[.int .i64 0, .int .i64 0, .slice none 0 0, .bool false, .bool false, .int .i64 0, .int .i64 0] 26)).alloc (.cells #[.int .i64 0, .slice none 0 0] 30)) (w.heap.size + 1) 32 #[.int .i64 psn, .int .i64 pne, .int .i64 pmd, .int .i64 id, .slice A n c] := ((blk_new2 (by simp)).alloc _).alloc _
  have k3 : Blk ((((w.alloc (.cells #[.int .i64 sn, .int .i64 ne, .slice Q m cap, .bool op, .bool em, .int .i64 ack, .int .i64 tak] 26)).alloc (.cells #[.int .i64 psn, .int .i64 pne, .int .i64 pmd, .int .i64 id, .slice A n c] 32)).alloc (.cells #[.int .i64 0, .int .i64 0, .slice none 0 0, .bool false, .bool false, .int .i64 0, .int .i64 0] 26)).alloc (.cells #[.int .i64 0, .slice none 0 0] 30)) (w.heap.size + 2) 26 #[.int .i64 0, .int .i64 0, .slice none 0 0, .bool false, .bool false, .int .i64 0, .int .i64 0] := (blk_new2 (by simp)).alloc _
  have k4 : Blk ((((w.alloc (.cells #[.int .i64 sn, .int .i64 ne, .slice Q m cap, .bool op, .bool em, .int .i64 ack, .int .i64 tak] 26)).alloc (.cells #[.int .i64 psn, .int .i64 pne, .int .i64 pmd, .int .i64 id, .slice A n c] 32)).alloc (.cells #[.int .i64 0, .int .i64 0, .slice none 0 0, .bool false, .bool false, .int .i64 0, .int .i64 0] 26)).alloc (.cells #[.int .i64 0, .slice none 0 0] 30)) (w.heap.size + 3) 30 #[.int .i64 0, .slice none 0 0] := blk_new2 (by simp)
  have HD := hide hok
  clear hok
  have hpn := hp.2.2.2
  go_enter Try.func16, Try.ntmps16
  go_upto_region 1 with (fail)
  go_cut [6, 7] (fun s6 s7 wx => s6 = .bool false ∧ s7 = .bool false ∧ ∃ Q1 cap1 qs, Mine (w.heap.size + 4) wx Q1 m cap1 qs (ps.map Pk.abs) ∧ Below w.heap.size w wx ∧ Blk wx w.heap.size 26 #[.int .i64 sn, .int .i64 ne, .slice Q1 m cap1, .bool op, .bool em, .int .i64 ack, .int .i64 tak] ∧ Blk wx (w.heap.size + 1) 32 #[.int .i64 psn, .int .i64 pne, .int .i64 pmd, .int .i64 id, .slice A n c] ∧ Blk wx (w.heap.size + 2) 26 #[.int .i64 0, .int .i64 0, .slice none 0 0, .bool false, .bool false, .int .i64 0, .int .i64 0] ∧ Blk wx (w.heap.size + 3) 30 #[.int .i64 0, .slice none 0 0])
  case first =>
    go_wp2_with ((go_at_call 26; refine (mine2_any sn ne ack tak op em Q m cap ps _ (hQ.below hB) hm).mono ?_; rintro e w1 ⟨Q1, cap1, qs, rfl, HM1, hb1⟩; have hO1 : Mine (w.heap.size + 4) w1 Q1 m cap1 qs (ps.map Pk.abs) := HM1.weak (by simp); have B1 := hB.trans (hb1.mono hB.size); have m1 := k1.below hb1 k1.lt; have m2 := k2.below hb1 k2.lt; have m3 := k3.below hb1 k3.lt; have m4 := k4.below hb1 k4.lt; obtain ⟨f0, f1, f2, f3, f4, f5, f6⟩ := fr7 m1; obtain ⟨r0, r1, r2, r3, r4, r5, r6⟩ := at7 m1))
    go_meet
    case rel => exact ⟨rfl, rfl, Q1, cap1, qs, hO1.put7 (by omega), below_put7 B1 (Nat.le_refl _), blk_put7 m1, blk_far7 m2 (by omega), blk_far7 m3 (by omega), blk_far7 m4 (by omega)⟩
  case rest =>
    obtain ⟨rfl, rfl, Q1, cap1, qs, hO, B1, n1, n2, n3, n4⟩ := hcut
    have hX4 := n4.lt
    obtain ⟨r0, r1, r2, r3, r4, r5, r6⟩ := at7 n1
    obtain ⟨f0, f1, f2, f3, f4, f5, f6⟩ := fr7 n1
    obtain ⟨s0, s1, s2, s3, s4⟩ := at5 n2
    obtain ⟨t0, t1, t2, t3, t4, t5, t6⟩ := at7 n3
    obtain ⟨g0, g1, g2, g3, g4, g5, g6⟩ := fr7 n3
    obtain ⟨y0, y1⟩ := at2 n4
    obtain ⟨z0, z1⟩ := fr2 n4
    go_wp2_with fail
    refine (check_any psn pne pmd id A n c _).mono ?_
    rintro e w2 ⟨rfl, hb2⟩
    rw [HD.out]
    have B2 := B1.trans (hb2.mono B1.size)
    have n1 := n1.below hb2 n1.lt
    have n2 := n2.below hb2 n2.lt
    have n3 := n3.below hb2 n3.lt
    have n4 := n4.below hb2 n4.lt
    have hO := hO.below hb2
    obtain ⟨r0, r1, r2, r3, r4, r5, r6⟩ := at7 n1
    obtain ⟨f0, f1, f2, f3, f4, f5, f6⟩ := fr7 n1
    obtain ⟨s0, s1, s2, s3, s4⟩ := at5 n2
    obtain ⟨t0, t1, t2, t3, t4, t5, t6⟩ := at7 n3
    obtain ⟨g0, g1, g2, g3, g4, g5, g6⟩ := fr7 n3
    obtain ⟨y0, y1⟩ := at2 n4
    obtain ⟨z0, z1⟩ := fr2 n4
    clear k1 k2 k3 k4 hB
    have HOF := hide hO
    have hOF := hO.fresh
    have HQL := hide hQ.len
    go_upto_region 4 with (fail)
    go_cut [24] (fun s24 wx => s24 = .bool (tkA (⟨sn, ne, ps.map Pk.abs, op, em, ack, tak⟩ : St) pne) ∧ wx = w2)
    case first =>
      cases op
      · go_wp2
        go_meet
        case rel => exact ⟨rfl, rfl⟩
      · by_cases hps : pne = sn
        · subst hps
          go_wp2
          go_meet
          case rel => exact ⟨by simp [tkA], rfl⟩
        · have hpb : (pne != sn) = true := by rw [bne_iff_ne]; exact hps
          clear hps
          go_wp2
          go_meet
          case rel => exact ⟨by simp [tkA, hpb], rfl⟩
    case rest =>
      obtain ⟨rfl, rfl⟩ := hcut
      go_upto_if 24 with (fail)
      go_cut [7] (fun s7 wx => s7 = .bool (tkA (⟨sn, ne, ps.map Pk.abs, op, em, ack, tak⟩ : St) pne) ∧ ∃ Q2 m2 cap2 qs2, Fresh (w.heap.size + 4) wx Q2 m2 cap2 qs2 (tk1 (⟨sn, ne, ps.map Pk.abs, op, em, ack, tak⟩ : St) pne).q ∧ Below w.heap.size w wx ∧ Blk wx w.heap.size 26 #[.int .i64 (tk1 (⟨sn, ne, ps.map Pk.abs, op, em, ack, tak⟩ : St) pne).sn, .int .i64 ne, .slice Q2 m2 cap2, .bool (tk1 (⟨sn, ne, ps.map Pk.abs, op, em, ack, tak⟩ : St) pne).op, .bool (tk1 (⟨sn, ne, ps.map Pk.abs, op, em, ack, tak⟩ : St) pne).em, .int .i64 (tk1 (⟨sn, ne, ps.map Pk.abs, op, em, ack, tak⟩ : St) pne).ack, .int .i64 tak] ∧ Blk wx (w.heap.size + 1) 32 #[.int .i64 psn, .int .i64 pne, .int .i64 pmd, .int .i64 id, .slice A n c] ∧ Blk wx (w.heap.size + 2) 26 #[.int .i64 0, .int .i64 0, .slice none 0 0, .bool false, .bool false, .int .i64 0, .int .i64 0] ∧ Blk wx (w.heap.size + 3) 30 #[.int .i64 0, .slice none 0 0])
      case first =>
        cases hA : tkA (⟨sn, ne, ps.map Pk.abs, op, em, ack, tak⟩ : St) pne with
        | false =>
          have HA := hide hA
          clear hA
          go_wp2
          go_meet
          case rel =>
            rw [tk1_no HA.out]
            exact ⟨by rw [HA.out], Q1, m, cap1, qs, hOF, B2, n1, n2, n3, n4⟩
        | true =>
          obtain ⟨hop, hne⟩ := tkA_iff hA
          have HA := hide hA
          simp only at hop
          subst hop
          clear hA hne
          cases em
          · rcases Nat.eq_zero_or_pos m with hm0 | hm0
            · have hm1 : (m : Int) ≤ 0 := by omega
              have HM := hide hm0
              clear hm0
              go_wp2
              go_meet
              case rel =>
                rw [tk1_keep HA.out (.inr (by simp [HQL.out, HM.out]))]
                exact ⟨by rw [HA.out], Q1, m, cap1, qs, (((hOF.set (g := w.heap.size) (i := 0) (u := .int .i64 (1 - sn)) (by omega)).set (g := w.heap.size) (i := 3) (u := .bool false) (by omega)).set (g := w.heap.size) (i := 4) (u := .bool false) (by omega)), (((B2.setCell (p := ⟨w.heap.size, 0, none⟩) (Nat.le_refl _) (.int .i64 (1 - sn))).setCell (p := ⟨w.heap.size, 3, none⟩) (Nat.le_refl _) (.bool false)).setCell (p := ⟨w.heap.size, 4, none⟩) (Nat.le_refl _) (.bool false)), by simpa using (((n1.set_ 0 (.int .i64 (1 - sn))).set_ 3 (.bool false)).set_ 4 (.bool false)), (((n2.far (p := ⟨w.heap.size, 0, none⟩) (by simp) (.int .i64 (1 - sn))).far (p := ⟨w.heap.size, 3, none⟩) (by simp) (.bool false)).far (p := ⟨w.heap.size, 4, none⟩) (by simp) (.bool false)), (((n3.far (p := ⟨w.heap.size, 0, none⟩) (by simp) (.int .i64 (1 - sn))).far (p := ⟨w.heap.size, 3, none⟩) (by simp) (.bool false)).far (p := ⟨w.heap.size, 4, none⟩) (by simp) (.bool false)), (((n4.far (p := ⟨w.heap.size, 0, none⟩) (by simp) (.int .i64 (1 - sn))).far (p := ⟨w.heap.size, 3, none⟩) (by simp) (.bool false)).far (p := ⟨w.heap.size, 4, none⟩) (by simp) (.bool false))⟩
            · have hm1 : (0 : Int) < (m : Int) := by omega
              have hcp := hOF.cap_
              have hcp1 : (m : Int) ≤ (cap1 : Int) := by omega
              obtain ⟨b, o, rfl, _, _⟩ := hOF.rd.1.2 hm0
              rcases Nat.lt_or_ge 1 m with hm2 | hm2
              · have hm2' : (1 : Int) < (m : Int) := by omega
                go_wp2
                go_meet
                case rel =>
                  rw [tk1_pop HA.out rfl (by simp [HQL.out]; omega)]
                  exact ⟨by rw [HA.out], some ⟨b, o + 2, none⟩, m - 1, m - 1, qs.drop 1, ((((((hOF.tail hm2).set (g := w.heap.size) (i := 0) (u := .int .i64 (1 - sn)) (by omega)).set (g := w.heap.size) (i := 2) (u := .slice (some ⟨b, o + 2, none⟩) (m - 1) (m - 1)) (by omega)).set (g := w.heap.size) (i := 5) (u := .int .i64 (ack + 1)) (by omega)).set (g := w.heap.size) (i := 3) (u := .bool false) (by omega)).set (g := w.heap.size) (i := 4) (u := .bool false) (by omega)), (((((B2.setCell (p := ⟨w.heap.size, 0, none⟩) (Nat.le_refl _) (.int .i64 (1 - sn))).setCell (p := ⟨w.heap.size, 2, none⟩) (Nat.le_refl _) (.slice (some ⟨b, o + 2, none⟩) (m - 1) (m - 1))).setCell (p := ⟨w.heap.size, 5, none⟩) (Nat.le_refl _) (.int .i64 (ack + 1))).setCell (p := ⟨w.heap.size, 3, none⟩) (Nat.le_refl _) (.bool false)).setCell (p := ⟨w.heap.size, 4, none⟩) (Nat.le_refl _) (.bool false)), by simpa using (((((n1.set_ 0 (.int .i64 (1 - sn))).set_ 2 (.slice (some ⟨b, o + 2, none⟩) (m - 1) (m - 1))).set_ 5 (.int .i64 (ack + 1))).set_ 3 (.bool false)).set_ 4 (.bool false)), (((((n2.far (p := ⟨w.heap.size, 0, none⟩) (by simp) (.int .i64 (1 - sn))).far (p := ⟨w.heap.size, 2, none⟩) (by simp) (.slice (some ⟨b, o + 2, none⟩) (m - 1) (m - 1))).far (p := ⟨w.heap.size, 5, none⟩) (by simp) (.int .i64 (ack + 1))).far (p := ⟨w.heap.size, 3, none⟩) (by simp) (.bool false)).far (p := ⟨w.heap.size, 4, none⟩) (by simp) (.bool false)), (((((n3.far (p := ⟨w.heap.size, 0, none⟩) (by simp) (.int .i64 (1 - sn))).far (p := ⟨w.heap.size, 2, none⟩) (by simp) (.slice (some ⟨b, o + 2, none⟩) (m - 1) (m - 1))).far (p := ⟨w.heap.size, 5, none⟩) (by simp) (.int .i64 (ack + 1))).far (p := ⟨w.heap.size, 3, none⟩) (by simp) (.bool false)).far (p := ⟨w.heap.size, 4, none⟩) (by simp) (.bool false)), (((((n4.far (p := ⟨w.heap.size, 0, none⟩) (by simp) (.int .i64 (1 - sn))).far (p := ⟨w.heap.size, 2, none⟩) (by simp) (.slice (some ⟨b, o + 2, none⟩) (m - 1) (m - 1))).far (p := ⟨w.heap.size, 5, none⟩) (by simp) (.int .i64 (ack + 1))).far (p := ⟨w.heap.size, 3, none⟩) (by simp) (.bool false)).far (p := ⟨w.heap.size, 4, none⟩) (by simp) (.bool false))⟩
              · obtain rfl : m = 1 := by omega
                go_wp2
                go_meet
                case rel =>
                  rw [tk1_pop HA.out rfl (by simp [HQL.out])]
                  have hnil : (ps.map Pk.abs).drop 1 = [] := List.drop_eq_nil_of_le (by simp [HQL.out])
                  simp only [hnil]
                  exact ⟨by rw [HA.out], some ⟨b, o, none⟩, 0, 0, [], ((((((Fresh.none_ (w.heap.size + 4) _ (some ⟨b, o, none⟩) 0).set (g := w.heap.size) (i := 0) (u := .int .i64 (1 - sn)) (by omega)).set (g := w.heap.size) (i := 2) (u := .slice (some ⟨b, o, none⟩) 0 0) (by omega)).set (g := w.heap.size) (i := 5) (u := .int .i64 (ack + 1)) (by omega)).set (g := w.heap.size) (i := 3) (u := .bool false) (by omega)).set (g := w.heap.size) (i := 4) (u := .bool false) (by omega)), (((((B2.setCell (p := ⟨w.heap.size, 0, none⟩) (Nat.le_refl _) (.int .i64 (1 - sn))).setCell (p := ⟨w.heap.size, 2, none⟩) (Nat.le_refl _) (.slice (some ⟨b, o, none⟩) 0 0)).setCell (p := ⟨w.heap.size, 5, none⟩) (Nat.le_refl _) (.int .i64 (ack + 1))).setCell (p := ⟨w.heap.size, 3, none⟩) (Nat.le_refl _) (.bool false)).setCell (p := ⟨w.heap.size, 4, none⟩) (Nat.le_refl _) (.bool false)), by simpa using (((((n1.set_ 0 (.int .i64 (1 - sn))).set_ 2 (.slice (some ⟨b, o, none⟩) 0 0)).set_ 5 (.int .i64 (ack + 1))).set_ 3 (.bool false)).set_ 4 (.bool false)), (((((n2.far (p := ⟨w.heap.size, 0, none⟩) (by simp) (.int .i64 (1 - sn))).far (p := ⟨w.heap.size, 2, none⟩) (by simp) (.slice (some ⟨b, o, none⟩) 0 0)).far (p := ⟨w.heap.size, 5, none⟩) (by simp) (.int .i64 (ack + 1))).far (p := ⟨w.heap.size, 3, none⟩) (by simp) (.bool false)).far (p := ⟨w.heap.size, 4, none⟩) (by simp) (.bool false)), (((((n3.far (p := ⟨w.heap.size, 0, none⟩) (by simp) (.int .i64 (1 - sn))).far (p := ⟨w.heap.size, 2, none⟩) (by simp) (.slice (some ⟨b, o, none⟩) 0 0)).far (p := ⟨w.heap.size, 5, none⟩) (by simp) (.int .i64 (ack + 1))).far (p := ⟨w.heap.size, 3, none⟩) (by simp) (.bool false)).far (p := ⟨w.heap.size, 4, none⟩) (by simp) (.bool false)), (((((n4.far (p := ⟨w.heap.size, 0, none⟩) (by simp) (.int .i64 (1 - sn))).far (p := ⟨w.heap.size, 2, none⟩) (by simp) (.slice (some ⟨b, o, none⟩) 0 0)).far (p := ⟨w.heap.size, 5, none⟩) (by simp) (.int .i64 (ack + 1))).far (p := ⟨w.heap.size, 3, none⟩) (by simp) (.bool false)).far (p := ⟨w.heap.size, 4, none⟩) (by simp) (.bool false))⟩
          · go_wp2
            go_meet
            case rel =>
              rw [tk1_keep HA.out (.inl rfl)]
              exact ⟨by rw [HA.out], Q1, m, cap1, qs, (((hOF.set (g := w.heap.size) (i := 0) (u := .int .i64 (1 - sn)) (by omega)).set (g := w.heap.size) (i := 3) (u := .bool false) (by omega)).set (g := w.heap.size) (i := 4) (u := .bool false) (by omega)), (((B2.setCell (p := ⟨w.heap.size, 0, none⟩) (Nat.le_refl _) (.int .i64 (1 - sn))).setCell (p := ⟨w.heap.size, 3, none⟩) (Nat.le_refl _) (.bool false)).setCell (p := ⟨w.heap.size, 4, none⟩) (Nat.le_refl _) (.bool false)), by simpa using (((n1.set_ 0 (.int .i64 (1 - sn))).set_ 3 (.bool false)).set_ 4 (.bool false)), (((n2.far (p := ⟨w.heap.size, 0, none⟩) (by simp) (.int .i64 (1 - sn))).far (p := ⟨w.heap.size, 3, none⟩) (by simp) (.bool false)).far (p := ⟨w.heap.size, 4, none⟩) (by simp) (.bool false)), (((n3.far (p := ⟨w.heap.size, 0, none⟩) (by simp) (.int .i64 (1 - sn))).far (p := ⟨w.heap.size, 3, none⟩) (by simp) (.bool false)).far (p := ⟨w.heap.size, 4, none⟩) (by simp) (.bool false)), (((n4.far (p := ⟨w.heap.size, 0, none⟩) (by simp) (.int .i64 (1 - sn))).far (p := ⟨w.heap.size, 3, none⟩) (by simp) (.bool false)).far (p := ⟨w.heap.size, 4, none⟩) (by simp) (.bool false))⟩
      case rest =>
        obtain ⟨rfl, Q2, m2, cap2, qs2, hF, B3, n1, n2, n3, n4⟩ := hcut
        clear hO hOF HOF
        have hTne : (tk1 (⟨sn, ne, ps.map Pk.abs, op, em, ack, tak⟩ : St) pne).ne = ne ∧ (tk1 (⟨sn, ne, ps.map Pk.abs, op, em, ack, tak⟩ : St) pne).tak = tak := ⟨rfl, rfl⟩
        obtain ⟨T, hT⟩ : ∃ T, T = (tk1 (⟨sn, ne, ps.map Pk.abs, op, em, ack, tak⟩ : St) pne) := ⟨_, rfl⟩
        rw [← hT] at hF n1 hTne
        have HT := hide hT
        have HN := hide hTne
        clear hT hTne
        have hX4 := n4.lt
        obtain ⟨r0, r1, r2, r3, r4, r5, r6⟩ := at7 n1
        obtain ⟨f0, f1, f2, f3, f4, f5, f6⟩ := fr7 n1
        obtain ⟨s0, s1, s2, s3, s4⟩ := at5 n2
        obtain ⟨t0, t1, t2, t3, t4, t5, t6⟩ := at7 n3
        obtain ⟨g0, g1, g2, g3, g4, g5, g6⟩ := fr7 n3
        obtain ⟨y0, y1⟩ := at2 n4
        obtain ⟨z0, z1⟩ := fr2 n4
        rcases (show psn ≠ ne ∨ (psn = ne ∧ dblank id n = true) ∨ (psn = ne ∧ dblank id n = false) from by
          by_cases h : psn = ne
          · cases dblank id n
            · exact .inr (.inr ⟨h, rfl⟩)
            · exact .inr (.inl ⟨h, rfl⟩)
          · exact .inl h) with h | ⟨rfl, h⟩ | ⟨rfl, h⟩
        · have hb1 : (psn == ne) = false := by rw [beq_eq_false_iff_ne]; exact h
          have H2 := hide (tk2_no (s := T) (psn := psn) (id := id) (n := n) (by rw [HN.out.1]; exact h))
          clear h
          go_wp2_with fail
          go_region
          go_wp2
          exact bodyPost_ret (run_res_four rfl rfl rfl rfl rfl (blk_far2 (blk_put7 n3) (by omega)).drew (blk_put2 (blk_far7 n4 (by omega))).drew _ _ Try.underlying26 rfl (by kernel_rfl) Try.underlying30 rfl (by kernel_rfl)) rfl ⟨Q2, m2, cap2, qs2, ⟨0, none, 0, 0, []⟩, by rw [← HT.out, H2.out.1, H2.out.2, HN.out.1, HN.out.2]; rfl, by rw [← HT.out, H2.out.1]; exact (((hF.put7 (by omega)).put2 (by omega)).drew).weak (by omega), own1_blank _ _ _, by rw [← HT.out, H2.out.2]; rfl, (below_put2 (below_put7 B3 (by omega)) (by omega)).drew⟩
        · have H2 := hide (tk2_blank (s := T) (psn := psn) (id := id) (n := n) HN.out.1.symm h)
          have HB := hide h
          clear h
          go_wp2_with fail
          refine (blank_any id A n c _).mono ?_
          rintro e w4 ⟨rfl, hb4⟩
          rw [HB.out]
          have B3 := (B3.setCell (p := ⟨w.heap.size, 1, none⟩) (Nat.le_refl _) (.int .i64 (1 - psn))).trans (hb4.mono (B3.setCell (p := ⟨w.heap.size, 1, none⟩) (Nat.le_refl _) (.int .i64 (1 - psn))).size)
          have n1 := (show Blk _ w.heap.size 26 #[.int .i64 T.sn, .int .i64 (1 - psn), .slice Q2 m2 cap2, .bool T.op, .bool T.em, .int .i64 T.ack, .int .i64 tak] by simpa using n1.set_ 1 (.int .i64 (1 - psn))).below hb4 (by simp; omega)
          have n2 := (n2.far (p := ⟨w.heap.size, 1, none⟩) (by simp) (.int .i64 (1 - psn))).below hb4 (by simp; omega)
          have n3 := (n3.far (p := ⟨w.heap.size, 1, none⟩) (by simp) (.int .i64 (1 - psn))).below hb4 (by simp; omega)
          have n4 := (n4.far (p := ⟨w.heap.size, 1, none⟩) (by simp) (.int .i64 (1 - psn))).below hb4 (by simp; omega)
          have hF := (hF.set (g := w.heap.size) (i := 1) (u := .int .i64 (1 - psn)) (by omega)).below hb4
          obtain ⟨r0, r1, r2, r3, r4, r5, r6⟩ := at7 n1
          obtain ⟨f0, f1, f2, f3, f4, f5, f6⟩ := fr7 n1
          obtain ⟨s0, s1, s2, s3, s4⟩ := at5 n2
          obtain ⟨t0, t1, t2, t3, t4, t5, t6⟩ := at7 n3
          obtain ⟨g0, g1, g2, g3, g4, g5, g6⟩ := fr7 n3
          obtain ⟨y0, y1⟩ := at2 n4
          obtain ⟨z0, z1⟩ := fr2 n4
          go_wp2_with fail
          go_region
          go_wp2
          exact bodyPost_ret (run_res_four rfl rfl rfl rfl rfl (blk_far2 (blk_put7 n3) (by omega)).drew (blk_put2 (blk_far7 n4 (by omega))).drew _ _ Try.underlying26 rfl (by kernel_rfl) Try.underlying30 rfl (by kernel_rfl)) rfl ⟨Q2, m2, cap2, qs2, ⟨0, none, 0, 0, []⟩, by rw [← HT.out, H2.out.1, H2.out.2, HN.out.1, HN.out.2]; rfl, by rw [← HT.out, H2.out.1]; exact (((hF.put7 (by omega)).put2 (by omega)).drew).weak (by omega), own1_blank _ _ _, by rw [← HT.out, H2.out.2]; rfl, (below_put2 (below_put7 B3 (by omega)) (by omega)).drew⟩
        · have H2 := hide (tk2_fresh (s := T) (psn := psn) (id := id) (n := n) HN.out.1.symm h)
          have HB := hide h
          clear h
          have hpc := hp.below B3
          go_wp2_with fail
          refine (blank_any id A n c _).mono ?_
          rintro e w4 ⟨rfl, hb4⟩
          rw [HB.out]
          have B3 := (B3.setCell (p := ⟨w.heap.size, 1, none⟩) (Nat.le_refl _) (.int .i64 (1 - psn))).trans (hb4.mono (B3.setCell (p := ⟨w.heap.size, 1, none⟩) (Nat.le_refl _) (.int .i64 (1 - psn))).size)
          have n1 := (show Blk _ w.heap.size 26 #[.int .i64 T.sn, .int .i64 (1 - psn), .slice Q2 m2 cap2, .bool T.op, .bool T.em, .int .i64 T.ack, .int .i64 tak] by simpa using n1.set_ 1 (.int .i64 (1 - psn))).below hb4 (by simp; omega)
          have n2 := (n2.far (p := ⟨w.heap.size, 1, none⟩) (by simp) (.int .i64 (1 - psn))).below hb4 (by simp; omega)
          have n3 := (n3.far (p := ⟨w.heap.size, 1, none⟩) (by simp) (.int .i64 (1 - psn))).below hb4 (by simp; omega)
          have n4 := (n4.far (p := ⟨w.heap.size, 1, none⟩) (by simp) (.int .i64 (1 - psn))).below hb4 (by simp; omega)
          have hF := (hF.set (g := w.heap.size) (i := 1) (u := .int .i64 (1 - psn)) (by omega)).below hb4
          obtain ⟨r0, r1, r2, r3, r4, r5, r6⟩ := at7 n1
          obtain ⟨f0, f1, f2, f3, f4, f5, f6⟩ := fr7 n1
          obtain ⟨s0, s1, s2, s3, s4⟩ := at5 n2
          obtain ⟨t0, t1, t2, t3, t4, t5, t6⟩ := at7 n3
          obtain ⟨g0, g1, g2, g3, g4, g5, g6⟩ := fr7 n3
          obtain ⟨y0, y1⟩ := at2 n4
          obtain ⟨z0, z1⟩ := fr2 n4
          have hp4 := hp.below B3
          have hX4 := n4.lt
          go_wp2_with fail
          refine (clone_any id A n c l _ hp4.1 hp4.2.2.2).mono ?_
          rintro e w5 ⟨A5, c5, rfl, hown5, hc5, hb5⟩
          obtain ⟨hpay5, hpb5⟩ := pay_own (id := id) hown5 hp.2.1 hc5 hp.2.2.2
          have hW5 : Own1 (w.heap.size + 4) w5 ⟨id, A5, n, c5, l⟩ := ⟨hpay5, fun h0 a ha => by have := hpb5 h0 a ha; omega⟩
          clear hown5 hpay5 hpb5
          have B3 := B3.trans (hb5.mono B3.size)
          have n1 := n1.below hb5 n1.lt
          have n2 := n2.below hb5 n2.lt
          have n3 := n3.below hb5 n3.lt
          have n4 := n4.below hb5 n4.lt
          have hF := hF.below hb5
          obtain ⟨r0, r1, r2, r3, r4, r5, r6⟩ := at7 n1
          obtain ⟨f0, f1, f2, f3, f4, f5, f6⟩ := fr7 n1
          obtain ⟨s0, s1, s2, s3, s4⟩ := at5 n2
          obtain ⟨t0, t1, t2, t3, t4, t5, t6⟩ := at7 n3
          obtain ⟨g0, g1, g2, g3, g4, g5, g6⟩ := fr7 n3
          obtain ⟨y0, y1⟩ := at2 n4
          obtain ⟨z0, z1⟩ := fr2 n4
          go_wp2_with fail
          go_region
          go_wp2
          have B3 := (((B3.setCell (p := ⟨w.heap.size + 3, 0, none⟩) (by simp) (.int .i64 id)).setCell (p := ⟨w.heap.size + 3, 1, none⟩) (by simp) (.slice A5 n c5)).setCell (p := ⟨w.heap.size, 6, none⟩) (by simp) (.int .i64 (tak + 1)))
          have n3 := (((n3.far (p := ⟨w.heap.size + 3, 0, none⟩) (by simp) (.int .i64 id)).far (p := ⟨w.heap.size + 3, 1, none⟩) (by simp) (.slice A5 n c5)).far (p := ⟨w.heap.size, 6, none⟩) (by simp) (.int .i64 (tak + 1)))
          have n4 := ((blk_put2 n4 (u0 := .int .i64 id) (u1 := .slice A5 n c5)).far (p := ⟨w.heap.size, 6, none⟩) (by simp) (.int .i64 (tak + 1)))
          have hF := (((hF.set (g := w.heap.size + 3) (i := 0) (u := .int .i64 id) (by omega)).set (g := w.heap.size + 3) (i := 1) (u := .slice A5 n c5) (by omega)).set (g := w.heap.size) (i := 6) (u := .int .i64 (tak + 1)) (by omega))
          have hW5 := (((hW5.set (g := w.heap.size + 3) (i := 0) (u := .int .i64 id) (by omega)).set (g := w.heap.size + 3) (i := 1) (u := .slice A5 n c5) (by omega)).set (g := w.heap.size) (i := 6) (u := .int .i64 (tak + 1)) (by omega))
          exact bodyPost_ret (run_res_four rfl rfl rfl rfl rfl (blk_far2 (blk_put7 n3) (by omega)).drew (blk_put2 (blk_far7 n4 (by omega))).drew _ _ Try.underlying26 rfl (by kernel_rfl) Try.underlying30 rfl (by kernel_rfl)) rfl ⟨Q2, m2, cap2, qs2, ⟨id, A5, n, c5, l⟩, by rw [← HT.out, H2.out.1, H2.out.2, HN.out.1, HN.out.2]; rfl, by rw [← HT.out, H2.out.1]; exact (((hF.put7 (by omega)).put2 (by omega)).drew).weak (by omega), (((hW5.put7 (by omega)).put2 (by omega)).drew).weak (by omega), by rw [← HT.out, H2.out.2]; rfl, (below_put2 (below_put7 B3 (by omega)) (by omega)).drew⟩
end Go.Proofs.Ytobljnbpokijdaa
