/-
  The walk of Take in the reference. Its contracts.
-/
import Derived.Test.YtobljnbpokijdaaAqj
namespace Go.Proofs.Ytobljnbpokijdaa
set_option linter.unusedVariables false
set_option linter.unusedSimpArgs false
open Go.RowKit

/-- A queue that reads as a list, its cells and payloads in blocks below lo or from hi on. -/
structure HasR (Z : Addr → Prop) (lo hi : Nat) (w : World) (Q : Option Addr) (m cap : Nat) (qs : List Pk) (L : List Pkt) : Prop where
  has : Has w Q m cap qs L
  at_ : 0 < m → ∀ a, Q = some a → a.block < lo ∨ hi ≤ a.block
  low : ∀ q ∈ qs, 0 < q.n → ∀ a, q.A = some a → a.block < lo ∨ hi ≤ a.block
  loc : 0 < m → ∀ a, Q = some a → Z a ∨ hi ≤ a.block
theorem HasR.fills {Z : Addr → Prop} {lo hi : Nat} {w : World} {Q : Option Addr} {m cap : Nat} {qs : List Pk} {L : List Pkt} (h : HasR Z lo hi w Q m cap qs L) {g : Nat} (h1 : lo ≤ g) (h2 : g < hi) (l : List (Nat × Value)) : HasR Z lo hi (fills w g l) Q m cap qs L :=
  ⟨⟨⟨rd_fills l h.has.rd.1 (fun h0 a ha => by have := h.at_ h0 a ha; omega), fun q hq => pay_fills l (h.has.rd.2 q hq) (fun h0 a ha => by have := h.low q hq h0 a ha; omega)⟩, h.has.abs, h.has.cap_⟩, h.at_, h.low, h.loc⟩
theorem HasR.set {Z : Addr → Prop} {lo hi : Nat} {w : World} {Q : Option Addr} {m cap : Nat} {qs : List Pk} {L : List Pkt} {g i : Nat} {u : Value} (h : HasR Z lo hi w Q m cap qs L) (h1 : lo ≤ g) (h2 : g < hi) : HasR Z lo hi (w.setCell ⟨g, i, none⟩ u) Q m cap qs L := h.fills h1 h2 [(i, u)]
theorem HasR.below {Z : Addr → Prop} {lo hi : Nat} {w w' : World} {Q : Option Addr} {m cap : Nat} {qs : List Pk} {L : List Pkt} (h : HasR Z lo hi w Q m cap qs L) (hb : Below w.heap.size w w') : HasR Z lo hi w' Q m cap qs L := ⟨h.has.below hb, h.at_, h.low, h.loc⟩
theorem HasR.drew {Z : Addr → Prop} {lo hi : Nat} {w : World} {Q : Option Addr} {m cap : Nat} {qs : List Pk} {L : List Pkt} (h : HasR Z lo hi w Q m cap qs L) : HasR Z lo hi w.drew Q m cap qs L := ⟨⟨h.has.rd.drew, h.has.abs, h.has.cap_⟩, h.at_, h.low, h.loc⟩
theorem HasR.put7 {Z : Addr → Prop} {lo hi : Nat} {W : World} {g : Nat} {Q : Option Addr} {m cap : Nat} {qs : List Pk} {L : List Pkt} {u0 u1 u2 u3 u4 u5 u6 : Value} (h : HasR Z lo hi W Q m cap qs L) (h1 : lo ≤ g) (h2 : g < hi) : HasR Z lo hi ((((((((W).setCell ⟨g, 0, none⟩ u0).setCell ⟨g, 1, none⟩ u1).setCell ⟨g, 2, none⟩ u2).setCell ⟨g, 3, none⟩ u3).setCell ⟨g, 4, none⟩ u4).setCell ⟨g, 5, none⟩ u5).setCell ⟨g, 6, none⟩ u6) Q m cap qs L := h.fills h1 h2 [(0, u0), (1, u1), (2, u2), (3, u3), (4, u4), (5, u5), (6, u6)]
theorem HasR.put2 {Z : Addr → Prop} {lo hi : Nat} {W : World} {g : Nat} {Q : Option Addr} {m cap : Nat} {qs : List Pk} {L : List Pkt} {u0 u1 : Value} (h : HasR Z lo hi W Q m cap qs L) (h1 : lo ≤ g) (h2 : g < hi) : HasR Z lo hi (((W).setCell ⟨g, 0, none⟩ u0).setCell ⟨g, 1, none⟩ u1) Q m cap qs L := h.fills h1 h2 [(0, u0), (1, u1)]
theorem hasR_in {w w' : World} {Q : Option Addr} {m cap : Nat} {ps : List Pk} (hi : Nat) (h : PRd w Q m ps) (hc : m ≤ cap) (hb : Below w.heap.size w w') : HasR (fun a => 0 < m ∧ Q = some a) w.heap.size hi w' Q m cap ps (ps.map Pk.abs) :=
  ⟨⟨h.below hb, rfl, hc⟩, fun h0 a ha => by
    obtain ⟨b, o, e, hbw, _⟩ := h.1.2 h0
    rw [ha] at e
    injection e with e
    subst e
    exact .inl hbw, fun q hq h0 a ha => .inl ((h.2 q hq).lt h0 a ha), fun h0 a ha => .inl ⟨h0, ha⟩⟩
theorem hasR_own {Z : Addr → Prop} {w w5 : World} {base : Nat} {A5 : Option Addr} {m c5 : Nat} {qs : List Pk} (h : w5.ownsRow base 30 2 (.slice A5 m c5) m (pv qs)) (hc : m ≤ c5) (hq : ∀ q ∈ qs, Pay w q) (hb : Below w.heap.size w w5) : HasR Z w.heap.size base w5 A5 m c5 qs (qs.map Pk.abs) := by
  obtain ⟨_, _, hv9, _, _, hr9⟩ := own_rdn h
  injection hv9 with e1 _ _
  subst e1
  refine ⟨⟨⟨hr9, fun q hq' => (hq q hq').below hb⟩, rfl, hc⟩, fun h0 a ha => ?_, fun q hq' h0 a ha => .inl ((hq q hq').lt h0 a ha), fun h0 a ha => ?_⟩
  · subst ha
    exact .inr (h.lt a.block rfl).1
  · subst ha
    exact .inr (h.lt a.block rfl).1
set_option maxHeartbeats 2000000 in
theorem rtake_no (sn ne ack tak : Int) (op em : Bool) (Q : Option Addr) (m cap : Nat) (ps : List Pk) (psn pne pmd id : Int) (A : Option Addr) (n c : Nat) (l : List Nat) (w : World) (hQ : PRd w Q m ps) (hmc : m ≤ cap) (hm : m ≤ 100000) (hp : Pay w ⟨id, A, n, c, l⟩) (hbad : dchk psn pne pmd id n ≠ 0) :
    Calls Try.prog 17 #[.agg #[.int .i64 sn, .int .i64 ne, .slice Q m cap, .bool op, .bool em, .int .i64 ack, .int .i64 tak], .agg #[.int .i64 psn, .int .i64 pne, .int .i64 pmd, .int .i64 id, .slice A n c]] w fun e w' =>
      e = .returned (.tuple #[.agg #[.int .i64 sn, .int .i64 ne, .slice Q m cap, .bool op, .bool em, .int .i64 ack, .int .i64 tak], .agg #[.int .i64 0, .slice none 0 0], .bool false, .bool false]) ∧ Below w.heap.size w w' := by
  have hB : Below w.heap.size w ((((w.alloc (.cells #[.int .i64 sn, .int .i64 ne, .slice Q m cap, .bool op, .bool em, .int .i64 ack, .int .i64 tak] 26)).alloc (.cells #[.int .i64 psn, .int .i64 pne, .int .i64 pmd, .int .i64 id, .slice A n c] 32)).alloc (.cells #[.int .i64 0, .int .i64 0, .slice none 0 0, .bool false, .bool false, .int .i64 0, .int .i64 0] 26)).alloc (.cells #[.int .i64 0, .slice none 0 0] 30)) := (((((Below.refl _ _).alloc (Nat.le_refl _) _).alloc (by simp) _).alloc (by simp; omega) _).alloc (by simp; omega) _)
  have k1 : Blk ((((w.alloc (.cells #[.int .i64 sn, .int .i64 ne, .slice Q m cap, .bool op, .bool em, .int .i64 ack, .int .i64 tak] 26)).alloc (.cells #[.int .i64 psn, .int .i64 pne, .int .i64 pmd, .int .i64 id, .slice A n c] 32)).alloc (.cells #[.int .i64 0, .int .i64 0, .slice none 0 0, .bool false, .bool false, .int .i64 0, .int .i64 0] 26)).alloc (.cells #[.int .i64 0, .slice none 0 0] 30)) w.heap.size 26 #[.int .i64 sn, .int .i64 ne, .slice Q m cap, .bool op, .bool em, .int .i64 ack, .int .i64 tak] := ((((Blk.new _ _ _).alloc _).alloc _).alloc _)
  have k2 : Blk ((((w.alloc (.cells #[.int .i64 sn, .int .i64 ne, .slice Q m cap, .bool op, .bool em, .int .i64 ack, .int .i64 tak] 26)).alloc (.cells #[.int .i64 psn, .int .i64 pne, .int .i64 pmd, .int .i64 id, .slice A n c] 32)).alloc (.cells #[.int .i64 0, .int .i64 0, .slice none 0 0, .bool false, .bool false, .int .i64 0, .int .i64 0] 26)).alloc (.cells #[.int .i64 0, .slice none 0 0] 30)) (w.heap.size + 1) 32 #[.int .i64 psn, .int .i64 pne, .int .i64 pmd, .int .i64 id, .slice A n c] := (((blk_new2 (by simp)).alloc _).alloc _)
  have k3 : Blk ((((w.alloc (.cells #[.int .i64 sn, .int .i64 ne, .slice Q m cap, .bool op, .bool em, .int .i64 ack, .int .i64 tak] 26)).alloc (.cells #[.int .i64 psn, .int .i64 pne, .int .i64 pmd, .int .i64 id, .slice A n c] 32)).alloc (.cells #[.int .i64 0, .int .i64 0, .slice none 0 0, .bool false, .bool false, .int .i64 0, .int .i64 0] 26)).alloc (.cells #[.int .i64 0, .slice none 0 0] 30)) (w.heap.size + 2) 26 #[.int .i64 0, .int .i64 0, .slice none 0 0, .bool false, .bool false, .int .i64 0, .int .i64 0] := ((blk_new2 (by simp)).alloc _)
  have k4 : Blk ((((w.alloc (.cells #[.int .i64 sn, .int .i64 ne, .slice Q m cap, .bool op, .bool em, .int .i64 ack, .int .i64 tak] 26)).alloc (.cells #[.int .i64 psn, .int .i64 pne, .int .i64 pmd, .int .i64 id, .slice A n c] 32)).alloc (.cells #[.int .i64 0, .int .i64 0, .slice none 0 0, .bool false, .bool false, .int .i64 0, .int .i64 0] 26)).alloc (.cells #[.int .i64 0, .slice none 0 0] 30)) (w.heap.size + 3) 30 #[.int .i64 0, .slice none 0 0] := (blk_new2 (by simp))
  have hD : (((dchk psn pne pmd id n : Nat) : Int) != 0) = true := by rw [bne_iff_ne]; omega
  obtain ⟨D, hDe⟩ : ∃ D, D = dchk psn pne pmd id n := ⟨_, rfl⟩
  rw [← hDe] at hD
  have HD := hide hDe
  clear hDe hbad
  go_enter Try.func17, Try.ntmps17
  go_wp2_with fail
  refine (rcheck_any psn pne pmd id A n c _).mono ?_
  rintro e w2 ⟨rfl, hb2⟩
  rw [← HD.out]
  have B2 := hB.trans (hb2.mono hB.size)
  have n1 := k1.below hb2 k1.lt
  have n2 := k2.below hb2 k2.lt
  have n3 := k3.below hb2 k3.lt
  have n4 := k4.below hb2 k4.lt
  obtain ⟨r0, r1, r2, r3, r4, r5, r6⟩ := at7 n1
  obtain ⟨f0, f1, f2, f3, f4, f5, f6⟩ := fr7 n1
  obtain ⟨s0, s1, s2, s3, s4⟩ := at5 n2
  obtain ⟨t0, t1, t2, t3, t4, t5, t6⟩ := at7 n3
  obtain ⟨g0, g1, g2, g3, g4, g5, g6⟩ := fr7 n3
  obtain ⟨y0, y1⟩ := at2 n4
  obtain ⟨z0, z1⟩ := fr2 n4
  go_wp2
  exact bodyPost_ret (run_res_four rfl rfl rfl rfl rfl (blk_far2 (blk_put7 n3) (by omega)) (blk_put2 (blk_far7 n4 (by omega))) _ _ Try.underlying26 rfl (by kernel_rfl) Try.underlying30 rfl (by kernel_rfl)) rfl ⟨rfl, below_put2 (below_put7 B2 (by omega)) (by omega)⟩
theorem st_eta {T : St} {ne tak : Int} (h1 : T.ne = ne) (h2 : T.tak = tak) : T = ⟨T.sn, ne, T.q, T.op, T.em, T.ack, tak⟩ := by
  subst h1
  subst h2
  rfl
/-- What Take leaves of a valid PDU. -/
def RTPost (Q : Option Addr) (m : Nat) (w : World) (T : St) (F acked : Bool) (G : Pkt) (e : Ending) (w' : World) : Prop :=
  ∃ Q' m' cap' qs p, e = .returned (.tuple #[.agg #[.int .i64 T.sn, .int .i64 T.ne, .slice Q' m' cap', .bool T.op, .bool T.em, .int .i64 T.ack, .int .i64 T.tak], .agg #[.int .i64 p.id, .slice p.A p.n p.c], .bool F, .bool acked]) ∧ Has w' Q' m' cap' qs T.q ∧ Loc w Q m Q' m' ∧ Pay w' p ∧ p.abs = G ∧ Below w.heap.size w w'
theorem rt_mk {Q : Option Addr} {m hi : Nat} {w w' : World} {T : St} {F F' acked : Bool} {G : Pkt} {sn ne ack tak : Int} {op em : Bool} {q : List Pkt} {Q' : Option Addr} {m' cap' : Nat} {qs : List Pk} {p : Pk} (hT : T = ⟨sn, ne, q, op, em, ack, tak⟩) (hF : F = F') (hh : w.heap.size ≤ hi) (h1 : HasR (fun a => 0 < m ∧ Q = some a) w.heap.size hi w' Q' m' cap' qs q) (h2 : Pay w' p) (h3 : p.abs = G) (h4 : Below w.heap.size w w') :
    RTPost Q m w T F acked G (.returned (.tuple #[.agg #[.int .i64 sn, .int .i64 ne, .slice Q' m' cap', .bool op, .bool em, .int .i64 ack, .int .i64 tak], .agg #[.int .i64 p.id, .slice p.A p.n p.c], .bool F', .bool acked])) w' := by
  subst hT
  subst hF
  exact ⟨Q', m', cap', qs, p, rfl, h1.has, fun h0 a ha => (h1.loc h0 a ha).imp id (Nat.le_trans hh), h2, h3, h4⟩
set_option maxHeartbeats 4000000 in
theorem rtake_yes (sn ne ack tak : Int) (op em : Bool) (Q : Option Addr) (m cap : Nat) (ps : List Pk) (psn pne pmd id : Int) (A : Option Addr) (n c : Nat) (l : List Nat) (w : World) (hQ : PRd w Q m ps) (hmc : m ≤ cap) (hm : m ≤ 100000) (hp : Pay w ⟨id, A, n, c, l⟩) (hok : dchk psn pne pmd id n = 0) (hs0 : 0 ≤ sn) (hs1 : sn ≤ 1) (hn0 : 0 ≤ ne) (hn1 : ne ≤ 1) (ha0 : 0 ≤ ack) (ha1 : ack ≤ 100000) (ht0 : 0 ≤ tak) (ht1 : tak ≤ 100000) :
    Calls Try.prog 17 #[.agg #[.int .i64 sn, .int .i64 ne, .slice Q m cap, .bool op, .bool em, .int .i64 ack, .int .i64 tak], .agg #[.int .i64 psn, .int .i64 pne, .int .i64 pmd, .int .i64 id, .slice A n c]] w (RTPost Q m w (tk2 (tk1 (⟨sn, ne, ps.map Pk.abs, op, em, ack, tak⟩ : St) pne) psn id n) (tkF (tk1 (⟨sn, ne, ps.map Pk.abs, op, em, ack, tak⟩ : St) pne) psn id n) (tkA (⟨sn, ne, ps.map Pk.abs, op, em, ack, tak⟩ : St) pne) (tkG (tkF (tk1 (⟨sn, ne, ps.map Pk.abs, op, em, ack, tak⟩ : St) pne) psn id n) id l)) := by
  have hB : Below w.heap.size w ((((w.alloc (.cells #[.int .i64 sn, .int .i64 ne, .slice Q m cap, .bool op, .bool em, .int .i64 ack, .int .i64 tak] 26)).alloc (.cells #[.int .i64 psn, .int .i64 pne, .int .i64 pmd, .int .i64 id, .slice A n c] 32)).alloc (.cells #[.int .i64 0, .int .i64 0, .slice none 0 0, .bool false, .bool false, .int .i64 0, .int .i64 0] 26)).alloc (.cells #[.int .i64 0, .slice none 0 0] 30)) := (((((Below.refl _ _).alloc (Nat.le_refl _) _).alloc (by simp) _).alloc (by simp; omega) _).alloc (by simp; omega) _)
  have k1 : Blk ((((w.alloc (.cells #[.int .i64 sn, .int .i64 ne, .slice Q m cap, .bool op, .bool em, .int .i64 ack, .int .i64 tak] 26)).alloc (.cells #[.int .i64 psn, .int .i64 pne, .int .i64 pmd, .int .i64 id, .slice A n c] 32)).alloc (.cells #[.int .i64 0, .int .i64 0, .slice none 0 0, .bool false, .bool false, .int .i64 0, .int .i64 0] 26)).alloc (.cells #[.int .i64 0, .slice none 0 0] 30)) w.heap.size 26 #[.int .i64 sn, .int .i64 ne, .slice Q m cap, .bool op, .bool em, .int .i64 ack, .int .i64 tak] := ((((Blk.new _ _ _).alloc _).alloc _).alloc _)
  have k2 : Blk ((((w.alloc (.cells #[.int .i64 sn, .int .i64 ne, .slice Q m cap, .bool op, .bool em, .int .i64 ack, .int .i64 tak] 26)).alloc (.cells #[.int .i64 psn, .int .i64 pne, .int .i64 pmd, .int .i64 id, .slice A n c] 32)).alloc (.cells #[.int .i64 0, .int .i64 0, .slice none 0 0, .bool false, .bool false, .int .i64 0, .int .i64 0] 26)).alloc (.cells #[.int .i64 0, .slice none 0 0] 30)) (w.heap.size + 1) 32 #[.int .i64 psn, .int .i64 pne, .int .i64 pmd, .int .i64 id, .slice A n c] := (((blk_new2 (by simp)).alloc _).alloc _)
  have k3 : Blk ((((w.alloc (.cells #[.int .i64 sn, .int .i64 ne, .slice Q m cap, .bool op, .bool em, .int .i64 ack, .int .i64 tak] 26)).alloc (.cells #[.int .i64 psn, .int .i64 pne, .int .i64 pmd, .int .i64 id, .slice A n c] 32)).alloc (.cells #[.int .i64 0, .int .i64 0, .slice none 0 0, .bool false, .bool false, .int .i64 0, .int .i64 0] 26)).alloc (.cells #[.int .i64 0, .slice none 0 0] 30)) (w.heap.size + 2) 26 #[.int .i64 0, .int .i64 0, .slice none 0 0, .bool false, .bool false, .int .i64 0, .int .i64 0] := ((blk_new2 (by simp)).alloc _)
  have k4 : Blk ((((w.alloc (.cells #[.int .i64 sn, .int .i64 ne, .slice Q m cap, .bool op, .bool em, .int .i64 ack, .int .i64 tak] 26)).alloc (.cells #[.int .i64 psn, .int .i64 pne, .int .i64 pmd, .int .i64 id, .slice A n c] 32)).alloc (.cells #[.int .i64 0, .int .i64 0, .slice none 0 0, .bool false, .bool false, .int .i64 0, .int .i64 0] 26)).alloc (.cells #[.int .i64 0, .slice none 0 0] 30)) (w.heap.size + 3) 30 #[.int .i64 0, .slice none 0 0] := (blk_new2 (by simp))
  have HD := hide hok
  clear hok
  go_enter Try.func17, Try.ntmps17
  go_wp2_with fail
  refine (rcheck_any psn pne pmd id A n c _).mono ?_
  rintro e w2 ⟨rfl, hb2⟩
  rw [HD.out]
  have B2 := hB.trans (hb2.mono hB.size)
  have n1 := k1.below hb2 k1.lt
  have n2 := k2.below hb2 k2.lt
  have n3 := k3.below hb2 k3.lt
  have n4 := k4.below hb2 k4.lt
  have hX4 := n4.lt
  obtain ⟨r0, r1, r2, r3, r4, r5, r6⟩ := at7 n1
  obtain ⟨f0, f1, f2, f3, f4, f5, f6⟩ := fr7 n1
  obtain ⟨s0, s1, s2, s3, s4⟩ := at5 n2
  obtain ⟨t0, t1, t2, t3, t4, t5, t6⟩ := at7 n3
  obtain ⟨g0, g1, g2, g3, g4, g5, g6⟩ := fr7 n3
  obtain ⟨y0, y1⟩ := at2 n4
  obtain ⟨z0, z1⟩ := fr2 n4
  clear k1 k2 k3 k4 hB
  have HQL := hide hQ.len
  have hHR := hasR_in (w.heap.size + 4) hQ hmc B2
  go_upto_region 3 with (fail)
  go_cut [21] (fun s21 wx => s21 = .bool (tkA (⟨sn, ne, ps.map Pk.abs, op, em, ack, tak⟩ : St) pne) ∧ wx = w2)
  case first =>
    cases op
    · go_wp2
      go_meet
      case rel => exact ⟨rfl, rfl⟩
    · by_cases hps : pne = sn
      · subst hps
        go_wp2
        go_meet
        case rel => exact ⟨by simp [tkA], rfl⟩
      · have hpb : (pne != sn) = true := by rw [bne_iff_ne]; exact hps
        clear hps
        go_wp2
        go_meet
        case rel => exact ⟨by simp [tkA, hpb], rfl⟩
  case rest =>
    obtain ⟨rfl, hwc⟩ := hcut
    subst hwc
    go_upto_if 21 with (fail)
    go_cut [7] (fun s7 wx => s7 = .bool (tkA (⟨sn, ne, ps.map Pk.abs, op, em, ack, tak⟩ : St) pne) ∧ ∃ Q2 m2 cap2 qs2, HasR (fun a => 0 < m ∧ Q = some a) w.heap.size (w.heap.size + 4) wx Q2 m2 cap2 qs2 (tk1 (⟨sn, ne, ps.map Pk.abs, op, em, ack, tak⟩ : St) pne).q ∧ Below w.heap.size w wx ∧ Blk wx w.heap.size 26 #[.int .i64 (tk1 (⟨sn, ne, ps.map Pk.abs, op, em, ack, tak⟩ : St) pne).sn, .int .i64 ne, .slice Q2 m2 cap2, .bool (tk1 (⟨sn, ne, ps.map Pk.abs, op, em, ack, tak⟩ : St) pne).op, .bool (tk1 (⟨sn, ne, ps.map Pk.abs, op, em, ack, tak⟩ : St) pne).em, .int .i64 (tk1 (⟨sn, ne, ps.map Pk.abs, op, em, ack, tak⟩ : St) pne).ack, .int .i64 tak] ∧ Blk wx (w.heap.size + 1) 32 #[.int .i64 psn, .int .i64 pne, .int .i64 pmd, .int .i64 id, .slice A n c] ∧ Blk wx (w.heap.size + 2) 26 #[.int .i64 0, .int .i64 0, .slice none 0 0, .bool false, .bool false, .int .i64 0, .int .i64 0] ∧ Blk wx (w.heap.size + 3) 30 #[.int .i64 0, .slice none 0 0])
    case first =>
      cases hA : tkA (⟨sn, ne, ps.map Pk.abs, op, em, ack, tak⟩ : St) pne with
      | false =>
        have HA := hide hA
        clear hA
        go_wp2
        go_meet
        case rel =>
          rw [tk1_no HA.out]
          exact ⟨by rw [HA.out], Q, m, cap, ps, hHR, B2, n1, n2, n3, n4⟩
      | true =>
        obtain ⟨hop, hne⟩ := tkA_iff hA
        have HA := hide hA
        simp only at hop
        subst hop
        clear hA hne
        cases em
        · rcases Nat.eq_zero_or_pos m with hm0 | hm0
          · have hm1 : (m : Int) ≤ 0 := by omega
            have HM := hide hm0
            clear hm0
            go_wp2
            go_meet
            case rel =>
              rw [tk1_keep HA.out (.inr (by simp [HQL.out, HM.out]))]
              exact ⟨by rw [HA.out], Q, m, cap, ps, (((hHR.set (g := w.heap.size) (i := 0) (u := .int .i64 (1 - sn)) (Nat.le_refl _) (by omega)).set (g := w.heap.size) (i := 3) (u := .bool false) (Nat.le_refl _) (by omega)).set (g := w.heap.size) (i := 4) (u := .bool false) (Nat.le_refl _) (by omega)), (((B2.setCell (p := ⟨w.heap.size, 0, none⟩) (Nat.le_refl _) (.int .i64 (1 - sn))).setCell (p := ⟨w.heap.size, 3, none⟩) (Nat.le_refl _) (.bool false)).setCell (p := ⟨w.heap.size, 4, none⟩) (Nat.le_refl _) (.bool false)), by simpa using (((n1.set_ 0 (.int .i64 (1 - sn))).set_ 3 (.bool false)).set_ 4 (.bool false)), (((n2.far (p := ⟨w.heap.size, 0, none⟩) (by simp) (.int .i64 (1 - sn))).far (p := ⟨w.heap.size, 3, none⟩) (by simp) (.bool false)).far (p := ⟨w.heap.size, 4, none⟩) (by simp) (.bool false)), (((n3.far (p := ⟨w.heap.size, 0, none⟩) (by simp) (.int .i64 (1 - sn))).far (p := ⟨w.heap.size, 3, none⟩) (by simp) (.bool false)).far (p := ⟨w.heap.size, 4, none⟩) (by simp) (.bool false)), (((n4.far (p := ⟨w.heap.size, 0, none⟩) (by simp) (.int .i64 (1 - sn))).far (p := ⟨w.heap.size, 3, none⟩) (by simp) (.bool false)).far (p := ⟨w.heap.size, 4, none⟩) (by simp) (.bool false))⟩
          · have hm1 : (0 : Int) < (m : Int) := by omega
            have hcp1 : (m : Int) ≤ (cap : Int) := by omega
            have hQ2 := hQ
            obtain ⟨b, o, rfl, hbw, _⟩ := hQ2.1.2 hm0
            have BS := B2.setCell (p := ⟨w.heap.size, 0, none⟩) (Nat.le_refl _) (.int .i64 (1 - sn))
            have BA := BS.alloc BS.size (.cells #[] 30)
            have nb1 : Blk (wc.setCell ⟨w.heap.size, 0, none⟩ (.int .i64 (1 - sn))) w.heap.size 26 #[.int .i64 (1 - sn), .int .i64 ne, .slice (some ⟨b, o, none⟩) m cap, .bool true, .bool false, .int .i64 ack, .int .i64 tak] := by simpa using n1.set_ 0 (.int .i64 (1 - sn))
            have na1 := nb1.alloc (.cells #[] 30)
            have na2 := (n2.far (p := ⟨w.heap.size, 0, none⟩) (by simp) (.int .i64 (1 - sn))).alloc (.cells #[] 30)
            have na3 := (n3.far (p := ⟨w.heap.size, 0, none⟩) (by simp) (.int .i64 (1 - sn))).alloc (.cells #[] 30)
            have na4 := (n4.far (p := ⟨w.heap.size, 0, none⟩) (by simp) (.int .i64 (1 - sn))).alloc (.cells #[] 30)
            have HO0 : ((wc.setCell ⟨w.heap.size, 0, none⟩ (.int .i64 (1 - sn))).alloc (.cells #[] 30)).ownsRow (w.heap.size + 4) 30 2 (.slice (some ⟨wc.heap.size, 0, none⟩) 0 0) 0 [] := own_made2 (by simp) (by omega)
            have hz0 : w.heap.size + 4 ≤ ((wc.setCell ⟨w.heap.size, 0, none⟩ (.int .i64 (1 - sn))).alloc (.cells #[] 30)).heap.size := by simp; omega
            have hle0 : ∀ k, (Value.slice (some ⟨wc.heap.size, 0, none⟩) 0 0).ownBlock = some k → w.heap.size ≤ k := by intro k hk; simp [Value.ownBlock] at hk; omega
            have hne1 : some w.heap.size ≠ (Value.slice (some ⟨wc.heap.size, 0, none⟩) 0 0).ownBlock := by simp [Value.ownBlock]; omega
            have hne2 : some (w.heap.size + 1) ≠ (Value.slice (some ⟨wc.heap.size, 0, none⟩) 0 0).ownBlock := by simp [Value.ownBlock]; omega
            have hne3 : some (w.heap.size + 2) ≠ (Value.slice (some ⟨wc.heap.size, 0, none⟩) 0 0).ownBlock := by simp [Value.ownBlock]; omega
            have hne4 : some (w.heap.size + 3) ≠ (Value.slice (some ⟨wc.heap.size, 0, none⟩) 0 0).ownBlock := by simp [Value.ownBlock]; omega
            have hX1 := n1.lt
            have hX2 := n2.lt
            have hX3 := n3.lt
            obtain ⟨x0, x1, x2, x3, x4, x5, x6⟩ := at7 na1
            rcases Nat.lt_or_ge 1 m with hm2 | hm2
            · have hm2' : (1 : Int) < (m : Int) := by omega
              have hm3' : (1 : Int) < (cap : Int) := by omega
              have hm4' : ¬ cap = 1 := by omega
              have hm5' : ¬ cap - 1 = 0 := by omega
              have hsrc := (hQ2.drop (k := 1) (by omega)).below BA
              simp only [Nat.one_mul] at hsrc
              go_wp2_with (at_builtin; refine wpList_append_rd _ rfl (.tmp 35) (.tmp 38) _ rfl (w.heap.size + 4) 30 (.agg #[.int .i64 0, .slice none 0 0]) 2 32 underP infoP rfl (by omega) (.slice (some ⟨wc.heap.size, 0, none⟩) 0 0) 0 [] rfl HO0 (some ⟨b, o + 2, none⟩) (m - 1) (cap - 1) (pv (ps.drop 1)) rfl hsrc.1 (pv_one _) (by omega) (by omega) hz0 ?_; intro v5 w5 hown5 hg5 _; rw [Nat.zero_add, List.nil_append] at hown5; have n1 := na1.grown hg5 hne1; have n2 := na2.grown hg5 hne2; have n3 := na3.grown hg5 hne3; have n4 := na4.grown hg5 hne4; have B5 := BA.grown hg5 BA.size hle0; obtain ⟨A5, c5, hv5, hc5, _, hr5⟩ := own_rdn hown5; rw [hv5] at hown5; rw [hv5]; obtain ⟨r0, r1, r2, r3, r4, r5, r6⟩ := at7 n1; obtain ⟨f0, f1, f2, f3, f4, f5, f6⟩ := fr7 n1)
              go_meet
              case rel =>
                rw [tk1_pop HA.out rfl (by simp [HQL.out]; omega)]
                have HN := hasR_own (w := w) (Z := fun a => 0 < m ∧ (some ⟨b, o, none⟩ : Option Addr) = some a) hown5 hc5 (fun q hq => hQ.2 q (List.mem_of_mem_drop hq)) B5
                rw [List.map_drop] at HN
                exact ⟨by rw [HA.out], A5, m - 1, c5, ps.drop 1, ((((HN.set (g := w.heap.size) (i := 2) (u := .slice A5 (m - 1) c5) (Nat.le_refl _) (by omega)).set (g := w.heap.size) (i := 5) (u := .int .i64 (ack + 1)) (Nat.le_refl _) (by omega)).set (g := w.heap.size) (i := 3) (u := .bool false) (Nat.le_refl _) (by omega)).set (g := w.heap.size) (i := 4) (u := .bool false) (Nat.le_refl _) (by omega)), ((((B5.setCell (p := ⟨w.heap.size, 2, none⟩) (Nat.le_refl _) (.slice A5 (m - 1) c5)).setCell (p := ⟨w.heap.size, 5, none⟩) (Nat.le_refl _) (.int .i64 (ack + 1))).setCell (p := ⟨w.heap.size, 3, none⟩) (Nat.le_refl _) (.bool false)).setCell (p := ⟨w.heap.size, 4, none⟩) (Nat.le_refl _) (.bool false)), by simpa using ((((n1.set_ 2 (.slice A5 (m - 1) c5)).set_ 5 (.int .i64 (ack + 1))).set_ 3 (.bool false)).set_ 4 (.bool false)), ((((n2.far (p := ⟨w.heap.size, 2, none⟩) (by simp) (.slice A5 (m - 1) c5)).far (p := ⟨w.heap.size, 5, none⟩) (by simp) (.int .i64 (ack + 1))).far (p := ⟨w.heap.size, 3, none⟩) (by simp) (.bool false)).far (p := ⟨w.heap.size, 4, none⟩) (by simp) (.bool false)), ((((n3.far (p := ⟨w.heap.size, 2, none⟩) (by simp) (.slice A5 (m - 1) c5)).far (p := ⟨w.heap.size, 5, none⟩) (by simp) (.int .i64 (ack + 1))).far (p := ⟨w.heap.size, 3, none⟩) (by simp) (.bool false)).far (p := ⟨w.heap.size, 4, none⟩) (by simp) (.bool false)), ((((n4.far (p := ⟨w.heap.size, 2, none⟩) (by simp) (.slice A5 (m - 1) c5)).far (p := ⟨w.heap.size, 5, none⟩) (by simp) (.int .i64 (ack + 1))).far (p := ⟨w.heap.size, 3, none⟩) (by simp) (.bool false)).far (p := ⟨w.heap.size, 4, none⟩) (by simp) (.bool false))⟩
            · obtain rfl : m = 1 := by omega
              by_cases hc1 : cap = 1
              · subst hc1
                go_wp2_with (at_builtin; refine wpList_append_rd _ rfl (.tmp 35) (.tmp 38) _ rfl (w.heap.size + 4) 30 (.agg #[.int .i64 0, .slice none 0 0]) 2 32 underP infoP rfl (by omega) (.slice (some ⟨wc.heap.size, 0, none⟩) 0 0) 0 [] rfl HO0 (some ⟨b, o, none⟩) 0 0 (pv []) rfl (Rd.none_ _ _ _) (pv_one _) (by omega) (by omega) hz0 ?_; intro v5 w5 hown5 hg5 _; rw [Nat.zero_add, List.nil_append] at hown5; have n1 := na1.grown hg5 hne1; have n2 := na2.grown hg5 hne2; have n3 := na3.grown hg5 hne3; have n4 := na4.grown hg5 hne4; have B5 := BA.grown hg5 BA.size hle0; obtain ⟨A5, c5, hv5, hc5, _, hr5⟩ := own_rdn hown5; rw [hv5] at hown5; rw [hv5]; obtain ⟨r0, r1, r2, r3, r4, r5, r6⟩ := at7 n1; obtain ⟨f0, f1, f2, f3, f4, f5, f6⟩ := fr7 n1)
                go_meet
                case rel =>
                  rw [tk1_pop HA.out rfl (by simp [HQL.out])]
                  have hnil : (ps.map Pk.abs).drop 1 = [] := List.drop_eq_nil_of_le (by simp [HQL.out])
                  have HN := hasR_own (w := w) (Z := fun a => 0 < 1 ∧ (some ⟨b, o, none⟩ : Option Addr) = some a) (qs := []) hown5 hc5 (fun q hq => by cases hq) B5
                  simp only [hnil]
                  exact ⟨by rw [HA.out], A5, 0, c5, [], ((((HN.set (g := w.heap.size) (i := 2) (u := .slice A5 0 c5) (Nat.le_refl _) (by omega)).set (g := w.heap.size) (i := 5) (u := .int .i64 (ack + 1)) (Nat.le_refl _) (by omega)).set (g := w.heap.size) (i := 3) (u := .bool false) (Nat.le_refl _) (by omega)).set (g := w.heap.size) (i := 4) (u := .bool false) (Nat.le_refl _) (by omega)), ((((B5.setCell (p := ⟨w.heap.size, 2, none⟩) (Nat.le_refl _) (.slice A5 0 c5)).setCell (p := ⟨w.heap.size, 5, none⟩) (Nat.le_refl _) (.int .i64 (ack + 1))).setCell (p := ⟨w.heap.size, 3, none⟩) (Nat.le_refl _) (.bool false)).setCell (p := ⟨w.heap.size, 4, none⟩) (Nat.le_refl _) (.bool false)), by simpa using ((((n1.set_ 2 (.slice A5 0 c5)).set_ 5 (.int .i64 (ack + 1))).set_ 3 (.bool false)).set_ 4 (.bool false)), ((((n2.far (p := ⟨w.heap.size, 2, none⟩) (by simp) (.slice A5 0 c5)).far (p := ⟨w.heap.size, 5, none⟩) (by simp) (.int .i64 (ack + 1))).far (p := ⟨w.heap.size, 3, none⟩) (by simp) (.bool false)).far (p := ⟨w.heap.size, 4, none⟩) (by simp) (.bool false)), ((((n3.far (p := ⟨w.heap.size, 2, none⟩) (by simp) (.slice A5 0 c5)).far (p := ⟨w.heap.size, 5, none⟩) (by simp) (.int .i64 (ack + 1))).far (p := ⟨w.heap.size, 3, none⟩) (by simp) (.bool false)).far (p := ⟨w.heap.size, 4, none⟩) (by simp) (.bool false)), ((((n4.far (p := ⟨w.heap.size, 2, none⟩) (by simp) (.slice A5 0 c5)).far (p := ⟨w.heap.size, 5, none⟩) (by simp) (.int .i64 (ack + 1))).far (p := ⟨w.heap.size, 3, none⟩) (by simp) (.bool false)).far (p := ⟨w.heap.size, 4, none⟩) (by simp) (.bool false))⟩
              · have hm5' : ¬ cap - 1 = 0 := by omega
                have hm3' : (1 : Int) < (cap : Int) := by omega
                go_wp2_with (at_builtin; refine wpList_append_rd _ rfl (.tmp 35) (.tmp 38) _ rfl (w.heap.size + 4) 30 (.agg #[.int .i64 0, .slice none 0 0]) 2 32 underP infoP rfl (by omega) (.slice (some ⟨wc.heap.size, 0, none⟩) 0 0) 0 [] rfl HO0 (some ⟨b, o + 2, none⟩) 0 (cap - 1) (pv []) rfl (Rd.none_ _ _ _) (pv_one _) (by omega) (by omega) hz0 ?_; intro v5 w5 hown5 hg5 _; rw [Nat.zero_add, List.nil_append] at hown5; have n1 := na1.grown hg5 hne1; have n2 := na2.grown hg5 hne2; have n3 := na3.grown hg5 hne3; have n4 := na4.grown hg5 hne4; have B5 := BA.grown hg5 BA.size hle0; obtain ⟨A5, c5, hv5, hc5, _, hr5⟩ := own_rdn hown5; rw [hv5] at hown5; rw [hv5]; obtain ⟨r0, r1, r2, r3, r4, r5, r6⟩ := at7 n1; obtain ⟨f0, f1, f2, f3, f4, f5, f6⟩ := fr7 n1)
                go_meet
                case rel =>
                  rw [tk1_pop HA.out rfl (by simp [HQL.out])]
                  have hnil : (ps.map Pk.abs).drop 1 = [] := List.drop_eq_nil_of_le (by simp [HQL.out])
                  have HN := hasR_own (w := w) (Z := fun a => 0 < 1 ∧ (some ⟨b, o, none⟩ : Option Addr) = some a) (qs := []) hown5 hc5 (fun q hq => by cases hq) B5
                  simp only [hnil]
                  exact ⟨by rw [HA.out], A5, 0, c5, [], ((((HN.set (g := w.heap.size) (i := 2) (u := .slice A5 0 c5) (Nat.le_refl _) (by omega)).set (g := w.heap.size) (i := 5) (u := .int .i64 (ack + 1)) (Nat.le_refl _) (by omega)).set (g := w.heap.size) (i := 3) (u := .bool false) (Nat.le_refl _) (by omega)).set (g := w.heap.size) (i := 4) (u := .bool false) (Nat.le_refl _) (by omega)), ((((B5.setCell (p := ⟨w.heap.size, 2, none⟩) (Nat.le_refl _) (.slice A5 0 c5)).setCell (p := ⟨w.heap.size, 5, none⟩) (Nat.le_refl _) (.int .i64 (ack + 1))).setCell (p := ⟨w.heap.size, 3, none⟩) (Nat.le_refl _) (.bool false)).setCell (p := ⟨w.heap.size, 4, none⟩) (Nat.le_refl _) (.bool false)), by simpa using ((((n1.set_ 2 (.slice A5 0 c5)).set_ 5 (.int .i64 (ack + 1))).set_ 3 (.bool false)).set_ 4 (.bool false)), ((((n2.far (p := ⟨w.heap.size, 2, none⟩) (by simp) (.slice A5 0 c5)).far (p := ⟨w.heap.size, 5, none⟩) (by simp) (.int .i64 (ack + 1))).far (p := ⟨w.heap.size, 3, none⟩) (by simp) (.bool false)).far (p := ⟨w.heap.size, 4, none⟩) (by simp) (.bool false)), ((((n3.far (p := ⟨w.heap.size, 2, none⟩) (by simp) (.slice A5 0 c5)).far (p := ⟨w.heap.size, 5, none⟩) (by simp) (.int .i64 (ack + 1))).far (p := ⟨w.heap.size, 3, none⟩) (by simp) (.bool false)).far (p := ⟨w.heap.size, 4, none⟩) (by simp) (.bool false)), ((((n4.far (p := ⟨w.heap.size, 2, none⟩) (by simp) (.slice A5 0 c5)).far (p := ⟨w.heap.size, 5, none⟩) (by simp) (.int .i64 (ack + 1))).far (p := ⟨w.heap.size, 3, none⟩) (by simp) (.bool false)).far (p := ⟨w.heap.size, 4, none⟩) (by simp) (.bool false))⟩
        · go_wp2
          go_meet
          case rel =>
            rw [tk1_keep HA.out (.inl rfl)]
            exact ⟨by rw [HA.out], Q, m, cap, ps, (((hHR.set (g := w.heap.size) (i := 0) (u := .int .i64 (1 - sn)) (Nat.le_refl _) (by omega)).set (g := w.heap.size) (i := 3) (u := .bool false) (Nat.le_refl _) (by omega)).set (g := w.heap.size) (i := 4) (u := .bool false) (Nat.le_refl _) (by omega)), (((B2.setCell (p := ⟨w.heap.size, 0, none⟩) (Nat.le_refl _) (.int .i64 (1 - sn))).setCell (p := ⟨w.heap.size, 3, none⟩) (Nat.le_refl _) (.bool false)).setCell (p := ⟨w.heap.size, 4, none⟩) (Nat.le_refl _) (.bool false)), by simpa using (((n1.set_ 0 (.int .i64 (1 - sn))).set_ 3 (.bool false)).set_ 4 (.bool false)), (((n2.far (p := ⟨w.heap.size, 0, none⟩) (by simp) (.int .i64 (1 - sn))).far (p := ⟨w.heap.size, 3, none⟩) (by simp) (.bool false)).far (p := ⟨w.heap.size, 4, none⟩) (by simp) (.bool false)), (((n3.far (p := ⟨w.heap.size, 0, none⟩) (by simp) (.int .i64 (1 - sn))).far (p := ⟨w.heap.size, 3, none⟩) (by simp) (.bool false)).far (p := ⟨w.heap.size, 4, none⟩) (by simp) (.bool false)), (((n4.far (p := ⟨w.heap.size, 0, none⟩) (by simp) (.int .i64 (1 - sn))).far (p := ⟨w.heap.size, 3, none⟩) (by simp) (.bool false)).far (p := ⟨w.heap.size, 4, none⟩) (by simp) (.bool false))⟩
    case rest =>
        obtain ⟨rfl, Q2, m2, cap2, qs2, hF, B3, n1, n2, n3, n4⟩ := hcut
        clear hHR
        have hTne : (tk1 (⟨sn, ne, ps.map Pk.abs, op, em, ack, tak⟩ : St) pne).ne = ne ∧ (tk1 (⟨sn, ne, ps.map Pk.abs, op, em, ack, tak⟩ : St) pne).tak = tak := ⟨rfl, rfl⟩
        obtain ⟨T, hT⟩ : ∃ T, T = (tk1 (⟨sn, ne, ps.map Pk.abs, op, em, ack, tak⟩ : St) pne) := ⟨_, rfl⟩
        rw [← hT] at hF n1 hTne
        have HT := hide hT
        have HN := hide hTne
        clear hT hTne
        have hX4 := n4.lt
        obtain ⟨r0, r1, r2, r3, r4, r5, r6⟩ := at7 n1
        obtain ⟨f0, f1, f2, f3, f4, f5, f6⟩ := fr7 n1
        obtain ⟨s0, s1, s2, s3, s4⟩ := at5 n2
        obtain ⟨t0, t1, t2, t3, t4, t5, t6⟩ := at7 n3
        obtain ⟨g0, g1, g2, g3, g4, g5, g6⟩ := fr7 n3
        obtain ⟨y0, y1⟩ := at2 n4
        obtain ⟨z0, z1⟩ := fr2 n4
        rcases (show psn ≠ ne ∨ (psn = ne ∧ dblank id n = true) ∨ (psn = ne ∧ dblank id n = false) from by
          by_cases h : psn = ne
          · cases dblank id n
            · exact .inr (.inr ⟨h, rfl⟩)
            · exact .inr (.inl ⟨h, rfl⟩)
          · exact .inl h) with h | ⟨rfl, h⟩ | ⟨rfl, h⟩
        · have hb1 : (psn == ne) = false := by rw [beq_eq_false_iff_ne]; exact h
          have H2 := hide (tk2_no (s := T) (psn := psn) (id := id) (n := n) (by rw [HN.out.1]; exact h))
          clear h
          have H3 := hide (st_eta HN.out.1 HN.out.2)
          go_wp2
          exact bodyPost_ret (run_res_four rfl rfl rfl rfl rfl (blk_far2 (blk_put7 n3) (by omega)) (blk_put2 (blk_far7 n4 (by omega))) _ _ Try.underlying26 rfl (by kernel_rfl) Try.underlying30 rfl (by kernel_rfl)) rfl (rt_mk (p := ⟨0, none, 0, 0, []⟩) (by rw [← HT.out, H2.out.1]; exact H3.out) (by rw [← HT.out, H2.out.2]) (Nat.le_add_right _ 4) (((hF.put7 (by omega) (by omega)).put2 (by omega) (by omega))) ((own1_blank 0 _ _).1) (by rw [← HT.out, H2.out.2]; rfl) (below_put2 (below_put7 B3 (by omega)) (by omega)))
        · have H2 := hide (tk2_blank (s := T) (psn := psn) (id := id) (n := n) HN.out.1.symm h)
          have HB := hide h
          clear h
          go_wp2_with fail
          refine (rblank_any id A n c _).mono ?_
          rintro e w4 ⟨rfl, hb4⟩
          rw [HB.out]
          have B3 := (B3.setCell (p := ⟨w.heap.size, 1, none⟩) (Nat.le_refl _) (.int .i64 (1 - psn))).trans (hb4.mono (B3.setCell (p := ⟨w.heap.size, 1, none⟩) (Nat.le_refl _) (.int .i64 (1 - psn))).size)
          have n1 := (show Blk _ w.heap.size 26 #[.int .i64 T.sn, .int .i64 (1 - psn), .slice Q2 m2 cap2, .bool T.op, .bool T.em, .int .i64 T.ack, .int .i64 tak] by simpa using n1.set_ 1 (.int .i64 (1 - psn))).below hb4 (by simp; omega)
          have n2 := (n2.far (p := ⟨w.heap.size, 1, none⟩) (by simp) (.int .i64 (1 - psn))).below hb4 (by simp; omega)
          have n3 := (n3.far (p := ⟨w.heap.size, 1, none⟩) (by simp) (.int .i64 (1 - psn))).below hb4 (by simp; omega)
          have n4 := (n4.far (p := ⟨w.heap.size, 1, none⟩) (by simp) (.int .i64 (1 - psn))).below hb4 (by simp; omega)
          have hF := (hF.set (g := w.heap.size) (i := 1) (u := .int .i64 (1 - psn)) (Nat.le_refl _) (by omega)).below hb4
          obtain ⟨r0, r1, r2, r3, r4, r5, r6⟩ := at7 n1
          obtain ⟨f0, f1, f2, f3, f4, f5, f6⟩ := fr7 n1
          obtain ⟨s0, s1, s2, s3, s4⟩ := at5 n2
          obtain ⟨t0, t1, t2, t3, t4, t5, t6⟩ := at7 n3
          obtain ⟨g0, g1, g2, g3, g4, g5, g6⟩ := fr7 n3
          obtain ⟨y0, y1⟩ := at2 n4
          obtain ⟨z0, z1⟩ := fr2 n4
          go_wp2
          exact bodyPost_ret (run_res_four rfl rfl rfl rfl rfl (blk_far2 (blk_put7 n3) (by omega)) (blk_put2 (blk_far7 n4 (by omega))) _ _ Try.underlying26 rfl (by kernel_rfl) Try.underlying30 rfl (by kernel_rfl)) rfl (rt_mk (p := ⟨0, none, 0, 0, []⟩) (by rw [← HT.out, H2.out.1, HN.out.1, HN.out.2]) (by rw [← HT.out, H2.out.2]) (Nat.le_add_right _ 4) (((hF.put7 (by omega) (by omega)).put2 (by omega) (by omega))) ((own1_blank 0 _ _).1) (by rw [← HT.out, H2.out.2]; rfl) (below_put2 (below_put7 B3 (by omega)) (by omega)))
        · have H2 := hide (tk2_fresh (s := T) (psn := psn) (id := id) (n := n) HN.out.1.symm h)
          have HB := hide h
          clear h
          go_wp2_with fail
          refine (rblank_any id A n c _).mono ?_
          rintro e w4 ⟨rfl, hb4⟩
          rw [HB.out]
          have B3 := (B3.setCell (p := ⟨w.heap.size, 1, none⟩) (Nat.le_refl _) (.int .i64 (1 - psn))).trans (hb4.mono (B3.setCell (p := ⟨w.heap.size, 1, none⟩) (Nat.le_refl _) (.int .i64 (1 - psn))).size)
          have n1 := (show Blk _ w.heap.size 26 #[.int .i64 T.sn, .int .i64 (1 - psn), .slice Q2 m2 cap2, .bool T.op, .bool T.em, .int .i64 T.ack, .int .i64 tak] by simpa using n1.set_ 1 (.int .i64 (1 - psn))).below hb4 (by simp; omega)
          have n2 := (n2.far (p := ⟨w.heap.size, 1, none⟩) (by simp) (.int .i64 (1 - psn))).below hb4 (by simp; omega)
          have n3 := (n3.far (p := ⟨w.heap.size, 1, none⟩) (by simp) (.int .i64 (1 - psn))).below hb4 (by simp; omega)
          have n4 := (n4.far (p := ⟨w.heap.size, 1, none⟩) (by simp) (.int .i64 (1 - psn))).below hb4 (by simp; omega)
          have hF := (hF.set (g := w.heap.size) (i := 1) (u := .int .i64 (1 - psn)) (Nat.le_refl _) (by omega)).below hb4
          have hX4 := n4.lt
          obtain ⟨r0, r1, r2, r3, r4, r5, r6⟩ := at7 n1
          obtain ⟨f0, f1, f2, f3, f4, f5, f6⟩ := fr7 n1
          obtain ⟨s0, s1, s2, s3, s4⟩ := at5 n2
          obtain ⟨t0, t1, t2, t3, t4, t5, t6⟩ := at7 n3
          obtain ⟨g0, g1, g2, g3, g4, g5, g6⟩ := fr7 n3
          obtain ⟨y0, y1⟩ := at2 n4
          obtain ⟨z0, z1⟩ := fr2 n4
          go_wp2_with fail
          go_region
          go_wp2
          have B3 := B3.setCell (p := ⟨w.heap.size, 6, none⟩) (Nat.le_refl _) (.int .i64 (tak + 1))
          have n3 := n3.far (p := ⟨w.heap.size, 6, none⟩) (by simp) (.int .i64 (tak + 1))
          have n4 := n4.far (p := ⟨w.heap.size, 6, none⟩) (by simp) (.int .i64 (tak + 1))
          have hF := hF.set (g := w.heap.size) (i := 6) (u := .int .i64 (tak + 1)) (Nat.le_refl _) (by omega)
          exact bodyPost_ret (run_res_four rfl rfl rfl rfl rfl (blk_far2 (blk_put7 n3) (by omega)).drew (blk_put2 (blk_far7 n4 (by omega))).drew _ _ Try.underlying26 rfl (by kernel_rfl) Try.underlying30 rfl (by kernel_rfl)) rfl (rt_mk (p := ⟨id, A, n, c, l⟩) (by rw [← HT.out, H2.out.1, HN.out.1, HN.out.2]) (by rw [← HT.out, H2.out.2]) (Nat.le_add_right _ 4) (((hF.put7 (by omega) (by omega)).put2 (by omega) (by omega)).drew) (hp.below (below_put2 (below_put7 B3 (by omega)) (by omega)).drew) (by rw [← HT.out, H2.out.2]; rfl) (below_put2 (below_put7 B3 (by omega)) (by omega)).drew)
end Go.Proofs.Ytobljnbpokijdaa
