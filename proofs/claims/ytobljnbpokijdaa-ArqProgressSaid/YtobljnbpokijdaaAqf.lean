/-
  The walk of Queue in the program. Its contract.
-/
import Derived.Test.YtobljnbpokijdaaAqe
import Derived.Deep.Cut
import Derived.Deep.CutRange
import Derived.Deep.DeepCutAuto
namespace Go.Proofs.Ytobljnbpokijdaa
set_option linter.unusedVariables false
set_option linter.unusedSimpArgs false
open Go.RowKit

section
variable {W : World} {g : Nat} {t : TypeId}
theorem at7 {v0 v1 v2 v3 v4 v5 v6 : Value} (h : Blk W g t #[v0, v1, v2, v3, v4, v5, v6]) : W.cell? ⟨g, 0, none⟩ = some v0 ∧ W.cell? ⟨g, 1, none⟩ = some v1 ∧ W.cell? ⟨g, 2, none⟩ = some v2 ∧ W.cell? ⟨g, 3, none⟩ = some v3 ∧ W.cell? ⟨g, 4, none⟩ = some v4 ∧ W.cell? ⟨g, 5, none⟩ = some v5 ∧ W.cell? ⟨g, 6, none⟩ = some v6 :=
  ⟨h.cell 0, h.cell 1, h.cell 2, h.cell 3, h.cell 4, h.cell 5, h.cell 6⟩
theorem fr7 {v0 v1 v2 v3 v4 v5 v6 : Value} (h : Blk W g t #[v0, v1, v2, v3, v4, v5, v6]) : W.frozen? ⟨g, 0, none⟩ = false ∧ W.frozen? ⟨g, 1, none⟩ = false ∧ W.frozen? ⟨g, 2, none⟩ = false ∧ W.frozen? ⟨g, 3, none⟩ = false ∧ W.frozen? ⟨g, 4, none⟩ = false ∧ W.frozen? ⟨g, 5, none⟩ = false ∧ W.frozen? ⟨g, 6, none⟩ = false :=
  ⟨h.frozen 0, h.frozen 1, h.frozen 2, h.frozen 3, h.frozen 4, h.frozen 5, h.frozen 6⟩
theorem at5 {v0 v1 v2 v3 v4 : Value} (h : Blk W g t #[v0, v1, v2, v3, v4]) : W.cell? ⟨g, 0, none⟩ = some v0 ∧ W.cell? ⟨g, 1, none⟩ = some v1 ∧ W.cell? ⟨g, 2, none⟩ = some v2 ∧ W.cell? ⟨g, 3, none⟩ = some v3 ∧ W.cell? ⟨g, 4, none⟩ = some v4 :=
  ⟨h.cell 0, h.cell 1, h.cell 2, h.cell 3, h.cell 4⟩
theorem fr5 {v0 v1 v2 v3 v4 : Value} (h : Blk W g t #[v0, v1, v2, v3, v4]) : W.frozen? ⟨g, 0, none⟩ = false ∧ W.frozen? ⟨g, 1, none⟩ = false ∧ W.frozen? ⟨g, 2, none⟩ = false ∧ W.frozen? ⟨g, 3, none⟩ = false ∧ W.frozen? ⟨g, 4, none⟩ = false :=
  ⟨h.frozen 0, h.frozen 1, h.frozen 2, h.frozen 3, h.frozen 4⟩
theorem at2 {v0 v1 : Value} (h : Blk W g t #[v0, v1]) : W.cell? ⟨g, 0, none⟩ = some v0 ∧ W.cell? ⟨g, 1, none⟩ = some v1 := ⟨h.cell 0, h.cell 1⟩
theorem fr2 {v0 v1 : Value} (h : Blk W g t #[v0, v1]) : W.frozen? ⟨g, 0, none⟩ = false ∧ W.frozen? ⟨g, 1, none⟩ = false := ⟨h.frozen 0, h.frozen 1⟩
/-- A whole struct of seven cells, or of five, or of two, is stored. -/
theorem blk_put7 {v0 v1 v2 v3 v4 v5 v6 u0 u1 u2 u3 u4 u5 u6 : Value} (h : Blk W g t #[v0, v1, v2, v3, v4, v5, v6]) : Blk ((((((((W).setCell ⟨g, 0, none⟩ u0).setCell ⟨g, 1, none⟩ u1).setCell ⟨g, 2, none⟩ u2).setCell ⟨g, 3, none⟩ u3).setCell ⟨g, 4, none⟩ u4).setCell ⟨g, 5, none⟩ u5).setCell ⟨g, 6, none⟩ u6) g t #[u0, u1, u2, u3, u4, u5, u6] := by
  have := blk_fills [(0, u0), (1, u1), (2, u2), (3, u3), (4, u4), (5, u5), (6, u6)] h
  simpa [fills] using this
theorem blk_far7 {g' : Nat} {cs : Array Value} {u0 u1 u2 u3 u4 u5 u6 : Value} (h : Blk W g' t cs) (hne : g' ≠ g) : Blk ((((((((W).setCell ⟨g, 0, none⟩ u0).setCell ⟨g, 1, none⟩ u1).setCell ⟨g, 2, none⟩ u2).setCell ⟨g, 3, none⟩ u3).setCell ⟨g, 4, none⟩ u4).setCell ⟨g, 5, none⟩ u5).setCell ⟨g, 6, none⟩ u6) g' t cs := blk_fills_far (g := g) [(0, u0), (1, u1), (2, u2), (3, u3), (4, u4), (5, u5), (6, u6)] hne h
theorem below_put7 {B : Nat} {w0 : World} {u0 u1 u2 u3 u4 u5 u6 : Value} (h : Below B w0 W) (hg : B ≤ g) : Below B w0 ((((((((W).setCell ⟨g, 0, none⟩ u0).setCell ⟨g, 1, none⟩ u1).setCell ⟨g, 2, none⟩ u2).setCell ⟨g, 3, none⟩ u3).setCell ⟨g, 4, none⟩ u4).setCell ⟨g, 5, none⟩ u5).setCell ⟨g, 6, none⟩ u6) := below_fills [(0, u0), (1, u1), (2, u2), (3, u3), (4, u4), (5, u5), (6, u6)] hg h
theorem rd_put7 {size n : Nat} {A : Option Addr} {xs : List Value} {u0 u1 u2 u3 u4 u5 u6 : Value} (h : Rd W size A n xs) (hp : 0 < n → ∀ a, A = some a → a.block ≠ g) : Rd ((((((((W).setCell ⟨g, 0, none⟩ u0).setCell ⟨g, 1, none⟩ u1).setCell ⟨g, 2, none⟩ u2).setCell ⟨g, 3, none⟩ u3).setCell ⟨g, 4, none⟩ u4).setCell ⟨g, 5, none⟩ u5).setCell ⟨g, 6, none⟩ u6) size A n xs := rd_fills [(0, u0), (1, u1), (2, u2), (3, u3), (4, u4), (5, u5), (6, u6)] h hp
theorem pay_put7 {p : Pk} {u0 u1 u2 u3 u4 u5 u6 : Value} (h : Pay W p) (hp : 0 < p.n → ∀ a, p.A = some a → a.block ≠ g) : Pay ((((((((W).setCell ⟨g, 0, none⟩ u0).setCell ⟨g, 1, none⟩ u1).setCell ⟨g, 2, none⟩ u2).setCell ⟨g, 3, none⟩ u3).setCell ⟨g, 4, none⟩ u4).setCell ⟨g, 5, none⟩ u5).setCell ⟨g, 6, none⟩ u6) p := pay_fills [(0, u0), (1, u1), (2, u2), (3, u3), (4, u4), (5, u5), (6, u6)] h hp
theorem blk_put5 {v0 v1 v2 v3 v4 u0 u1 u2 u3 u4 : Value} (h : Blk W g t #[v0, v1, v2, v3, v4]) : Blk ((((((W).setCell ⟨g, 0, none⟩ u0).setCell ⟨g, 1, none⟩ u1).setCell ⟨g, 2, none⟩ u2).setCell ⟨g, 3, none⟩ u3).setCell ⟨g, 4, none⟩ u4) g t #[u0, u1, u2, u3, u4] := by
  have := blk_fills [(0, u0), (1, u1), (2, u2), (3, u3), (4, u4)] h
  simpa [fills] using this
theorem blk_far5 {g' : Nat} {cs : Array Value} {u0 u1 u2 u3 u4 : Value} (h : Blk W g' t cs) (hne : g' ≠ g) : Blk ((((((W).setCell ⟨g, 0, none⟩ u0).setCell ⟨g, 1, none⟩ u1).setCell ⟨g, 2, none⟩ u2).setCell ⟨g, 3, none⟩ u3).setCell ⟨g, 4, none⟩ u4) g' t cs := blk_fills_far (g := g) [(0, u0), (1, u1), (2, u2), (3, u3), (4, u4)] hne h
theorem below_put5 {B : Nat} {w0 : World} {u0 u1 u2 u3 u4 : Value} (h : Below B w0 W) (hg : B ≤ g) : Below B w0 ((((((W).setCell ⟨g, 0, none⟩ u0).setCell ⟨g, 1, none⟩ u1).setCell ⟨g, 2, none⟩ u2).setCell ⟨g, 3, none⟩ u3).setCell ⟨g, 4, none⟩ u4) := below_fills [(0, u0), (1, u1), (2, u2), (3, u3), (4, u4)] hg h
theorem rd_put5 {size n : Nat} {A : Option Addr} {xs : List Value} {u0 u1 u2 u3 u4 : Value} (h : Rd W size A n xs) (hp : 0 < n → ∀ a, A = some a → a.block ≠ g) : Rd ((((((W).setCell ⟨g, 0, none⟩ u0).setCell ⟨g, 1, none⟩ u1).setCell ⟨g, 2, none⟩ u2).setCell ⟨g, 3, none⟩ u3).setCell ⟨g, 4, none⟩ u4) size A n xs := rd_fills [(0, u0), (1, u1), (2, u2), (3, u3), (4, u4)] h hp
theorem pay_put5 {p : Pk} {u0 u1 u2 u3 u4 : Value} (h : Pay W p) (hp : 0 < p.n → ∀ a, p.A = some a → a.block ≠ g) : Pay ((((((W).setCell ⟨g, 0, none⟩ u0).setCell ⟨g, 1, none⟩ u1).setCell ⟨g, 2, none⟩ u2).setCell ⟨g, 3, none⟩ u3).setCell ⟨g, 4, none⟩ u4) p := pay_fills [(0, u0), (1, u1), (2, u2), (3, u3), (4, u4)] h hp
theorem blk_put2 {v0 v1 u0 u1 : Value} (h : Blk W g t #[v0, v1]) : Blk (((W).setCell ⟨g, 0, none⟩ u0).setCell ⟨g, 1, none⟩ u1) g t #[u0, u1] := by
  have := blk_fills [(0, u0), (1, u1)] h
  simpa [fills] using this
theorem blk_far2 {g' : Nat} {cs : Array Value} {u0 u1 : Value} (h : Blk W g' t cs) (hne : g' ≠ g) : Blk (((W).setCell ⟨g, 0, none⟩ u0).setCell ⟨g, 1, none⟩ u1) g' t cs := blk_fills_far (g := g) [(0, u0), (1, u1)] hne h
theorem below_put2 {B : Nat} {w0 : World} {u0 u1 : Value} (h : Below B w0 W) (hg : B ≤ g) : Below B w0 (((W).setCell ⟨g, 0, none⟩ u0).setCell ⟨g, 1, none⟩ u1) := below_fills [(0, u0), (1, u1)] hg h
theorem rd_put2 {size n : Nat} {A : Option Addr} {xs : List Value} {u0 u1 : Value} (h : Rd W size A n xs) (hp : 0 < n → ∀ a, A = some a → a.block ≠ g) : Rd (((W).setCell ⟨g, 0, none⟩ u0).setCell ⟨g, 1, none⟩ u1) size A n xs := rd_fills [(0, u0), (1, u1)] h hp
theorem pay_put2 {p : Pk} {u0 u1 : Value} (h : Pay W p) (hp : 0 < p.n → ∀ a, p.A = some a → a.block ≠ g) : Pay (((W).setCell ⟨g, 0, none⟩ u0).setCell ⟨g, 1, none⟩ u1) p := pay_fills [(0, u0), (1, u1)] h hp
end
/-- A queue that the call made: its row, its payloads, all in blocks from 'base' on. -/
structure Mine (base : Nat) (w : World) (Q : Option Addr) (m cap : Nat) (qs : List Pk) (L : List Pkt) : Prop where
  own : w.ownsRow base 30 2 (.slice Q m cap) m (pv qs)
  abs : qs.map Pk.abs = L
  pay : ∀ q ∈ qs, Pay w q
  sep : Sep (.slice Q m cap) qs
  low : From base qs
  cap_ : m ≤ cap
theorem Mine.below {base : Nat} {w w' : World} {Q : Option Addr} {m cap : Nat} {qs : List Pk} {L : List Pkt} (h : Mine base w Q m cap qs L) (hb : Below w.heap.size w w') : Mine base w' Q m cap qs L :=
  ⟨own_below h.own hb, h.abs, fun q hq => (h.pay q hq).below hb, h.sep, h.low, h.cap_⟩
theorem Mine.weak {base b2 : Nat} {w : World} {Q : Option Addr} {m cap : Nat} {qs : List Pk} {L : List Pkt} (h : Mine base w Q m cap qs L) (hb : b2 ≤ base) : Mine b2 w Q m cap qs L :=
  ⟨ownsRow_weak h.own hb, h.abs, h.pay, h.sep, fun p hp h0 a ha => Nat.le_trans hb (h.low p hp h0 a ha), h.cap_⟩
theorem Mine.fills {base : Nat} {w : World} {Q : Option Addr} {m cap : Nat} {qs : List Pk} {L : List Pkt} (h : Mine base w Q m cap qs L) {g : Nat} (hg : g < base) (l : List (Nat × Value)) : Mine base (fills w g l) Q m cap qs L :=
  ⟨own_fills l (fun e => by have := (h.own.lt _ e).1; omega) h.own, h.abs, fun q hq => pay_fills l (h.pay q hq) (fun h0 a ha => by have := h.low q hq h0 a ha; omega), h.sep, h.low, h.cap_⟩
theorem Mine.put7 {base : Nat} {W : World} {g : Nat} {Q : Option Addr} {m cap : Nat} {qs : List Pk} {L : List Pkt} {u0 u1 u2 u3 u4 u5 u6 : Value} (h : Mine base W Q m cap qs L) (hg : g < base) : Mine base ((((((((W).setCell ⟨g, 0, none⟩ u0).setCell ⟨g, 1, none⟩ u1).setCell ⟨g, 2, none⟩ u2).setCell ⟨g, 3, none⟩ u3).setCell ⟨g, 4, none⟩ u4).setCell ⟨g, 5, none⟩ u5).setCell ⟨g, 6, none⟩ u6) Q m cap qs L := h.fills hg [(0, u0), (1, u1), (2, u2), (3, u3), (4, u4), (5, u5), (6, u6)]
theorem Mine.put5 {base : Nat} {W : World} {g : Nat} {Q : Option Addr} {m cap : Nat} {qs : List Pk} {L : List Pkt} {u0 u1 u2 u3 u4 : Value} (h : Mine base W Q m cap qs L) (hg : g < base) : Mine base ((((((W).setCell ⟨g, 0, none⟩ u0).setCell ⟨g, 1, none⟩ u1).setCell ⟨g, 2, none⟩ u2).setCell ⟨g, 3, none⟩ u3).setCell ⟨g, 4, none⟩ u4) Q m cap qs L := h.fills hg [(0, u0), (1, u1), (2, u2), (3, u3), (4, u4)]
theorem Mine.put2 {base : Nat} {W : World} {g : Nat} {Q : Option Addr} {m cap : Nat} {qs : List Pk} {L : List Pkt} {u0 u1 : Value} (h : Mine base W Q m cap qs L) (hg : g < base) : Mine base (((W).setCell ⟨g, 0, none⟩ u0).setCell ⟨g, 1, none⟩ u1) Q m cap qs L := h.fills hg [(0, u0), (1, u1)]
theorem Mine.drew {base : Nat} {w : World} {Q : Option Addr} {m cap : Nat} {qs : List Pk} {L : List Pkt} (h : Mine base w Q m cap qs L) : Mine base w.drew Q m cap qs L := ⟨own_drew h.own, h.abs, fun q hq => (h.pay q hq).drew, h.sep, h.low, h.cap_⟩
theorem Mine.set {base : Nat} {w : World} {Q : Option Addr} {m cap : Nat} {qs : List Pk} {L : List Pkt} {g i : Nat} {u : Value} (h : Mine base w Q m cap qs L) (hg : g < base) : Mine base (w.setCell ⟨g, i, none⟩ u) Q m cap qs L := h.fills hg [(i, u)]
/-- A queue that a call handed back: what it reads as; its cells and payloads lie in blocks from 'base' on. -/
structure Fresh (base : Nat) (w : World) (Q : Option Addr) (m cap : Nat) (qs : List Pk) (L : List Pkt) : Prop where
  rd : PRd w Q m qs
  abs : qs.map Pk.abs = L
  at_ : 0 < m → ∀ a, Q = some a → base ≤ a.block
  low : From base qs
  cap_ : m ≤ cap
theorem Mine.fresh {base : Nat} {w : World} {Q : Option Addr} {m cap : Nat} {qs : List Pk} {L : List Pkt} (h : Mine base w Q m cap qs L) : Fresh base w Q m cap qs L := by
  obtain ⟨A, c, hv, _, _, hr⟩ := own_rdn h.own
  injection hv with e1 _ _
  subst e1
  refine ⟨⟨hr, h.pay⟩, h.abs, fun h0 a ha => ?_, h.low, h.cap_⟩
  subst ha
  exact (h.own.lt a.block rfl).1
theorem Fresh.below {base : Nat} {w w' : World} {Q : Option Addr} {m cap : Nat} {qs : List Pk} {L : List Pkt} (h : Fresh base w Q m cap qs L) (hb : Below w.heap.size w w') : Fresh base w' Q m cap qs L :=
  ⟨h.rd.below hb, h.abs, h.at_, h.low, h.cap_⟩
theorem Fresh.weak {base b2 : Nat} {w : World} {Q : Option Addr} {m cap : Nat} {qs : List Pk} {L : List Pkt} (h : Fresh base w Q m cap qs L) (hb : b2 ≤ base) : Fresh b2 w Q m cap qs L :=
  ⟨h.rd, h.abs, fun h0 a ha => Nat.le_trans hb (h.at_ h0 a ha), fun p hp h0 a ha => Nat.le_trans hb (h.low p hp h0 a ha), h.cap_⟩
/-- What 'own' leaves, as one fact. -/
theorem mine2_any (sn ne ack tak : Int) (op em : Bool) (Q : Option Addr) (m cap : Nat) (ps : List Pk) (w : World) (hQ : PRd w Q m ps) (hm : m ≤ 100000) :
    Calls Try.prog 26 #[.agg #[.int .i64 sn, .int .i64 ne, .slice Q m cap, .bool op, .bool em, .int .i64 ack, .int .i64 tak]] w fun e w' =>
      ∃ Q' cap' qs, e = .returned (.agg #[.int .i64 sn, .int .i64 ne, .slice Q' m cap', .bool op, .bool em, .int .i64 ack, .int .i64 tak]) ∧ Mine w.heap.size w' Q' m cap' qs (ps.map Pk.abs) ∧ Below w.heap.size w w' :=
  (mine_any sn ne ack tak op em Q m cap ps w hQ hm).mono fun _ _ ⟨Q', cap', qs, he, h1, h2, h3, h4, h5, h6, h7⟩ => ⟨Q', cap', qs, he, ⟨h1, h2, h3, h4, h5, h6⟩, h7⟩

/-- What Queue answers to a packet, and the queue then. -/
def qerr (id : Int) (n m : Nat) : Nat := if dblank id n = true ∨ 251 < n ∨ dpk id n ≠ 0 then 1 else if 64 ≤ m then 8 else 0
def qadd (q : List Pkt) (p : Pkt) : List Pkt := if qerr p.1 p.2.length q.length = 0 then q ++ [p] else q
theorem qerr_cases (id : Int) (n m : Nat) : (dblank id n = true ∧ qerr id n m = 1) ∨ (dblank id n = false ∧ 251 < n ∧ qerr id n m = 1) ∨ (dblank id n = false ∧ n ≤ 251 ∧ dpk id n ≠ 0 ∧ qerr id n m = 1) ∨
    (dblank id n = false ∧ n ≤ 251 ∧ dpk id n = 0 ∧ 64 ≤ m ∧ qerr id n m = 8) ∨ (dblank id n = false ∧ n ≤ 251 ∧ dpk id n = 0 ∧ m < 64 ∧ qerr id n m = 0) := by
  unfold qerr
  cases hb : dblank id n
  · by_cases h1 : 251 < n
    · right; left; refine ⟨rfl, h1, ?_⟩; rw [if_pos (.inr (.inl h1))]
    · by_cases h2 : dpk id n = 0
      · rw [if_neg (by simp [h1, h2])]
        by_cases h3 : 64 ≤ m
        · right; right; right; left; exact ⟨rfl, by omega, h2, h3, by rw [if_pos h3]⟩
        · right; right; right; right; exact ⟨rfl, by omega, h2, by omega, by rw [if_neg h3]⟩
      · right; right; left; exact ⟨rfl, by omega, h2, by rw [if_pos (.inr (.inr h2))]⟩
  · left; exact ⟨rfl, by simp⟩
theorem qadd_no {ps : List Pk} {id : Int} {l : List Nat} {n m : Nat} (hn : l.length = n) (hm : ps.length = m) (h : qerr id n m ≠ 0) : qadd (ps.map Pk.abs) (id, l) = ps.map Pk.abs := by
  unfold qadd
  simp only [List.length_map, hn, hm]
  rw [if_neg h]
theorem qadd_yes {ps : List Pk} {id : Int} {l : List Nat} {n m : Nat} (hn : l.length = n) (hm : ps.length = m) (h : qerr id n m = 0) : qadd (ps.map Pk.abs) (id, l) = ps.map Pk.abs ++ [(id, l)] := by
  unfold qadd
  simp only [List.length_map, hn, hm]
  rw [if_pos h]
theorem ret_err {v : Value} {a k : Nat} (h : a = k) : Ending.returned (.tuple #[v, .int .i64 ((k : Nat) : Int)]) = .returned (.tuple #[v, .int .i64 ((a : Nat) : Int)]) := by rw [h]
theorem dchk_zero0 (id : Int) (n : Nat) : dchk 0 0 0 id n = dpk id n := dchk_ok rfl rfl rfl
set_option maxHeartbeats 2000000 in
theorem queue_any (sn ne ack tak : Int) (op em : Bool) (Q : Option Addr) (m cap : Nat) (ps : List Pk) (id : Int) (A : Option Addr) (n c : Nat) (l : List Nat) (w : World) (hQ : PRd w Q m ps) (hm : m ≤ 100000) (hp : Pay w ⟨id, A, n, c, l⟩) :
    Calls Try.prog 11 #[.agg #[.int .i64 sn, .int .i64 ne, .slice Q m cap, .bool op, .bool em, .int .i64 ack, .int .i64 tak], .agg #[.int .i64 id, .slice A n c]] w fun e w' =>
      ∃ Q' m' cap' qs, e = .returned (.tuple #[.agg #[.int .i64 sn, .int .i64 ne, .slice Q' m' cap', .bool op, .bool em, .int .i64 ack, .int .i64 tak], .int .i64 ((qerr id n m : Nat) : Int)]) ∧ Fresh w.heap.size w' Q' m' cap' qs (qadd (ps.map Pk.abs) (id, l)) ∧ Below w.heap.size w w' := by
  have hB : Below w.heap.size w (((w.alloc (.cells #[.int .i64 sn, .int .i64 ne, .slice Q m cap, .bool op, .bool em, .int .i64 ack, .int .i64 tak] 26)).alloc (.cells #[.int .i64 id, .slice A n c] 30)).alloc (.cells #[.int .i64 0, .int .i64 0, .slice none 0 0, .bool false, .bool false, .int .i64 0, .int .i64 0] 26)) := (((Below.refl _ _).alloc (Nat.le_refl _) _).alloc (by simp) _).alloc (by simp; omega) _
  have k1 : Blk (((w.alloc (.cells #[.int .i64 sn, .int .i64 ne, .slice Q m cap, .bool op, .bool em, .int .i64 ack, .int .i64 tak] 26)).alloc (.cells #[.int .i64 id, .slice A n c] 30)).alloc (.cells #[.int .i64 0, .int .i64 0, .slice none 0 0, .bool false, .bool false, .int .i64 0, .int .i64 0] 26)) w.heap.size 26 #[.int .i64 sn, .int .i64 ne, .slice Q m cap, .bool op, .bool em, .int .i64 ack, .int .i64 tak] := ((Blk.new _ _ _).alloc _).alloc _
  have k2 : Blk (((w.alloc (.cells #[.int .i64 sn, .int .i64 ne, .slice Q m cap, .bool op, .bool em, .int .i64 ack, .int .i64 tak] 26)).alloc (.cells #[.int .i64 id, .slice A n c] 30)).alloc (.cells #[.int .i64 0, .int .i64 0, .slice none 0 0, .bool false, .bool false, .int .i64 0, .int .i64 0] 26)) (w.heap.size + 1) 30 #[.int .i64 id, .slice A n c] := (blk_new2 (by simp)).alloc _
  have k3 : Blk (((w.alloc (.cells #[.int .i64 sn, .int .i64 ne, .slice Q m cap, .bool op, .bool em, .int .i64 ack, .int .i64 tak] 26)).alloc (.cells #[.int .i64 id, .slice A n c] 30)).alloc (.cells #[.int .i64 0, .int .i64 0, .slice none 0 0, .bool false, .bool false, .int .i64 0, .int .i64 0] 26)) (w.heap.size + 2) 26 #[.int .i64 0, .int .i64 0, .slice none 0 0, .bool false, .bool false, .int .i64 0, .int .i64 0] := blk_new2 (by simp)
  go_enter Try.func11, Try.ntmps11
  go_upto_region 1 with (fail)
  go_cut [5] (fun s5 wx => s5 = .int .i64 0 ∧ ∃ Q1 cap1 qs, Mine (w.heap.size + 3) wx Q1 m cap1 qs (ps.map Pk.abs) ∧ Below w.heap.size w wx ∧ Blk wx w.heap.size 26 #[.int .i64 sn, .int .i64 ne, .slice Q1 m cap1, .bool op, .bool em, .int .i64 ack, .int .i64 tak] ∧ Blk wx (w.heap.size + 1) 30 #[.int .i64 id, .slice A n c] ∧ Blk wx (w.heap.size + 2) 26 #[.int .i64 0, .int .i64 0, .slice none 0 0, .bool false, .bool false, .int .i64 0, .int .i64 0])
  case first =>
    go_wp2_with ((go_at_call 26; refine (mine2_any sn ne ack tak op em Q m cap ps _ (hQ.below hB) hm).mono ?_; rintro e w1 ⟨Q1, cap1, qs, rfl, HM1, hb1⟩; have hO1 : Mine (w.heap.size + 3) w1 Q1 m cap1 qs (ps.map Pk.abs) := HM1.weak (by simp); have B1 := hB.trans (hb1.mono hB.size); have m1 := k1.below hb1 k1.lt; have m2 := k2.below hb1 k2.lt; have m3 := k3.below hb1 k3.lt; obtain ⟨f0, f1, f2, f3, f4, f5, f6⟩ := fr7 m1; obtain ⟨r0, r1, r2, r3, r4, r5, r6⟩ := at7 m1))
    go_meet
    case rel => exact ⟨rfl, Q1, cap1, qs, hO1.put7 (by omega), below_put7 B1 (Nat.le_refl _), blk_put7 m1, blk_far7 m2 (by omega), blk_far7 m3 (by omega)⟩
  case rest =>
    obtain ⟨rfl, Q1, cap1, qs, hO, B1, n1, n2, n3⟩ := hcut
    obtain ⟨f0, f1, f2, f3, f4, f5, f6⟩ := fr7 n3
    obtain ⟨r0, r1, r2, r3, r4, r5, r6⟩ := at7 n1
    obtain ⟨t0, t1, t2, t3, t4, t5, t6⟩ := at7 n3
    obtain ⟨s0, s1⟩ := at2 n2
    have HL := hide hQ.len
    have HPL := hide hp.len
    have hdz := dchk_zero0 id n
    have hX := B1.size
    rcases qerr_cases id n m with ⟨hb, he⟩ | ⟨hb, h1, he⟩ | ⟨hb, h1, h2, he⟩ | ⟨hb, h1, h2, h3, he⟩ | ⟨hb, h1, h2, h3, he⟩
    · have HE := hide he
      have HB := hide hb
      clear he hb hdz
      go_wp2_with fail
      refine (blank_any id A n c _).mono ?_
      rintro e w2 ⟨rfl, hb2⟩
      rw [HB.out]
      have B2 := B1.trans (hb2.mono B1.size)
      have p1 := n1.below hb2 n1.lt
      have p3 := n3.below hb2 n3.lt
      obtain ⟨f0, f1, f2, f3, f4, f5, f6⟩ := fr7 p3
      obtain ⟨r0, r1, r2, r3, r4, r5, r6⟩ := at7 p1
      obtain ⟨t0, t1, t2, t3, t4, t5, t6⟩ := at7 p3
      go_wp2
      refine bodyPost_ret (run_res_cell rfl rfl rfl (blk_put7 p3) _ Try.underlying26 rfl (by kernel_rfl)) rfl ⟨Q1, m, cap1, qs, ret_err HE.out, ?_, below_put7 B2 (by omega)⟩
      rw [qadd_no HPL.out HL.out (by rw [HE.out]; decide)]
      exact ((hO.below hb2).put7 (by omega)).fresh.weak (by omega)
    · have HE := hide he
      have HB := hide hb
      have h1' : (251 : Int) < (n : Int) := by omega
      clear he hb hdz
      go_wp2_with fail
      refine (blank_any id A n c _).mono ?_
      rintro e w2 ⟨rfl, hb2⟩
      rw [HB.out]
      have B2 := B1.trans (hb2.mono B1.size)
      have p1 := n1.below hb2 n1.lt
      have p3 := n3.below hb2 n3.lt
      obtain ⟨f0, f1, f2, f3, f4, f5, f6⟩ := fr7 p3
      obtain ⟨r0, r1, r2, r3, r4, r5, r6⟩ := at7 p1
      obtain ⟨t0, t1, t2, t3, t4, t5, t6⟩ := at7 p3
      obtain ⟨s0, s1⟩ := at2 (n2.below hb2 n2.lt)
      go_wp2
      refine bodyPost_ret (run_res_cell rfl rfl rfl (blk_put7 p3) _ Try.underlying26 rfl (by kernel_rfl)) rfl ⟨Q1, m, cap1, qs, ret_err HE.out, ?_, below_put7 B2 (by omega)⟩
      rw [qadd_no HPL.out HL.out (by rw [HE.out]; decide)]
      exact ((hO.below hb2).put7 (by omega)).fresh.weak (by omega)
    · have HE := hide he
      have HB := hide hb
      have HD := hide hdz
      have h1' : (n : Int) ≤ (251 : Int) := by omega
      have h2' : (((dpk id n : Nat) : Int) != 0) = true := by rw [bne_iff_ne]; omega
      obtain ⟨D, hD⟩ : ∃ D, D = dpk id n := ⟨_, rfl⟩
      rw [← hD] at h2'
      have HDD := hide hD
      clear he hb hdz h2 hD
      go_wp2_with fail
      refine (blank_any id A n c _).mono ?_
      rintro e w2 ⟨rfl, hb2⟩
      rw [HB.out]
      have B2 := B1.trans (hb2.mono B1.size)
      have p1 := n1.below hb2 n1.lt
      have p3 := n3.below hb2 n3.lt
      obtain ⟨f0, f1, f2, f3, f4, f5, f6⟩ := fr7 p3
      obtain ⟨r0, r1, r2, r3, r4, r5, r6⟩ := at7 p1
      obtain ⟨t0, t1, t2, t3, t4, t5, t6⟩ := at7 p3
      obtain ⟨s0, s1⟩ := at2 (n2.below hb2 n2.lt)
      go_wp2_with fail
      refine (check_any 0 0 0 id A n c _).mono ?_
      rintro e w3 ⟨rfl, hb3⟩
      rw [HD.out, ← HDD.out]
      have hb2 := hb2.trans (hb3.mono hb2.size)
      have B2 := B1.trans (hb2.mono B1.size)
      have p1 := n1.below hb2 n1.lt
      have p3 := n3.below hb2 n3.lt
      obtain ⟨f0, f1, f2, f3, f4, f5, f6⟩ := fr7 p3
      obtain ⟨r0, r1, r2, r3, r4, r5, r6⟩ := at7 p1
      obtain ⟨t0, t1, t2, t3, t4, t5, t6⟩ := at7 p3
      go_wp2
      refine bodyPost_ret (run_res_cell rfl rfl rfl (blk_put7 p3) _ Try.underlying26 rfl (by kernel_rfl)) rfl ⟨Q1, m, cap1, qs, ret_err HE.out, ?_, below_put7 B2 (by omega)⟩
      rw [qadd_no HPL.out HL.out (by rw [HE.out]; decide)]
      exact ((hO.below hb2).put7 (by omega)).fresh.weak (by omega)
    · have HE := hide he
      have HB := hide hb
      have HD := hide hdz
      have HD2 := hide h2
      have h1' : (n : Int) ≤ (251 : Int) := by omega
      have h3' : (64 : Int) ≤ (m : Int) := by omega
      clear he hb hdz h2
      go_wp2_with fail
      refine (blank_any id A n c _).mono ?_
      rintro e w2 ⟨rfl, hb2⟩
      rw [HB.out]
      have B2 := B1.trans (hb2.mono B1.size)
      have p1 := n1.below hb2 n1.lt
      have p3 := n3.below hb2 n3.lt
      obtain ⟨f0, f1, f2, f3, f4, f5, f6⟩ := fr7 p3
      obtain ⟨r0, r1, r2, r3, r4, r5, r6⟩ := at7 p1
      obtain ⟨t0, t1, t2, t3, t4, t5, t6⟩ := at7 p3
      obtain ⟨s0, s1⟩ := at2 (n2.below hb2 n2.lt)
      go_wp2_with fail
      refine (check_any 0 0 0 id A n c _).mono ?_
      rintro e w3 ⟨rfl, hb3⟩
      rw [HD.out, HD2.out]
      have hb2 := hb2.trans (hb3.mono hb2.size)
      have B2 := B1.trans (hb2.mono B1.size)
      have p1 := n1.below hb2 n1.lt
      have p3 := n3.below hb2 n3.lt
      obtain ⟨f0, f1, f2, f3, f4, f5, f6⟩ := fr7 p3
      obtain ⟨r0, r1, r2, r3, r4, r5, r6⟩ := at7 p1
      obtain ⟨t0, t1, t2, t3, t4, t5, t6⟩ := at7 p3
      go_wp2
      refine bodyPost_ret (run_res_cell rfl rfl rfl (blk_put7 p3) _ Try.underlying26 rfl (by kernel_rfl)) rfl ⟨Q1, m, cap1, qs, ret_err HE.out, ?_, below_put7 B2 (by omega)⟩
      rw [qadd_no HPL.out HL.out (by rw [HE.out]; decide)]
      exact ((hO.below hb2).put7 (by omega)).fresh.weak (by omega)
    · have HE := hide he
      have HB := hide hb
      have HD := hide hdz
      have HD2 := hide h2
      have h1' : (n : Int) ≤ (251 : Int) := by omega
      have h3' : (m : Int) < (64 : Int) := by omega
      clear he hb hdz h2
      go_wp2_with fail
      refine (blank_any id A n c _).mono ?_
      rintro e w2 ⟨rfl, hb2⟩
      rw [HB.out]
      have B2 := B1.trans (hb2.mono B1.size)
      have p1 := n1.below hb2 n1.lt
      have p3 := n3.below hb2 n3.lt
      obtain ⟨f0, f1, f2, f3, f4, f5, f6⟩ := fr7 p3
      obtain ⟨r0, r1, r2, r3, r4, r5, r6⟩ := at7 p1
      obtain ⟨t0, t1, t2, t3, t4, t5, t6⟩ := at7 p3
      obtain ⟨s0, s1⟩ := at2 (n2.below hb2 n2.lt)
      go_wp2_with fail
      refine (check_any 0 0 0 id A n c _).mono ?_
      rintro e w3 ⟨rfl, hb3⟩
      rw [HD.out, HD2.out]
      have hb2 := hb2.trans (hb3.mono hb2.size)
      have B2 := B1.trans (hb2.mono B1.size)
      have p1 := n1.below hb2 n1.lt
      have p3 := n3.below hb2 n3.lt
      obtain ⟨f0, f1, f2, f3, f4, f5, f6⟩ := fr7 p3
      obtain ⟨r0, r1, r2, r3, r4, r5, r6⟩ := at7 p1
      obtain ⟨t0, t1, t2, t3, t4, t5, t6⟩ := at7 p3
      obtain ⟨s0, s1⟩ := at2 (n2.below hb2 n2.lt)
      have p2 := n2.below hb2 n2.lt
      have hO2 := (hO.below hb2)
      have hp2 := (hp.below B2)
      have hbase : ∀ k, (Value.slice Q1 m cap1).ownBlock = some k → w.heap.size + 3 ≤ k := fun k hk => (hO.own.lt k hk).1
      have hle : ∀ k, (Value.slice Q1 m cap1).ownBlock = some k → w.heap.size ≤ k := fun k hk => Nat.le_trans (Nat.le_add_right _ 3) (hbase k hk)
      have hne1 : some w.heap.size ≠ (Value.slice Q1 m cap1).ownBlock := fun e => by have := hbase _ e.symm; omega
      have hne3 : some (w.heap.size + 2) ≠ (Value.slice Q1 m cap1).ownBlock := fun e => by have := hbase _ e.symm; omega
      have hz3 : w.heap.size + 3 ≤ w3.heap.size := by have := p3.lt; omega
      go_wp2_with fail
      go_region_law (first
        | (go_simp; go_at_call 29; (refine (clone_any id A n c l _ hp2.drew.1 hp2.2.2.2).mono ?_); rintro e w4 ⟨A4, c4, rfl, hown4, hc4, hb4⟩; have B4 : Below w.heap.size w w4 := B2.drew.trans (hb4.mono B2.size); have q1 : Blk w4 w.heap.size 26 #[.int .i64 sn, .int .i64 ne, .slice Q1 m cap1, .bool op, .bool em, .int .i64 ack, .int .i64 tak] := p1.drew.below hb4 p1.lt; have q3 : Blk w4 (w.heap.size + 2) 26 #[.int .i64 0, .int .i64 0, .slice none 0 0, .bool false, .bool false, .int .i64 0, .int .i64 0] := p3.drew.below hb4 p3.lt; have hO4 := hO2.drew.below hb4; obtain ⟨hpay4, hpb4⟩ := pay_own (id := id) hown4 hp.2.1 hc4 hp.2.2.2; have hz4 : w.heap.size + 3 ≤ (w4.alloc (.cells #[.int .i64 id, .slice A4 n c4] 30)).heap.size := (Nat.le_trans hz3 (Nat.le_trans hb4.size (by simp))); obtain ⟨r0, r1, r2, r3, r4, r5, r6⟩ := at7 q1; obtain ⟨f0, f1, f2, f3, f4, f5, f6⟩ := fr7 q1; obtain ⟨x0, x1, x2, x3, x4, x5, x6⟩ := at7 (q1.alloc (.cells #[.int .i64 id, .slice A4 n c4] 30)))
        | (refine step_append_rd _ rfl (.tmp 29) (.tmp 32) _ rfl (w.heap.size + 3) 30 (.agg #[.int .i64 0, .slice none 0 0]) 2 32 underP infoP rfl (by omega) (.slice Q1 m cap1) m (pv qs) (by simp [Act.eval, Act.put]) (hO4.own.alloc _) (some ⟨w4.heap.size, 0, none⟩) 1 1 (pv [⟨id, A4, n, c4, l⟩]) (by simp [Act.eval, Act.put]) (rd2_one w4 ⟨id, A4, n, c4, l⟩ 30 rfl) (pv_one _) (by omega) (by omega) hz4 ?_; intro v5 w5 hown5 hg5 hat5; have B5 : Below w.heap.size w w5 := (B4.alloc B4.size _).grown hg5 (B4.alloc B4.size _).size hle; have u1 := (q1.alloc (.cells #[.int .i64 id, .slice A4 n c4] 30)).grown hg5 hne1; have u3 := (q3.alloc (.cells #[.int .i64 id, .slice A4 n c4] 30)).grown hg5 hne3; obtain ⟨A5, c5, hv5, hc5, _, _⟩ := own_rdn hown5; rw [hv5] at hown5; rw [hv5]; obtain ⟨r0, r1, r2, r3, r4, r5, r6⟩ := at7 u1; obtain ⟨f0, f1, f2, f3, f4, f5, f6⟩ := fr7 u1; obtain ⟨t0, t1, t2, t3, t4, t5, t6⟩ := at7 u3; obtain ⟨g0, g1, g2, g3, g4, g5, g6⟩ := fr7 u3))
      all_goals
        have hP4 : ∀ q ∈ qs ++ [⟨id, A4, n, c4, l⟩], Pay w4 q := by
          intro q hq
          rcases List.mem_append.1 hq with hq | hq
          · exact hO4.pay q hq
          · simp only [List.mem_singleton] at hq; subst hq; exact hpay4
        have hF4 : From (w.heap.size + 3) (qs ++ [⟨id, A4, n, c4, l⟩]) := by
          intro q hq h0 a ha
          rcases List.mem_append.1 hq with hq | hq
          · exact hO4.low q hq h0 a ha
          · simp only [List.mem_singleton] at hq
            subst hq
            exact Nat.le_trans hz3 (hpb4 h0 a ha)
        have hS4 : Sep (.slice Q1 m cap1) (qs ++ [⟨id, A4, n, c4, l⟩]) := by
          intro q hq h0 a ha
          rcases List.mem_append.1 hq with hq | hq
          · exact hO4.sep q hq h0 a ha
          · simp only [List.mem_singleton] at hq
            subst hq
            intro e
            have h1 := (hO2.own.lt _ e.symm).2
            have h2 := hpb4 h0 a ha
            simp at h2
            omega
        have hM5 : Mine (w.heap.size + 3) w5 A5 (m + 1) c5 (qs ++ [⟨id, A4, n, c4, l⟩]) (ps.map Pk.abs ++ [(id, l)]) := by
          refine ⟨by rw [pv_append]; exact hown5, by rw [List.map_append, hO4.abs]; rfl, pays_grow (fun q hq => (hP4 q hq).alloc _) hS4 hg5, ?_, hF4, hc5⟩
          rw [← hv5]
          exact sep_grow (fun q hq => (hP4 q hq).alloc _) hS4 hat5
        go_wp2
        refine bodyPost_ret (run_res_cell rfl rfl rfl (blk_put7 (u3.far (p := ⟨w.heap.size, 2, none⟩) (by simp) _)) _ Try.underlying26 rfl (by kernel_rfl)) rfl ⟨A5, m + 1, c5, qs ++ [⟨id, A4, n, c4, l⟩], ret_err HE.out, ?_, below_put7 (B5.setCell (p := ⟨w.heap.size, 2, none⟩) (Nat.le_refl _) _) (by omega)⟩
        rw [qadd_yes HPL.out HL.out HE.out]
        exact ((hM5.set (by omega)).put7 (by omega)).fresh.weak (by omega)
end Go.Proofs.Ytobljnbpokijdaa
