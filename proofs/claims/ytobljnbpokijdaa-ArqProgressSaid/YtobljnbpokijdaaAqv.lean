/-
  Both sides in boxes, as the walk of ArqPlays has them. Plain lemmas.
-/
import Derived.Test.YtobljnbpokijdaaAqm
import Derived.Test.YtobljnbpokijdaaAqn
import Derived.Deep.CutBlock
import Derived.Deep.LoopGhost
namespace Go.Proofs.Ytobljnbpokijdaa
set_option linter.unusedVariables false
set_option linter.unusedSimpArgs false
open Go.RowKit

/-- Two boxes that hold the same side, each with a queue of its own that lies apart from both. -/
structure Both (w : World) (ga gb : Nat) (s : St) (Qa : Option Addr) (ma ca : Nat) (qa : List Pk) (Qb : Option Addr) (mb cb : Nat) (qb : List Pk) : Prop where
  a : Side w ga s Qa ma ca
  b : Side w gb s Qb mb cb
  ha : Has w Qa ma ca qa s.q
  hb : Has w Qb mb cb qb s.q
  aa : RowOff ga Qa ma
  ab : RowOff gb Qa ma
  ba : RowOff ga Qb mb
  bb : RowOff gb Qb mb
theorem Side.below {w w' : World} {g : Nat} {s : St} {Q : Option Addr} {m cap : Nat} (h : Side w g s Q m cap) (hb : Below w.heap.size w w') : Side w' g s Q m cap := Blk.below (show Blk w g _ _ from h) hb (Blk.lt (show Blk w g _ _ from h))
theorem Side.lt {w : World} {g : Nat} {s : St} {Q : Option Addr} {m cap : Nat} (h : Side w g s Q m cap) : g < w.heap.size := Blk.lt (show Blk w g _ _ from h)
theorem Both.below {w w' : World} {ga gb : Nat} {s : St} {Qa Qb : Option Addr} {ma ca mb cb : Nat} {qa qb : List Pk} (h : Both w ga gb s Qa ma ca qa Qb mb cb qb) (hb : Below w.heap.size w w') : Both w' ga gb s Qa ma ca qa Qb mb cb qb :=
  ⟨h.a.below hb, h.b.below hb, h.ha.below hb, h.hb.below hb, h.aa, h.ab, h.ba, h.bb⟩
theorem Has.offTop {w : World} {Q : Option Addr} {m cap : Nat} {qs : List Pk} {L : List Pkt} (h : Has w Q m cap qs L) {g : Nat} (hg : w.heap.size ≤ g) : RowOff g Q m ∧ ∀ q ∈ qs, 0 < q.n → ∀ a, q.A = some a → a.block ≠ g := by
  refine ⟨fun h0 a ha => ?_, fun q hq h0 a ha => by have := (h.rd.2 q hq).lt h0 a ha; omega⟩
  obtain ⟨b, o, e, hb, _⟩ := h.rd.1.2 h0
  rw [ha] at e
  injection e with e
  subst e
  have : b < w.heap.size := hb
  show b ≠ g
  omega
theorem Has.put5 {W : World} {Q : Option Addr} {m cap : Nat} {qs : List Pk} {L : List Pkt} {g : Nat} {u0 u1 u2 u3 u4 : Value} (h : Has W Q m cap qs L) (hr : RowOff g Q m ∧ ∀ q ∈ qs, 0 < q.n → ∀ a, q.A = some a → a.block ≠ g) :
    Has (((((W.setCell ⟨g, 0, none⟩ u0).setCell ⟨g, 1, none⟩ u1).setCell ⟨g, 2, none⟩ u2).setCell ⟨g, 3, none⟩ u3).setCell ⟨g, 4, none⟩ u4) Q m cap qs L := h.fills hr.1 hr.2 [(0, u0), (1, u1), (2, u2), (3, u3), (4, u4)]
theorem pay_off5 {w : World} {g : Nat} {t : TypeId} {v0 v1 v2 v3 : Int} {Q : Option Addr} {m cap : Nat} {p : Pk} (hs : Blk w g t #[.int .i64 v0, .int .i64 v1, .int .i64 v2, .int .i64 v3, .slice Q m cap]) (h : Pay w p) : 0 < p.n → ∀ a, p.A = some a → a.block ≠ g := by
  intro h0 a ha e
  obtain ⟨b, o, x, hA, _, hc, _⟩ := h.1.byte h0
  rw [ha] at hA
  injection hA with hA
  subst hA
  subst e
  have h2 := hs.cell (o + 0)
  rw [hc] at h2
  have hlt : o + 0 < 5 := by
    rcases Nat.lt_or_ge (o + 0) 5 with h | h
    · exact h
    · rw [Array.getElem?_eq_none (by simpa using h)] at h2; cases h2
  rcases (show o + 0 = 0 ∨ o + 0 = 1 ∨ o + 0 = 2 ∨ o + 0 = 3 ∨ o + 0 = 4 by omega) with e | e | e | e | e <;> rw [e] at h2 <;> simp at h2
theorem Has.alloc {w : World} {Q : Option Addr} {m cap : Nat} {qs : List Pk} {L : List Pkt} (h : Has w Q m cap qs L) (o : Obj) : Has (w.alloc o) Q m cap qs L := h.below ((Below.refl _ _).alloc (Nat.le_refl _) o)
theorem pay_off2 {w : World} {g : Nat} {t : TypeId} {v0 : Int} {Q : Option Addr} {m cap : Nat} {p : Pk} (hs : Blk w g t #[.int .i64 v0, .slice Q m cap]) (h : Pay w p) : 0 < p.n → ∀ a, p.A = some a → a.block ≠ g := by
  intro h0 a ha e
  obtain ⟨b, o, x, hA, _, hc, _⟩ := h.1.byte h0
  rw [ha] at hA
  injection hA with hA
  subst hA
  subst e
  have h2 := hs.cell (o + 0)
  rw [hc] at h2
  have hlt : o + 0 < 2 := by
    rcases Nat.lt_or_ge (o + 0) 2 with h | h
    · exact h
    · rw [Array.getElem?_eq_none (by simpa using h)] at h2; cases h2
  rcases (show o + 0 = 0 ∨ o + 0 = 1 by omega) with e | e <;> rw [e] at h2 <;> simp at h2
theorem Has.put2 {W : World} {Q : Option Addr} {m cap : Nat} {qs : List Pk} {L : List Pkt} {g : Nat} {u0 u1 : Value} (h : Has W Q m cap qs L) (hr : RowOff g Q m) (hp : ∀ q ∈ qs, 0 < q.n → ∀ a, q.A = some a → a.block ≠ g) :
    Has ((W.setCell ⟨g, 0, none⟩ u0).setCell ⟨g, 1, none⟩ u1) Q m cap qs L := h.fills hr hp [(0, u0), (1, u1)]
theorem Ok.start : Ok 0 ⟨0, 0, [], false, false, 0, 0⟩ := ⟨by decide, by decide, by decide, by decide, by decide, by decide, by decide, by decide, by decide⟩
theorem rowOff_nil (g : Nat) (Q : Option Addr) : RowOff g Q 0 := fun h => absurd h (by omega)
/-- The relation of the loop. -/
def PlRel (w : World) (n ga gb k : Nat) (wr : World) : Prop := ∃ s Qa ma ca qa Qb mb cb qb, Ok k s ∧ Both wr ga gb s Qa ma ca qa Qb mb cb qb ∧ Below w.heap.size w wr
noncomputable def plCode (n : Nat) : Code := ((Try.f3.body.bind (regOf n)).getD .skip)
theorem side_of {w : World} {g : Nat} (h : Blk w g 26 #[.int .i64 0, .int .i64 0, .slice none 0 0, .bool false, .bool false, .int .i64 0, .int .i64 0]) : Side w g ⟨0, 0, [], false, false, 0, 0⟩ none 0 0 := h
theorem Has.drew {w : World} {Q : Option Addr} {m cap : Nat} {qs : List Pk} {L : List Pkt} (h : Has w Q m cap qs L) : Has w.drew Q m cap qs L := ⟨h.rd.drew, h.abs, h.cap_⟩
theorem Has.pays {w : World} {Q : Option Addr} {m cap : Nat} {qs : List Pk} {L : List Pkt} (h : Has w Q m cap qs L) : ∀ q ∈ qs, Pay w q := h.rd.2
theorem Side.blk {w : World} {g : Nat} {s : St} {Q : Option Addr} {m cap : Nat} (h : Side w g s Q m cap) : Blk w g 26 #[.int .i64 s.sn, .int .i64 s.ne, .slice Q m cap, .bool s.op, .bool s.em, .int .i64 s.ack, .int .i64 s.tak] := h
end Go.Proofs.Ytobljnbpokijdaa
