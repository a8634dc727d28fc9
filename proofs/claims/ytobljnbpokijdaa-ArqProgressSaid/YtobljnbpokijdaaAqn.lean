/-
  Calls in memory (the type Op of the laws of arq), boxes that hold sides, and what stays apart from them. Plain lemmas on memory.
-/
import Derived.Test.YtobljnbpokijdaaAql
namespace Go.Proofs.Ytobljnbpokijdaa
set_option linter.unusedVariables false
set_option linter.unusedSimpArgs false
open Go.RowKit

/-- A call as it lies in memory. -/
structure Opr where
  d : Int
  sn : Int
  ne : Int
  md : Int
  p : Pk
def Opr.cells (o : Opr) : List Value := [.int .i64 o.d, .int .i64 o.sn, .int .i64 o.ne, .int .i64 o.md, .int .i64 o.p.id, .slice o.p.A o.p.n o.p.c]
def ov (l : List Opr) : List Value := l.flatMap Opr.cells
theorem ov_length (l : List Opr) : (ov l).length = l.length * 6 := by
  induction l with
  | nil => rfl
  | cons c l ih => simp only [ov, List.flatMap_cons, List.length_append, List.length_cons] at ih ⊢; rw [ih]; simp [Opr.cells]; omega
theorem ov_get (l : List Opr) (k : Nat) (c : Opr) (h : l[k]? = some c) (j : Nat) (hj : j < 6) : (ov l)[k * 6 + j]? = c.cells[j]? := by
  induction l generalizing k with
  | nil => simp at h
  | cons d l ih =>
    have hd : d.cells.length = 6 := rfl
    simp only [ov, List.flatMap_cons]
    cases k with
    | zero =>
      simp only [List.getElem?_cons_zero, Option.some.injEq] at h
      subst h
      rw [List.getElem?_append_left (by omega)]
      simp
    | succ k =>
      simp only [List.getElem?_cons_succ] at h
      rw [List.getElem?_append_right (by omega), hd, show (k + 1) * 6 + j - 6 = k * 6 + j by omega]
      exact ih k h
/-- A slice of calls. -/
def ORd (w : World) (A : Option Addr) (n : Nat) (os : List Opr) : Prop := Rd w 6 A n (ov os) ∧ ∀ o ∈ os, Pay w o.p
theorem ORd.below {w w' : World} {A : Option Addr} {n : Nat} {os : List Opr} (h : ORd w A n os) (hb : Below w.heap.size w w') : ORd w' A n os := ⟨h.1.below hb, fun o ho => (h.2 o ho).below hb⟩
theorem ORd.len {w : World} {A : Option Addr} {n : Nat} {os : List Opr} (h : ORd w A n os) : os.length = n := by
  have := h.1.1
  rw [ov_length] at this
  omega
theorem ORd.at_ {w : World} {A : Option Addr} {n : Nat} {os : List Opr} (h : ORd w A n os) {k : Nat} (hk : k < n) : ∃ (b o : Nat) (x : Opr), A = some ⟨b, o, none⟩ ∧ b < w.heap.size ∧ Hid (os[k]? = some x) ∧
    w.cell? ⟨b, o + k * 6, none⟩ = some (.int .i64 x.d) ∧ w.cell? ⟨b, o + k * 6 + 1, none⟩ = some (.int .i64 x.sn) ∧ w.cell? ⟨b, o + k * 6 + 2, none⟩ = some (.int .i64 x.ne) ∧ w.cell? ⟨b, o + k * 6 + 3, none⟩ = some (.int .i64 x.md) ∧
    w.cell? ⟨b, o + k * 6 + 4, none⟩ = some (.int .i64 x.p.id) ∧ w.cell? ⟨b, o + k * 6 + 5, none⟩ = some (.slice x.p.A x.p.n x.p.c) ∧ Pay w x.p := by
  obtain ⟨b, o, e, hb, hc⟩ := h.1.2 (by omega)
  have hl : k < os.length := by rw [h.len]; exact hk
  have hx : os[k]? = some os[k] := List.getElem?_eq_getElem hl
  have hcell : ∀ j u, os[k].cells[j]? = some u → w.cell? ⟨b, o + k * 6 + j, none⟩ = some u := fun j u hu => by
    rw [Nat.add_assoc]
    have hj : j < 6 := (List.getElem?_eq_some_iff.1 hu).1
    exact hc _ u (by rw [ov_get os k _ hx j hj, hu])
  exact ⟨b, o, os[k], e, hb, hx, hcell 0 _ rfl, hcell 1 _ rfl, hcell 2 _ rfl, hcell 3 _ rfl, hcell 4 _ rfl, hcell 5 _ rfl, h.2 _ (List.getElem_mem hl)⟩
/-- A box that holds a side. -/
def Side (w : World) (g : Nat) (s : St) (Q : Option Addr) (m cap : Nat) : Prop := Blk w g 26 #[.int .i64 s.sn, .int .i64 s.ne, .slice Q m cap, .bool s.op, .bool s.em, .int .i64 s.ack, .int .i64 s.tak]
/-- Bytes do not lie in such a box. -/
theorem pay_off {w : World} {g : Nat} {s : St} {Q : Option Addr} {m cap : Nat} {p : Pk} (hs : Side w g s Q m cap) (h : Pay w p) : 0 < p.n → ∀ a, p.A = some a → a.block ≠ g := by
  intro h0 a ha e
  obtain ⟨b, o, x, hA, _, hc, _⟩ := h.1.byte h0
  rw [ha] at hA
  injection hA with hA
  subst hA
  subst e
  have h2 := (show Blk w b _ _ from hs).cell (o + 0)
  rw [hc] at h2
  have hlt : o + 0 < 7 := by
    rcases Nat.lt_or_ge (o + 0) 7 with h | h
    · exact h
    · rw [Array.getElem?_eq_none (by simpa using h)] at h2; cases h2
  rcases (show o + 0 = 0 ∨ o + 0 = 1 ∨ o + 0 = 2 ∨ o + 0 = 3 ∨ o + 0 = 4 ∨ o + 0 = 5 ∨ o + 0 = 6 by omega) with e | e | e | e | e | e | e <;> rw [e] at h2 <;> simp at h2
/-- A row of cells that is not block g. -/
def RowOff (g : Nat) (Q : Option Addr) (m : Nat) : Prop := 0 < m → ∀ a, Q = some a → a.block ≠ g
theorem Has.fills {w : World} {Q : Option Addr} {m cap : Nat} {qs : List Pk} {L : List Pkt} {g : Nat} (h : Has w Q m cap qs L) (hr : RowOff g Q m) (hp : ∀ q ∈ qs, 0 < q.n → ∀ a, q.A = some a → a.block ≠ g) (l : List (Nat × Value)) : Has (fills w g l) Q m cap qs L :=
  ⟨⟨rd_fills l h.rd.1 hr, fun q hq => pay_fills l (h.rd.2 q hq) (hp q hq)⟩, h.abs, h.cap_⟩
theorem Has.put7 {W : World} {Q : Option Addr} {m cap : Nat} {qs : List Pk} {L : List Pkt} {g : Nat} {u0 u1 u2 u3 u4 u5 u6 : Value} (h : Has W Q m cap qs L) (hr : RowOff g Q m) (hp : ∀ q ∈ qs, 0 < q.n → ∀ a, q.A = some a → a.block ≠ g) :
    Has (((((((W.setCell ⟨g, 0, none⟩ u0).setCell ⟨g, 1, none⟩ u1).setCell ⟨g, 2, none⟩ u2).setCell ⟨g, 3, none⟩ u3).setCell ⟨g, 4, none⟩ u4).setCell ⟨g, 5, none⟩ u5).setCell ⟨g, 6, none⟩ u6) Q m cap qs L := h.fills hr hp [(0, u0), (1, u1), (2, u2), (3, u3), (4, u4), (5, u5), (6, u6)]
theorem Fresh.off {base g : Nat} {w : World} {Q : Option Addr} {m cap : Nat} {qs : List Pk} {L : List Pkt} (h : Fresh base w Q m cap qs L) (hg : g < base) : RowOff g Q m := fun h0 a ha => by have := h.at_ h0 a ha; omega
theorem Loc.off {w : World} {g : Nat} {Q Q' : Option Addr} {m m' : Nat} (h : Loc w Q m Q' m') (hr : RowOff g Q m) (hg : g < w.heap.size) : RowOff g Q' m' := by
  intro h0 a ha
  rcases h h0 a ha with ⟨h1, h2⟩ | h1
  · exact hr h1 a h2
  · omega
theorem Fresh.cap2 {base : Nat} {w : World} {Q : Option Addr} {m cap : Nat} {qs : List Pk} {L : List Pkt} (h : Fresh base w Q m cap qs L) : m = L.length := by rw [← h.abs, List.length_map, h.rd.len]
theorem Has.len {w : World} {Q : Option Addr} {m cap : Nat} {qs : List Pk} {L : List Pkt} (h : Has w Q m cap qs L) : m = L.length := by rw [← h.abs, List.length_map, h.rd.len]
end Go.Proofs.Ytobljnbpokijdaa
