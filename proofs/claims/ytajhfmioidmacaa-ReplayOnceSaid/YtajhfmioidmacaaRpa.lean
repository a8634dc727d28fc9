/-
  Lists of message numbers in memory; the walks of the functions on such lists: Same, SameRows, Clone, Seen, Newer. Each function's contract.
-/
import Derived.Test.YtajhfmioidmacaaRows
import Derived.Test.YtajhfmioidmacaaMem
import Derived.WalkKit
import Derived.WalkSpells
import Derived.WalkLawsBesides
import Derived.Outline
import Derived.Deep.QuietTactic
import Derived.BigQuiet
import Derived.Deep.RegionLaw
import Derived.Deep.RegionHeld3
namespace Go.Proofs.Ytajhfmioidmacaa
set_option linter.unusedVariables false
set_option linter.unusedSimpArgs false
open Go.RowKit

/-- A message: its source, the index, the number; a row of a list is the same. -/
structure Msg where
  s : Int
  i : Int
  q : Int
deriving DecidableEq, Inhabited

def Msg.cells (c : Msg) : List Value := [.int .u16 c.s, .int .u32 c.i, .int .u32 c.q]
def mv (l : List Msg) : List Value := l.flatMap Msg.cells
theorem mv_length (l : List Msg) : (mv l).length = l.length * 3 := by
  induction l with
  | nil => rfl
  | cons c l ih => simp only [mv, List.flatMap_cons, List.length_append, List.length_cons] at ih ⊢; rw [ih]; simp [Msg.cells]; omega
theorem mv_append (a b : List Msg) : mv (a ++ b) = mv a ++ mv b := by simp [mv]
theorem mv_one (l : List Msg) : ∀ u ∈ mv l, u.oneCell' = true := by
  intro u hu
  simp only [mv, List.mem_flatMap, Msg.cells, List.mem_cons, List.not_mem_nil, or_false] at hu
  obtain ⟨c, _, h⟩ := hu
  rcases h with rfl | rfl | rfl <;> rfl
theorem mv_get (l : List Msg) (k : Nat) (c : Msg) (h : l[k]? = some c) (j : Nat) (hj : j < 3) : (mv l)[k * 3 + j]? = c.cells[j]? := by
  induction l generalizing k with
  | nil => simp at h
  | cons d l ih =>
    have hd : d.cells.length = 3 := rfl
    simp only [mv, List.flatMap_cons]
    cases k with
    | zero =>
      simp only [List.getElem?_cons_zero, Option.some.injEq] at h
      subst h
      rw [List.getElem?_append_left (by omega)]
      simp
    | succ k =>
      simp only [List.getElem?_cons_succ] at h
      rw [List.getElem?_append_right (by omega), hd, show (k + 1) * 3 + j - 3 = k * 3 + j by omega]
      exact ih k h
theorem mv_take (l : List Msg) (k : Nat) : (mv l).take (k * 3) = mv (l.take k) := by
  induction l generalizing k with
  | nil => simp [mv]
  | cons d l ih =>
    cases k with
    | zero => simp [mv]
    | succ k =>
      have hd : d.cells.length = 3 := rfl
      have hih := ih k
      simp only [mv, List.flatMap_cons, List.take_succ_cons] at hih ⊢
      rw [show (k + 1) * 3 = d.cells.length + k * 3 by omega, List.take_length_add_append, hih]
theorem mv_drop (l : List Msg) (k : Nat) : (mv l).drop (k * 3) = mv (l.drop k) := by
  induction l generalizing k with
  | nil => simp [mv]
  | cons d l ih =>
    cases k with
    | zero => simp [mv]
    | succ k =>
      have hd : d.cells.length = 3 := rfl
      have hih := ih k
      simp only [mv, List.flatMap_cons, List.drop_succ_cons] at hih ⊢
      rw [show (k + 1) * 3 = d.cells.length + k * 3 by omega, List.drop_length_add_append, hih]
theorem mv_set (l : List Msg) (k : Nat) (c : Msg) (hk : k < l.length) : (((mv l).toArray.setIfInBounds (k * 3) (.int .u16 c.s)).setIfInBounds (k * 3 + 1) (.int .u32 c.i)).setIfInBounds (k * 3 + 2) (.int .u32 c.q) = (mv (l.set k c)).toArray := by
  apply Array.ext'
  simp only [Array.toList_setIfInBounds]
  induction l generalizing k with
  | nil => simp at hk
  | cons d l ih =>
    cases k with
    | zero =>
      simp [mv, Msg.cells]
    | succ k =>
      have hih := ih k (by simpa using hk)
      simp only [mv, List.flatMap_cons, Msg.cells, List.set_cons_succ, List.cons_append, List.nil_append] at hih ⊢
      rw [show (k + 1) * 3 = k * 3 + 1 + 1 + 1 by omega, show k * 3 + 1 + 1 + 1 + 1 = k * 3 + 1 + 1 + 1 + 1 from rfl, show k * 3 + 1 + 1 + 1 + 2 = (k * 3 + 2) + 1 + 1 + 1 by omega, show k * 3 + 1 + 1 + 1 + 1 = (k * 3 + 1) + 1 + 1 + 1 by omega]
      simp only [List.set_cons_succ]
      rw [hih]
theorem Rd.mlen {w : World} {A : Option Addr} {n : Nat} {l : List Msg} (h : Rd w 3 A n (mv l)) : l.length = n := by
  have := h.1
  rw [mv_length] at this
  omega
/-- The message at k. -/
theorem Rd.msg {w : World} {A : Option Addr} {n : Nat} {l : List Msg} (h : Rd w 3 A n (mv l)) {k : Nat} (hk : k < n) : ∃ (b o : Nat) (c : Msg), A = some ⟨b, o, none⟩ ∧ b < w.heap.size ∧ Hid (l[k]? = some c) ∧ w.cell? ⟨b, o + k * 3, none⟩ = some (.int .u16 c.s) ∧ w.cell? ⟨b, o + k * 3 + 1, none⟩ = some (.int .u32 c.i) ∧ w.cell? ⟨b, o + k * 3 + 2, none⟩ = some (.int .u32 c.q) := by
  obtain ⟨b, o, e, hb, hc⟩ := h.2 (by omega)
  have hl : k < l.length := by rw [h.mlen]; exact hk
  have hx : l[k]? = some l[k] := List.getElem?_eq_getElem hl
  refine ⟨b, o, l[k], e, hb, hx, ?_⟩
  have hcell : ∀ j u, l[k].cells[j]? = some u → w.cell? ⟨b, o + k * 3 + j, none⟩ = some u := fun j u hu => by
    rw [Nat.add_assoc]
    have hj : j < 3 := (List.getElem?_eq_some_iff.1 hu).1
    exact hc _ u (by rw [mv_get l k _ hx j hj, hu])
  exact ⟨hcell 0 _ rfl, hcell 1 _ rfl, hcell 2 _ rfl⟩
/-- A beginning, and what is left behind k elements. -/
theorem Rd.mtake {w : World} {A : Option Addr} {n : Nat} {l : List Msg} (h : Rd w 3 A n (mv l)) {k : Nat} (hk : k ≤ n) : Rd w 3 A k (mv (l.take k)) := by
  have hl := h.mlen
  refine ⟨by rw [mv_length, List.length_take]; omega, fun h0 => ?_⟩
  obtain ⟨b, o, e, hb, hc⟩ := h.2 (by omega)
  refine ⟨b, o, e, hb, fun j u hu => ?_⟩
  rw [← mv_take, List.getElem?_take] at hu
  split at hu
  · exact hc j u hu
  · cases hu
theorem Rd.mdrop {w : World} {A : Option Addr} {n : Nat} {l : List Msg} (h : Rd w 3 A n (mv l)) {k : Nat} (hk : k ≤ n) (A' : Option Addr) (hA : k < n → ∀ b o, A = some ⟨b, o, none⟩ → A' = some ⟨b, o + k * 3, none⟩) : Rd w 3 A' (n - k) (mv (l.drop k)) := by
  have hl := h.mlen
  refine ⟨by rw [mv_length, List.length_drop]; omega, fun h0 => ?_⟩
  obtain ⟨b, o, e, hb, hc⟩ := h.2 (by omega)
  refine ⟨b, o + k * 3, hA (by omega) b o e, hb, fun j u hu => ?_⟩
  rw [← mv_drop, List.getElem?_drop] at hu
  rw [Nat.add_assoc]
  exact hc _ u hu
theorem at3 {w : World} {g : Nat} {t : TypeId} {x : Msg} (h : Blk w g t #[.int .u16 x.s, .int .u32 x.i, .int .u32 x.q]) :
    w.cell? ⟨g, 0, none⟩ = some (.int .u16 x.s) ∧ w.cell? ⟨g, 1, none⟩ = some (.int .u32 x.i) ∧ w.cell? ⟨g, 2, none⟩ = some (.int .u32 x.q) := ⟨h.cell 0, h.cell 1, h.cell 2⟩
theorem rd3_one (w : World) (c : Msg) (t : TypeId) : Rd (w.alloc (.cells #[.int .u16 c.s, .int .u32 c.i, .int .u32 c.q] t)) 3 (some ⟨w.heap.size, 0, none⟩) 1 (mv [c]) := by
  refine ⟨by simp [mv, Msg.cells], fun _ => ⟨w.heap.size, 0, rfl, by simp, fun j u hu => ?_⟩⟩
  rw [Nat.zero_add, (Blk.new w t _).cell]
  simpa [mv, Msg.cells] using hu
theorem rd3_one2 (w : World) (c : Msg) (t : TypeId) {g : Nat} (h : g = w.heap.size) : Rd (w.alloc (.cells #[.int .u16 c.s, .int .u32 c.i, .int .u32 c.q] t)) 3 (some ⟨g, 0, none⟩) 1 (mv [c]) := by
  subst h
  exact rd3_one w c t

/-- An owned row of whatever size of elements reads as its cells. -/
theorem own_rdn {w : World} {base : Nat} {e : TypeId} {size : Nat} {v : Value} {n : Nat} {xs : List Value} (h : w.ownsRow base e size v n xs) : ∃ A c, v = .slice A n c ∧ n ≤ c ∧ c ≤ maxLen ∧ Rd w size A n xs := by
  rcases h.2 with ⟨rfl, rfl⟩ | ⟨g, cap, cur, rfl, hb, hh, hn, hm, hs, ht⟩
  · have : xs = [] := List.eq_nil_of_length_eq_zero (by simpa using h.1)
    subst this
    exact ⟨none, 0, rfl, Nat.le_refl _, by decide, Rd.none_ _ _ _⟩
  · refine ⟨some ⟨g, 0, none⟩, cap, rfl, hn, hm, h.1, fun _ => ⟨g, 0, rfl, (Array.getElem?_eq_some_iff.1 hh).1, fun j u hu => ?_⟩⟩
    have := h.cells (g := g) rfl j u hu
    rw [Addr.add_lit] at this
    exact this
theorem underS : Try.prog.underlying 22 = some (.slice 26) := Try.underlying22
theorem infoS : (Try.prog.info? 26).map (fun i => (i.zero, i.size, i.bytes)) = some (some (.agg #[.int .u16 0, .int .u32 0, .int .u32 0]), 3, 12) := by kernel_rfl
theorem underR : Try.prog.underlying 34 = some (.slice 46) := Try.underlying34
theorem infoR : (Try.prog.info? 46).map (fun i => (i.zero, i.size, i.bytes)) = some (some (.agg #[.int .u16 0, .int .u32 0, .int .u32 0]), 3, 12) := by kernel_rfl
theorem eql_msg (x y : Msg) (W : World) : (binOp .eql 26 (.agg #[.int .u16 x.s, .int .u32 x.i, .int .u32 x.q]) (.agg #[.int .u16 y.s, .int .u32 y.i, .int .u32 y.q])).run Try.prog W = .ok (.bool (decide (x = y))) W := by
  obtain ⟨a0, a1, a2⟩ := x
  obtain ⟨b0, b1, b2⟩ := y
  go_simp
  repeat' split
  all_goals first | (simp_all; done) | (simp_all; omega)
theorem neq_msg (x y : Msg) (W : World) : (binOp .neq 26 (.agg #[.int .u16 x.s, .int .u32 x.i, .int .u32 x.q]) (.agg #[.int .u16 y.s, .int .u32 y.i, .int .u32 y.q])).run Try.prog W = .ok (.bool (!decide (x = y))) W := by
  obtain ⟨a0, a1, a2⟩ := x
  obtain ⟨b0, b1, b2⟩ := y
  go_simp
  repeat' split
  all_goals first | (simp_all; done) | (simp_all; omega)
theorem neq_row (x y : Msg) (W : World) : (binOp .neq 46 (.agg #[.int .u16 x.s, .int .u32 x.i, .int .u32 x.q]) (.agg #[.int .u16 y.s, .int .u32 y.i, .int .u32 y.q])).run Try.prog W = .ok (.bool (!decide (x = y))) W := by
  obtain ⟨a0, a1, a2⟩ := x
  obtain ⟨b0, b1, b2⟩ := y
  go_simp
  repeat' split
  all_goals first | (simp_all; done) | (simp_all; omega)
theorem eql_msg_no (x y : Msg) (h : x ≠ y) (W : World) : (binOp .eql 26 (.agg #[.int .u16 x.s, .int .u32 x.i, .int .u32 x.q]) (.agg #[.int .u16 y.s, .int .u32 y.i, .int .u32 y.q])).run Try.prog W = .ok (.bool false) W := by rw [eql_msg]; simp [h]
theorem eql_msg_yes (x : Msg) (W : World) : (binOp .eql 26 (.agg #[.int .u16 x.s, .int .u32 x.i, .int .u32 x.q]) (.agg #[.int .u16 x.s, .int .u32 x.i, .int .u32 x.q])).run Try.prog W = .ok (.bool true) W := by rw [eql_msg]; simp
theorem neq_msg_no (x y : Msg) (h : x ≠ y) (W : World) : (binOp .neq 26 (.agg #[.int .u16 x.s, .int .u32 x.i, .int .u32 x.q]) (.agg #[.int .u16 y.s, .int .u32 y.i, .int .u32 y.q])).run Try.prog W = .ok (.bool true) W := by rw [neq_msg]; simp [h]
theorem neq_msg_yes (x : Msg) (W : World) : (binOp .neq 26 (.agg #[.int .u16 x.s, .int .u32 x.i, .int .u32 x.q]) (.agg #[.int .u16 x.s, .int .u32 x.i, .int .u32 x.q])).run Try.prog W = .ok (.bool false) W := by rw [neq_msg]; simp
theorem neq_row_no (x y : Msg) (h : x ≠ y) (W : World) : (binOp .neq 46 (.agg #[.int .u16 x.s, .int .u32 x.i, .int .u32 x.q]) (.agg #[.int .u16 y.s, .int .u32 y.i, .int .u32 y.q])).run Try.prog W = .ok (.bool true) W := by rw [neq_row]; simp [h]
theorem neq_row_yes (x : Msg) (W : World) : (binOp .neq 46 (.agg #[.int .u16 x.s, .int .u32 x.i, .int .u32 x.q]) (.agg #[.int .u16 x.s, .int .u32 x.i, .int .u32 x.q])).run Try.prog W = .ok (.bool false) W := by rw [neq_row]; simp
end Go.Proofs.Ytajhfmioidmacaa
