/-
  How an argument of the statements on instants is read: a change by value, a list of changes.
-/
import Derived.Test.YtbpfloalncapcaaInd
import Derived.ProofKit
import Derived.Deep.Slices
namespace Go.Proofs.Ytbpfloalncapcaa
set_option linter.unusedVariables false
set_option linter.unusedSimpArgs false
open Go.RowKit

open Go.ChangeShapes Go.WideShapes Go.Deep
section
variable {H : Type} {enc : TypeId × Value → H} {W : World} {base : Nat} {sp : Nat → Bool} {held : Bool} {fuel : Nat}
theorem cells_int : Try.prog.cellsOf 3 = 1 := by kernel_rfl
theorem cells_u16 : Try.prog.cellsOf 22 = 1 := by kernel_rfl
theorem cells_map : Try.prog.cellsOf 29 = 1 := by kernel_rfl
theorem cells_upd : Try.prog.cellsOf 27 = 5 := by kernel_rfl
theorem cells_chg : Try.prog.cellsOf 31 = 8 := by kernel_rfl
theorem list4 {α : Type} {l : List α} (h : l.length = 4) : ∃ a b c d, l = [a, b, c, d] := by
  match l, h with
  | [a, b, c, d], _ => exact ⟨a, b, c, d, rfl⟩
theorem list5 {α : Type} {l : List α} (h : l.length = 5) : ∃ a b c d e, l = [a, b, c, d, e] := by
  match l, h with
  | [a, b, c, d, e], _ => exact ⟨a, b, c, d, e, rfl⟩
theorem list8 {α : Type} {l : List α} (h : l.length = 8) : ∃ a b c d e f g i, l = [a, b, c, d, e, f, g, i] := by
  match l, h with
  | [a, b, c, d, e, f, g, i], _ => exact ⟨a, b, c, d, e, f, g, i, rfl⟩
theorem open_upd {cs : List Value} {x : DataW H × List MemPlace} (h : DataW.trod enc Try.prog W base sp held fuel 27 cs = some x) :
    ∃ a b c d e : Int, cs = [.int .i64 a, .int .i64 b, .int .i64 c, .int .i64 d, .int .i64 e] := by
  obtain ⟨xs, n, _, _, hlen, hxl, hf⟩ := DataW.trod_struct Try.underlying27 h
  rw [cells_upd] at hlen
  obtain ⟨c0, c1, c2, c3, c4, rfl⟩ := list5 hlen
  obtain ⟨y0, y1, y2, y3, y4, rfl⟩ := list5 (by simpa using hxl)
  have h0 := hf 0 _ rfl
  have h1 := hf 1 _ rfl
  have h2 := hf 2 _ rfl
  have h3 := hf 3 _ rfl
  have h4 := hf 4 _ rfl
  simp [cells_int] at h0 h1 h2 h3 h4
  obtain ⟨a, e0, _⟩ := DataW.trod_int Try.underlying3 h0
  obtain ⟨b, e1, _⟩ := DataW.trod_int Try.underlying3 h1
  obtain ⟨c, e2, _⟩ := DataW.trod_int Try.underlying3 h2
  obtain ⟨d, e3, _⟩ := DataW.trod_int Try.underlying3 h3
  obtain ⟨e, e4, _⟩ := DataW.trod_int Try.underlying3 h4
  simp only [List.cons.injEq, and_true] at e0 e1 e2 e3 e4
  exact ⟨a, b, c, d, e, by rw [e0, e1, e2, e3, e4]⟩
theorem open_chgcs {cs : List Value} {x : DataW H × List MemPlace} (h : DataW.trod enc Try.prog W base sp held fuel 31 cs = some x) : ∃ c : Chg, cs = c.cells ∧ c.i < 65536 := by
  obtain ⟨xs, n, _, _, hlen, hxl, hf⟩ := DataW.trod_struct Try.underlying31 h
  rw [cells_chg] at hlen
  obtain ⟨c0, c1, c2, c3, c4, c5, c6, c7, rfl⟩ := list8 hlen
  obtain ⟨y0, y1, y2, y3, rfl⟩ := list4 (by simpa using hxl)
  have h0 := hf 0 _ rfl
  have h1 := hf 1 _ rfl
  have h2 := hf 2 _ rfl
  have h3 := hf 3 _ rfl
  simp [cells_int, cells_u16, cells_upd, cells_map] at h0 h1 h2 h3
  obtain ⟨k, e0, _⟩ := DataW.trod_int Try.underlying3 h0
  obtain ⟨i, e1, _, wi⟩ := DataW.trod_int Try.underlying22 h1
  obtain ⟨p, q, r, s, t, e2⟩ := open_upd h2
  obtain ⟨m, e3, _⟩ := DataW.trod_int Try.underlying29 h3
  have hi := wf_u16 wi
  simp only [List.cons.injEq, and_true] at e0 e1 e2 e3
  obtain ⟨f0, f1, f2, f3, f4⟩ := e2
  refine ⟨⟨k, i.toNat, p, q, r, s, t, m⟩, ?_, by show i.toNat < 65536; omega⟩
  simp only [Chg.cells]
  rw [e0, e1, f0, f1, f2, f3, f4, e3, Int.toNat_of_nonneg hi.1]
theorem open_chgv {r : Reach} {b0 : Nat} {v : Value} {d : DataW H} {p : List MemPlace} (hv : Value.okWide Try.prog W r b0 31 v) (h : DataW.Trod enc Try.prog W base sp held 31 v d p) :
    ∃ c : Chg, v = .agg #[.int .i64 c.k, .int .u16 (c.i : Int), .int .i64 c.x0, .int .i64 c.x1, .int .i64 c.x2, .int .i64 c.x3, .int .i64 c.x4, .int .u64 c.m] ∧ c.i < 65536 := by
  obtain ⟨cs, rfl, _⟩ := okWide_struct Try.underlying31 hv
  obtain ⟨fuel, hf⟩ := h
  obtain ⟨c, hc, hi⟩ := open_chgcs hf
  refine ⟨c, ?_, hi⟩
  obtain ⟨l⟩ := cs
  have hl : l = c.cells := hc
  rw [hl]
  rfl
theorem open_chgs {r : Reach} {b0 : Nat} {v : Value} {d : DataW H} {p : List MemPlace} (hv : Value.okWide Try.prog W r b0 35 v) (h : DataW.Trod enc Try.prog W 0 (fun _ => true) held 35 v d p) :
    ∃ (A : Option Addr) (n c : Nat) (l : List Chg), v = .slice A n c ∧ ChgIn W A n c l := by
  obtain ⟨A, n, c, rfl⟩ := okWide_slice under35 hv
  obtain ⟨fuel, hf⟩ := h
  rcases open_slice under35 hf with ⟨hcs, _⟩ | ⟨a, len, cap, m, k, D, Pl, hcs, _, hl, hm, hmm, _, hi⟩
  · simp [Value.cells] at hcs
    obtain ⟨rfl, rfl, rfl⟩ := hcs
    exact ⟨none, 0, 0, [], rfl, Rd.none_ _ _ _, by simp, Nat.le_refl _, by decide⟩
  · simp [Value.cells] at hcs
    obtain ⟨rfl, rfl, rfl⟩ := hcs
    have hlm : n ≤ m := by rw [hmm]; simpa using hl
    have hone : ∀ i, i < n → ∃ q : Chg, q.i < 65536 ∧ ∀ j u, q.cells[j]? = some u → W.cell? (a.add (i * 8 + j)) = some u := by
      intro i hin
      obtain ⟨cs', hc', ht'⟩ := hi i (by omega)
      rw [cells_chg] at hc'
      obtain ⟨q, hq, hqi⟩ := open_chgcs ht'
      obtain ⟨_, hcl, hat⟩ := World.cells?_some hc'
      refine ⟨q, hqi, fun j u hu => ?_⟩
      have hj : j < 8 := (List.getElem?_eq_some_iff.1 hu).1
      have := hat j hj
      rw [hq, hu, Go.Deep.add_add] at this
      exact this
    obtain ⟨q, hq⟩ := choose_lt (α := Chg) (n := n) (p := fun i q => q.i < 65536 ∧ ∀ j u, q.cells[j]? = some u → W.cell? (a.add (i * 8 + j)) = some u) hone
    refine ⟨some a, n, c, (List.range n).map q, rfl, ⟨by rw [chv_length]; simp, fun h0 => ?_⟩, ?_, hl, hm⟩
    · have hc0 := (hq 0 h0).2 0 _ rfl
      obtain ⟨b, o, spt⟩ := a
      have hspt : spt = none := by simpa [Addr.add] using World.cell?_spot hc0
      subst hspt
      refine ⟨b, o, rfl, World.block_lt_of_cell? W ⟨b, o, none⟩ (by rw [Addr.add_lit] at hc0; exact hc0), fun j u hu => ?_⟩
      have hj : j < n * 8 := by
        have := (List.getElem?_eq_some_iff.1 hu).1
        rw [chv_length] at this
        simpa using this
      have hk : j / 8 < n := by omega
      have hg := chv_get ((List.range n).map q) (j / 8) (q (j / 8)) (by simp [hk]) (j % 8) (by omega)
      rw [show j / 8 * 8 + j % 8 = j by omega, hu] at hg
      have := (hq (j / 8) hk).2 (j % 8) u hg.symm
      rw [Addr.add_lit, show j / 8 * 8 + j % 8 = j by omega] at this
      exact this
    · intro y hy
      obtain ⟨i, hi', rfl⟩ := List.mem_map.1 hy
      exact (hq i (by simpa using hi')).1
end
end Go.Proofs.Ytbpfloalncapcaa
