/-
  The walk of lives. Its contract: it returns true.
-/
import Derived.Test.YtobljnbpokijdaaAql
namespace Go.Proofs.Ytobljnbpokijdaa
set_option linter.unusedVariables false
set_option linter.unusedSimpArgs false
open Go.RowKit

theorem bset {w0 w : World} {g i : Nat} {u : Value} (h : Below w0.heap.size w0 w) (hg : w0.heap.size ≤ g) : Below w0.heap.size w0 (w.setCell ⟨g, i, none⟩ u) := h.setCell (p := ⟨g, i, none⟩) hg u
theorem bseq {w0 w w' : World} (h : Below w0.heap.size w0 w) (hb : Below w.heap.size w w') : Below w0.heap.size w0 w' := h.trans (hb.mono h.size)
theorem lt_alloc (w : World) (o : Obj) : w.heap.size < (w.alloc o).heap.size := by simp
theorem bal {w0 w : World} (h : Below w0.heap.size w0 w) (o : Obj) : Below w0.heap.size w0 (w.alloc o) := h.alloc h.size o
theorem pk_of {p : Pk} {w : World} {x : Nat} (hp : Pay w p) (h : p.abs = (2, [x])) : p = ⟨2, p.A, 1, p.c, [x]⟩ := by
  obtain ⟨id, A, n, c, l⟩ := p
  injection h with h1 h2
  simp only at h1 h2
  subst h1
  subst h2
  have := hp.len
  simp at this
  subst this
  rfl
theorem Fresh.len {base : Nat} {w : World} {Q : Option Addr} {m cap : Nat} {qs : List Pk} {L : List Pkt} (h : Fresh base w Q m cap qs L) : m = L.length := by rw [← h.abs, List.length_map, h.rd.len]
theorem Own1.pay {base : Nat} {w : World} {p : Pk} (h : Own1 base w p) : Pay w p := h.1
theorem Own1.alloc {base : Nat} {w : World} {p : Pk} (h : Own1 base w p) (o : Obj) : Own1 base (w.alloc o) p := ⟨h.1.alloc o, h.2⟩
theorem ok0 : Ok 10 (⟨0, 0, [], false, false, 0, 0⟩ : St) := ⟨by decide, by decide, by decide, by decide, by decide, by decide, by decide, by decide, by decide⟩
theorem ok3 : Ok 10 (⟨0, 0, [(2, [1]), (2, [2])], true, false, 0, 0⟩ : St) := ⟨by decide, by decide, by decide, by decide, by decide, by decide, by decide, by decide, by decide⟩
theorem okc : Ok 10 (⟨0, 1, [], false, false, 0, 1⟩ : St) := ⟨by decide, by decide, by decide, by decide, by decide, by decide, by decide, by decide, by decide⟩
theorem lv_q1 (Q : Option Addr) (cap : Nat) (qs : List Pk) (A : Option Addr) (c : Nat) (w : World) (hQ : Has w Q 0 cap qs []) (hp : Pay w ⟨2, A, 1, c, [1]⟩) :
    Calls Try.prog 11 #[.agg #[.int .i64 0, .int .i64 0, .slice Q 0 cap, .bool false, .bool false, .int .i64 0, .int .i64 0], .agg #[.int .i64 2, .slice A 1 c]] w fun e w' => ∃ Q' cap' qs', e = .returned (.tuple #[.agg #[.int .i64 0, .int .i64 0, .slice Q' 1 cap', .bool false, .bool false, .int .i64 0, .int .i64 0], .int .i64 0]) ∧ Fresh w.heap.size w' Q' 1 cap' qs' [(2, [1])] ∧ Below w.heap.size w w' := by
  refine (queueS (⟨0, 0, [], false, false, 0, 0⟩ : St) Q 0 cap qs w ⟨2, A, 1, c, [1]⟩ hQ (by decide) hp).mono ?_
  rintro e w' ⟨Q', m', cap', qs', rfl, h1, h2⟩
  have hm := h1.len
  have e1 : qst (⟨0, 0, [], false, false, 0, 0⟩ : St) (Pk.abs ⟨2, A, 1, c, [1]⟩) = (⟨0, 0, [(2, [1])], false, false, 0, 0⟩ : St) := rfl
  rw [e1] at h1 hm
  obtain rfl : m' = 1 := hm
  exact ⟨Q', cap', qs', rfl, h1, h2⟩
theorem lv_q2 (Q : Option Addr) (cap : Nat) (qs : List Pk) (A : Option Addr) (c : Nat) (w : World) (hQ : Has w Q 1 cap qs [(2, [1])]) (hp : Pay w ⟨2, A, 1, c, [2]⟩) :
    Calls Try.prog 11 #[.agg #[.int .i64 0, .int .i64 0, .slice Q 1 cap, .bool false, .bool false, .int .i64 0, .int .i64 0], .agg #[.int .i64 2, .slice A 1 c]] w fun e w' => ∃ Q' cap' qs', e = .returned (.tuple #[.agg #[.int .i64 0, .int .i64 0, .slice Q' 2 cap', .bool false, .bool false, .int .i64 0, .int .i64 0], .int .i64 0]) ∧ Fresh w.heap.size w' Q' 2 cap' qs' [(2, [1]), (2, [2])] ∧ Below w.heap.size w w' := by
  refine (queueS (⟨0, 0, [(2, [1])], false, false, 0, 0⟩ : St) Q 1 cap qs w ⟨2, A, 1, c, [2]⟩ hQ (by decide) hp).mono ?_
  rintro e w' ⟨Q', m', cap', qs', rfl, h1, h2⟩
  have hm := h1.len
  have e1 : qst (⟨0, 0, [(2, [1])], false, false, 0, 0⟩ : St) (Pk.abs ⟨2, A, 1, c, [2]⟩) = (⟨0, 0, [(2, [1]), (2, [2])], false, false, 0, 0⟩ : St) := rfl
  rw [e1] at h1 hm
  obtain rfl : m' = 2 := hm
  exact ⟨Q', cap', qs', rfl, h1, h2⟩
theorem lv_q3 (Q : Option Addr) (cap : Nat) (qs : List Pk) (w : World) (hQ : Has w Q 2 cap qs [(2, [1]), (2, [2])]) :
    Calls Try.prog 11 #[.agg #[.int .i64 0, .int .i64 0, .slice Q 2 cap, .bool true, .bool false, .int .i64 0, .int .i64 0], .agg #[.int .i64 1, .slice none 0 0]] w fun e w' => ∃ Q' cap' qs', e = .returned (.tuple #[.agg #[.int .i64 0, .int .i64 0, .slice Q' 2 cap', .bool true, .bool false, .int .i64 0, .int .i64 0], .int .i64 1]) ∧ Fresh w.heap.size w' Q' 2 cap' qs' [(2, [1]), (2, [2])] ∧ Below w.heap.size w w' := by
  refine (queueS (⟨0, 0, [(2, [1]), (2, [2])], true, false, 0, 0⟩ : St) Q 2 cap qs w ⟨1, none, 0, 0, []⟩ hQ (by decide) (own1_blank 0 _ _).1).mono ?_
  rintro e w' ⟨Q', m', cap', qs', rfl, h1, h2⟩
  have hm := h1.len
  have e1 : qst (⟨0, 0, [(2, [1]), (2, [2])], true, false, 0, 0⟩ : St) (Pk.abs ⟨1, none, 0, 0, []⟩) = (⟨0, 0, [(2, [1]), (2, [2])], true, false, 0, 0⟩ : St) := rfl
  rw [e1] at h1 hm
  obtain rfl : m' = 2 := hm
  exact ⟨Q', cap', qs', rfl, h1, h2⟩
theorem lv_s1 (Q : Option Addr) (cap : Nat) (qs : List Pk) (w : World) (hQ : Has w Q 2 cap qs [(2, [1]), (2, [2])]) :
    Calls Try.prog 13 #[.agg #[.int .i64 0, .int .i64 0, .slice Q 2 cap, .bool false, .bool false, .int .i64 0, .int .i64 0]] w fun e w' => ∃ Q' cap' qs' A c, e = .returned (.tuple #[.agg #[.int .i64 0, .int .i64 0, .slice Q' 2 cap', .bool true, .bool false, .int .i64 0, .int .i64 0], .agg #[.int .i64 0, .int .i64 0, .int .i64 1, .int .i64 2, .slice A 1 c]]) ∧ Fresh w.heap.size w' Q' 2 cap' qs' [(2, [1]), (2, [2])] ∧ Own1 w.heap.size w' ⟨2, A, 1, c, [1]⟩ ∧ Below w.heap.size w w' := by
  refine (sendS (⟨0, 0, [(2, [1]), (2, [2])], false, false, 0, 0⟩ : St) Q 2 cap qs w hQ (by decide)).mono ?_
  rintro e w' ⟨Q', cap', qs', p, rfl, h1, h2, h3, h4⟩
  have hpk := pk_of h2.1 h3
  rw [hpk] at h2 ⊢
  exact ⟨Q', cap', qs', p.A, p.c, rfl, h1, h2, h4⟩
theorem lv_s2 (Q : Option Addr) (cap : Nat) (qs : List Pk) (w : World) (hQ : Has w Q 2 cap qs [(2, [1]), (2, [2])]) :
    Calls Try.prog 13 #[.agg #[.int .i64 0, .int .i64 0, .slice Q 2 cap, .bool true, .bool false, .int .i64 0, .int .i64 0]] w fun e w' => ∃ Q' cap' qs' A c, e = .returned (.tuple #[.agg #[.int .i64 0, .int .i64 0, .slice Q' 2 cap', .bool true, .bool false, .int .i64 0, .int .i64 0], .agg #[.int .i64 0, .int .i64 0, .int .i64 1, .int .i64 2, .slice A 1 c]]) ∧ Fresh w.heap.size w' Q' 2 cap' qs' [(2, [1]), (2, [2])] ∧ Own1 w.heap.size w' ⟨2, A, 1, c, [1]⟩ ∧ Below w.heap.size w w' := by
  refine (sendS (⟨0, 0, [(2, [1]), (2, [2])], true, false, 0, 0⟩ : St) Q 2 cap qs w hQ (by decide)).mono ?_
  rintro e w' ⟨Q', cap', qs', p, rfl, h1, h2, h3, h4⟩
  have hpk := pk_of h2.1 h3
  rw [hpk] at h2 ⊢
  exact ⟨Q', cap', qs', p.A, p.c, rfl, h1, h2, h4⟩
theorem lv_s3 (Q : Option Addr) (cap : Nat) (qs : List Pk) (w : World) (hQ : Has w Q 1 cap qs [(2, [2])]) :
    Calls Try.prog 13 #[.agg #[.int .i64 1, .int .i64 1, .slice Q 1 cap, .bool false, .bool false, .int .i64 1, .int .i64 0]] w fun e w' => ∃ Q' cap' qs' A c, e = .returned (.tuple #[.agg #[.int .i64 1, .int .i64 1, .slice Q' 1 cap', .bool true, .bool false, .int .i64 1, .int .i64 0], .agg #[.int .i64 1, .int .i64 1, .int .i64 0, .int .i64 2, .slice A 1 c]]) ∧ Fresh w.heap.size w' Q' 1 cap' qs' [(2, [2])] ∧ Own1 w.heap.size w' ⟨2, A, 1, c, [2]⟩ ∧ Below w.heap.size w w' := by
  refine (sendS (⟨1, 1, [(2, [2])], false, false, 1, 0⟩ : St) Q 1 cap qs w hQ (by decide)).mono ?_
  rintro e w' ⟨Q', cap', qs', p, rfl, h1, h2, h3, h4⟩
  have hpk := pk_of h2.1 h3
  rw [hpk] at h2 ⊢
  exact ⟨Q', cap', qs', p.A, p.c, rfl, h1, h2, h4⟩
theorem lv_t1 (Q : Option Addr) (cap : Nat) (qs : List Pk) (w : World) (hQ : Has w Q 2 cap qs [(2, [1]), (2, [2])]) :
    Calls Try.prog 16 #[.agg #[.int .i64 0, .int .i64 0, .slice Q 2 cap, .bool true, .bool false, .int .i64 0, .int .i64 0], .agg #[.int .i64 0, .int .i64 1, .int .i64 0, .int .i64 1, .slice none 0 0]] w fun e w' => ∃ Q' cap' qs' id' A' n' c', e = .returned (.tuple #[.agg #[.int .i64 1, .int .i64 1, .slice Q' 1 cap', .bool false, .bool false, .int .i64 1, .int .i64 0], .agg #[.int .i64 id', .slice A' n' c'], .bool false, .bool true]) ∧ Fresh w.heap.size w' Q' 1 cap' qs' [(2, [2])] ∧ Below w.heap.size w w' := by
  refine (takeS (⟨0, 0, [(2, [1]), (2, [2])], true, false, 0, 0⟩ : St) Q 2 cap qs w 0 1 0 ⟨1, none, 0, 0, []⟩ (k := 10) (by decide) hQ ok3 (own1_blank 0 _ _).1).mono ?_
  rintro e w' ⟨Q', m', cap', qs', g, rfl, h1, h2, h3, h4⟩
  have hm := h1.len
  have e1 : tst (⟨0, 0, [(2, [1]), (2, [2])], true, false, 0, 0⟩ : St) 0 1 0 (Pk.abs ⟨1, none, 0, 0, []⟩) = (⟨1, 1, [(2, [2])], false, false, 1, 0⟩ : St) := rfl
  rw [e1] at h1 hm
  obtain rfl : m' = 1 := hm
  exact ⟨Q', cap', qs', g.id, g.A, g.n, g.c, rfl, h1, h4⟩
theorem lv_t2 (Q : Option Addr) (cap : Nat) (qs : List Pk) (A : Option Addr) (c : Nat) (w : World) (hQ : Has w Q 0 cap qs []) (hp : Pay w ⟨2, A, 1, c, [1]⟩) :
    Calls Try.prog 16 #[.agg #[.int .i64 0, .int .i64 0, .slice Q 0 cap, .bool false, .bool false, .int .i64 0, .int .i64 0], .agg #[.int .i64 0, .int .i64 0, .int .i64 1, .int .i64 2, .slice A 1 c]] w fun e w' => ∃ Q' cap' qs' A' c', e = .returned (.tuple #[.agg #[.int .i64 0, .int .i64 1, .slice Q' 0 cap', .bool false, .bool false, .int .i64 0, .int .i64 1], .agg #[.int .i64 2, .slice A' 1 c'], .bool true, .bool false]) ∧ Fresh w.heap.size w' Q' 0 cap' qs' [] ∧ Own1 w.heap.size w' ⟨2, A', 1, c', [1]⟩ ∧ Below w.heap.size w w' := by
  refine (takeS (⟨0, 0, [], false, false, 0, 0⟩ : St) Q 0 cap qs w 0 0 1 ⟨2, A, 1, c, [1]⟩ (k := 10) (by decide) hQ ok0 hp).mono ?_
  rintro e w' ⟨Q', m', cap', qs', g, rfl, h1, h2, h3, h4⟩
  have hm := h1.len
  have e1 : tst (⟨0, 0, [], false, false, 0, 0⟩ : St) 0 0 1 (Pk.abs ⟨2, A, 1, c, [1]⟩) = (⟨0, 1, [], false, false, 0, 1⟩ : St) := rfl
  rw [e1] at h1 hm
  obtain rfl : m' = 0 := hm
  have hpk := pk_of h2.1 h3
  have hpp := h2
  rw [hpk] at hpp ⊢
  exact ⟨Q', cap', qs', g.A, g.c, rfl, h1, hpp, h4⟩
theorem lv_t3 (Q : Option Addr) (cap : Nat) (qs : List Pk) (A : Option Addr) (c : Nat) (w : World) (hQ : Has w Q 0 cap qs []) (hp : Pay w ⟨2, A, 1, c, [1]⟩) :
    Calls Try.prog 16 #[.agg #[.int .i64 0, .int .i64 1, .slice Q 0 cap, .bool false, .bool false, .int .i64 0, .int .i64 1], .agg #[.int .i64 0, .int .i64 0, .int .i64 1, .int .i64 2, .slice A 1 c]] w fun e w' => ∃ Q' cap' qs' id' A' n' c', e = .returned (.tuple #[.agg #[.int .i64 0, .int .i64 1, .slice Q' 0 cap', .bool false, .bool false, .int .i64 0, .int .i64 1], .agg #[.int .i64 id', .slice A' n' c'], .bool false, .bool false]) ∧ Fresh w.heap.size w' Q' 0 cap' qs' [] ∧ Below w.heap.size w w' := by
  refine (takeS (⟨0, 1, [], false, false, 0, 1⟩ : St) Q 0 cap qs w 0 0 1 ⟨2, A, 1, c, [1]⟩ (k := 10) (by decide) hQ okc hp).mono ?_
  rintro e w' ⟨Q', m', cap', qs', g, rfl, h1, h2, h3, h4⟩
  have hm := h1.len
  have e1 : tst (⟨0, 1, [], false, false, 0, 1⟩ : St) 0 0 1 (Pk.abs ⟨2, A, 1, c, [1]⟩) = (⟨0, 1, [], false, false, 0, 1⟩ : St) := rfl
  rw [e1] at h1 hm
  obtain rfl : m' = 0 := hm
  exact ⟨Q', cap', qs', g.id, g.A, g.n, g.c, rfl, h1, h4⟩
theorem pay_one {w : World} {g x : Nat} (h : Blk w g 5 #[.int .u8 (x : Int)]) (hx : x < 256) : Pay w ⟨2, some ⟨g, 0, none⟩, 1, 1, [x]⟩ := by
  refine ⟨⟨rfl, fun _ => ⟨g, 0, rfl, h.lt, fun j u hu => ?_⟩⟩, by simpa using hx, Nat.le_refl _, big_of (show 1 ≤ 100000 by omega)⟩
  rw [Nat.zero_add, h.cell]
  simpa [bv] using hu
/-- Region n of a text. -/
def regOf (n : Nat) : Code → Option Code
  | .region id ops d => if id == n then some (.region id ops d) else none
  | .seq a b => match regOf n a with
    | some c => some c
    | none => regOf n b
  | .cond _ a b => match regOf n a with
    | some c => some c
    | none => regOf n b
  | .block _ c => regOf n c
  | .loop c => regOf n c
  | .scope c => regOf n c
  | _ => none
noncomputable def lvCode (n : Nat) : Code := ((Try.f7.body.bind (regOf n)).getD .skip)
end Go.Proofs.Ytobljnbpokijdaa
