/-
  Words for the walk of moved: what it becomes of two sides, and its three boxes.
-/
import Derived.Test.YtobljnbpokijdaaAya

namespace Go.Proofs.Ytobljnbpokijdaa
set_option linter.unusedVariables false
set_option linter.unusedSimpArgs false
open Go.RowKit

/-- A packet is queued on side i; side f sends; side t receives; a step. -/
def enQ (E : En) (i : Nat) (p : Pkt) : En := ⟨upd E.s i (qst (E.s i) p), if qerr p.1 p.2.length (E.s i).q.length = 0 then upd E.r i (E.r i ++ [p]) else E.r⟩
def enS (E : En) (f : Nat) : En := ⟨upd E.s f (sst (E.s f)), E.r⟩
def enT (E : En) (t : Nat) (sn ne md : Int) (p : Pkt) : En := ⟨upd E.s t (tst (E.s t) sn ne md p), if tstF (E.s t) sn ne md p = true then upd E.r (2 + t) (E.r (2 + t) ++ [p]) else E.r⟩
def mvS (E : En) (f t : Nat) (lost : Bool) : En := if lost = true then enS E f else enT (enS E f) t (E.s f).sn (E.s f).ne (smd (sst (E.s f)).em (E.s f).q.length) (spk (sst (E.s f)).em (E.s f).q)
def mv (E : En) (d : Int) (lost : Bool) (p : Pkt) : En := if d = 0 then enQ E 0 p else if d = 1 then enQ E 1 p else if d = 2 then mvS E 0 1 lost else if d = 3 then mvS E 1 0 lost else E
def Zs (Z : List Nat) (W : World) : List Nat := W.heap.size :: (W.heap.size + 1) :: (W.heap.size + 2) :: Z
def stCells (s : Stp) : Array Value := #[.int .i64 s.d, .bool s.lost, .int .i64 s.p.id, .slice s.p.A s.p.n s.p.c]
def zeroEn : Array Value := #[.int .i64 0, .int .i64 0, .slice none 0 0, .bool false, .bool false, .int .i64 0, .int .i64 0, .int .i64 0, .int .i64 0, .slice none 0 0, .bool false, .bool false, .int .i64 0, .int .i64 0, .slice none 0 0, .slice none 0 0, .slice none 0 0, .slice none 0 0]
/-- The three boxes of moved, and what lies about them. -/
structure Bx (Z : List Nat) (W : World) (base : Nat) (s : Stp) (E : En) (M : Mm) (wx : World) : Prop where
  x : Blk wx W.heap.size 52 (enCells E M)
  t : Blk wx (W.heap.size + 1) 55 (stCells s)
  o : Blk wx (W.heap.size + 2) 52 zeroEn
  mem : Emem base (Zs Z W) wx E M
  bel : Below base W wx
  pay : Pay wx s.p
  psep : ∀ b ∈ foot s.p.A s.p.n, b < base
  zr : ∀ z ∈ Z, base ≤ z ∧ z < W.heap.size
  zk : ∀ z ∈ Z, wx.heap[z]? = W.heap[z]?
theorem Keeps.blk {Z : List Nat} {w w' : World} {g : Nat} {t : TypeId} {cs : Array Value} (hk : Keeps Z w w') (h : Blk w g t cs) (hg : g ∉ Z) : Blk w' g t cs := (hk.2 g h.lt hg).trans h
theorem Bx.below {Z : List Nat} {W : World} {base : Nat} {s : Stp} {E : En} {M : Mm} {w w' : World} (h : Bx Z W base s E M w) (hbase : base ≤ W.heap.size) (hb : Below w.heap.size w w') : Bx Z W base s E M w' :=
  ⟨h.x.below hb h.x.lt, h.t.below hb h.t.lt, h.o.below hb h.o.lt, h.mem.keep (.of_below hb), h.bel.trans (hb.mono (by have := h.x.lt; omega)), h.pay.below hb, h.psep, h.zr, fun z hz => (hb.block z (by have h1 := (h.zr z hz).2; have h2 := h.x.lt; omega)).trans (h.zk z hz)⟩
theorem Bx.c {Z : List Nat} {W : World} {base : Nat} {s : Stp} {E : En} {M : Mm} {w : World} (h : Bx Z W base s E M w) : w.cell? ⟨W.heap.size, 0, none⟩ = some (Value.int .i64 (E.s 0).sn) ∧ w.cell? ⟨W.heap.size, 1, none⟩ = some (Value.int .i64 (E.s 0).ne) ∧ w.cell? ⟨W.heap.size, 2, none⟩ = some (Value.slice (M.q 0).Q (M.q 0).m (M.q 0).c) ∧ w.cell? ⟨W.heap.size, 3, none⟩ = some (Value.bool (E.s 0).op) ∧ w.cell? ⟨W.heap.size, 4, none⟩ = some (Value.bool (E.s 0).em) ∧ w.cell? ⟨W.heap.size, 5, none⟩ = some (Value.int .i64 (E.s 0).ack) ∧ w.cell? ⟨W.heap.size, 6, none⟩ = some (Value.int .i64 (E.s 0).tak) ∧ w.cell? ⟨W.heap.size, 7, none⟩ = some (Value.int .i64 (E.s 1).sn) ∧ w.cell? ⟨W.heap.size, 8, none⟩ = some (Value.int .i64 (E.s 1).ne) ∧ w.cell? ⟨W.heap.size, 9, none⟩ = some (Value.slice (M.q 1).Q (M.q 1).m (M.q 1).c) ∧ w.cell? ⟨W.heap.size, 10, none⟩ = some (Value.bool (E.s 1).op) ∧ w.cell? ⟨W.heap.size, 11, none⟩ = some (Value.bool (E.s 1).em) ∧ w.cell? ⟨W.heap.size, 12, none⟩ = some (Value.int .i64 (E.s 1).ack) ∧ w.cell? ⟨W.heap.size, 13, none⟩ = some (Value.int .i64 (E.s 1).tak) ∧ w.cell? ⟨W.heap.size, 14, none⟩ = some ((M.r 0).v) ∧ w.cell? ⟨W.heap.size, 15, none⟩ = some ((M.r 1).v) ∧ w.cell? ⟨W.heap.size, 16, none⟩ = some ((M.r 2).v) ∧ w.cell? ⟨W.heap.size, 17, none⟩ = some ((M.r 3).v) := ⟨h.x.cell 0, h.x.cell 1, h.x.cell 2, h.x.cell 3, h.x.cell 4, h.x.cell 5, h.x.cell 6, h.x.cell 7, h.x.cell 8, h.x.cell 9, h.x.cell 10, h.x.cell 11, h.x.cell 12, h.x.cell 13, h.x.cell 14, h.x.cell 15, h.x.cell 16, h.x.cell 17⟩
theorem Bx.f {Z : List Nat} {W : World} {base : Nat} {s : Stp} {E : En} {M : Mm} {w : World} (h : Bx Z W base s E M w) (i : Nat) : w.frozen? ⟨W.heap.size, i, none⟩ = false := h.x.frozen i
theorem Bx.ct {Z : List Nat} {W : World} {base : Nat} {s : Stp} {E : En} {M : Mm} {w : World} (h : Bx Z W base s E M w) : w.cell? ⟨W.heap.size + 1, 0, none⟩ = some (.int .i64 s.d) ∧ w.cell? ⟨W.heap.size + 1, 1, none⟩ = some (.bool s.lost) ∧ w.cell? ⟨W.heap.size + 1, 2, none⟩ = some (.int .i64 s.p.id) ∧ w.cell? ⟨W.heap.size + 1, 3, none⟩ = some (.slice s.p.A s.p.n s.p.c) := ⟨h.t.cell 0, h.t.cell 1, h.t.cell 2, h.t.cell 3⟩
theorem Bx.off {Z : List Nat} {W : World} {base : Nat} {s : Stp} {E : En} {M : Mm} {w : World} (h : Bx Z W base s E M w) {b : Nat} (hb : w.heap.size ≤ b) : b ∉ Zs Z W ∧ ∀ j, j < 4 → (M.r j).g ≠ some b := by
  have h0 := h.o.lt
  refine ⟨fun hz => ?_, fun j hj e => by have := ((h.mem.own j hj).lt b e).2; omega⟩
  simp only [Zs, List.mem_cons] at hz
  rcases hz with hz | hz | hz | hz
  · omega
  · omega
  · omega
  · have := (h.zr b hz).2; omega
/-- A side's seven cells are written into the box. -/
theorem Bx.side0 {Z : List Nat} {W : World} {base : Nat} {s : Stp} {E : En} {M : Mm} {w : World} (h : Bx Z W base s E M w) (hbase : base ≤ W.heap.size) (st : St) (q : Qm) (hq : Has w q.Q q.m q.c q.qs st.q) (hz : ∀ b ∈ q.feet, b ∉ Zs Z W) (hr : ∀ b ∈ q.feet, ∀ j, j < 4 → (M.r j).g ≠ some b) :
    Bx Z W base s ⟨upd E.s 0 st, E.r⟩ ⟨upd M.q 0 q, M.r⟩ (fills w W.heap.size [(0, Value.int .i64 (st).sn), (1, Value.int .i64 (st).ne), (2, Value.slice (q).Q (q).m (q).c), (3, Value.bool (st).op), (4, Value.bool (st).em), (5, Value.int .i64 (st).ack), (6, Value.int .i64 (st).tak)]) :=
  ⟨by simpa [enCells, upd] using blk_fills [(0, Value.int .i64 (st).sn), (1, Value.int .i64 (st).ne), (2, Value.slice (q).Q (q).m (q).c), (3, Value.bool (st).op), (4, Value.bool (st).em), (5, Value.int .i64 (st).ack), (6, Value.int .i64 (st).tak)] h.x, blk_fills_far _ (by omega) h.t, blk_fills_far _ (by omega) h.o, (h.mem.side st q hq hz hr).keep (Keeps.fills _ (by simp [Zs]) (Keeps.refl _ _)), below_fills _ hbase h.bel,
   pay_keep h.pay (Keeps.fills (Z := [W.heap.size]) _ (by simp) (Keeps.refl _ _)).1 fun b hb => (Keeps.fills (Z := [W.heap.size]) _ (by simp) (Keeps.refl _ _)).2 b (pay_lt h.pay b hb) (by intro hm; simp only [List.mem_singleton] at hm; have := h.psep b hb; omega), h.psep, h.zr, fun z hz => ((Keeps.fills (Z := [W.heap.size]) _ (by simp) (Keeps.refl _ _)).2 z (by have h1 := (h.zr z hz).2; have h2 := h.x.lt; omega) (by intro hm; simp only [List.mem_singleton] at hm; have h1 := (h.zr z hz).2; omega)).trans (h.zk z hz)⟩
theorem Bx.side1 {Z : List Nat} {W : World} {base : Nat} {s : Stp} {E : En} {M : Mm} {w : World} (h : Bx Z W base s E M w) (hbase : base ≤ W.heap.size) (st : St) (q : Qm) (hq : Has w q.Q q.m q.c q.qs st.q) (hz : ∀ b ∈ q.feet, b ∉ Zs Z W) (hr : ∀ b ∈ q.feet, ∀ j, j < 4 → (M.r j).g ≠ some b) :
    Bx Z W base s ⟨upd E.s 1 st, E.r⟩ ⟨upd M.q 1 q, M.r⟩ (fills w W.heap.size [(7, Value.int .i64 (st).sn), (8, Value.int .i64 (st).ne), (9, Value.slice (q).Q (q).m (q).c), (10, Value.bool (st).op), (11, Value.bool (st).em), (12, Value.int .i64 (st).ack), (13, Value.int .i64 (st).tak)]) :=
  ⟨by simpa [enCells, upd] using blk_fills [(7, Value.int .i64 (st).sn), (8, Value.int .i64 (st).ne), (9, Value.slice (q).Q (q).m (q).c), (10, Value.bool (st).op), (11, Value.bool (st).em), (12, Value.int .i64 (st).ack), (13, Value.int .i64 (st).tak)] h.x, blk_fills_far _ (by omega) h.t, blk_fills_far _ (by omega) h.o, (h.mem.side st q hq hz hr).keep (Keeps.fills _ (by simp [Zs]) (Keeps.refl _ _)), below_fills _ hbase h.bel,
   pay_keep h.pay (Keeps.fills (Z := [W.heap.size]) _ (by simp) (Keeps.refl _ _)).1 fun b hb => (Keeps.fills (Z := [W.heap.size]) _ (by simp) (Keeps.refl _ _)).2 b (pay_lt h.pay b hb) (by intro hm; simp only [List.mem_singleton] at hm; have := h.psep b hb; omega), h.psep, h.zr, fun z hz => ((Keeps.fills (Z := [W.heap.size]) _ (by simp) (Keeps.refl _ _)).2 z (by have h1 := (h.zr z hz).2; have h2 := h.x.lt; omega) (by intro hm; simp only [List.mem_singleton] at hm; have h1 := (h.zr z hz).2; omega)).trans (h.zk z hz)⟩
/-- A list's row is grown, and its slice written into the box. -/
theorem Bx.grown {Z : List Nat} {W : World} {base : Nat} {s : Stp} {E : En} {M : Mm} {w w' : World} (h : Bx Z W base s E M w) {i : Nat} (hi : i < 4) (hg : w.grownBy w' (M.r i).g) : Blk w' W.heap.size 52 (enCells E M) ∧ Blk w' (W.heap.size + 1) 55 (stCells s) ∧ Blk w' (W.heap.size + 2) 52 zeroEn := by
  have hz := h.mem.offZ i hi
  exact ⟨h.x.grown hg (fun e => hz _ e.symm (by simp [Zs])), h.t.grown hg (fun e => hz _ e.symm (by simp [Zs])), h.o.grown hg (fun e => hz _ e.symm (by simp [Zs]))⟩
theorem Bx.push {Z : List Nat} {W : World} {base : Nat} {s : Stp} {E : En} {M : Mm} {w w' : World} (h : Bx Z W base s E M w) (hbase : base ≤ W.heap.size) {i : Nat} (hi : i < 4) {v' : Value} {g' : Option Nat} {p : Pk}
    (hown : OwnG w' base 30 2 v' ((M.r i).n + 1) (pv (M.r i).qs ++ pv [p]) g') (hg : w.grownBy w' (M.r i).g) (hg' : g' = (M.r i).g ∨ g' = some w.heap.size) (hp : Pay w p) (hpr : ∀ b ∈ foot p.A p.n, ∀ j, j < 4 → (M.r j).g ≠ some b) (hpz : ∀ b ∈ foot p.A p.n, b ∉ Zs Z W) :
    Bx Z W base s ⟨E.s, upd E.r i (E.r i ++ [p.abs])⟩ ⟨M.q, upd M.r i ⟨v', (M.r i).n + 1, (M.r i).qs ++ [p], g'⟩⟩ (w'.setCell ⟨W.heap.size, 14 + i, none⟩ v') := by
  obtain ⟨k1, k2, k3⟩ := h.grown hi hg
  have hzw : ∀ z ∈ Zs Z W, z < w.heap.size := by
    intro z hz
    have h1 := h.x.lt
    have h2 := h.t.lt
    have h3 := h.o.lt
    simp only [Zs, List.mem_cons] at hz
    rcases hz with hz | hz | hz | hz
    · omega
    · omega
    · omega
    · have := (h.zr z hz).2; omega
  have hle : ∀ k, (M.r i).g = some k → base ≤ k := fun k e => ((h.mem.own i hi).lt k e).1
  refine ⟨?_, k2.far (by simp) _, k3.far (by simp) _, (h.mem.push hi hown hg hg' hp hpr hpz hzw).keep ((Keeps.refl _ _).set (by simp [Zs]) _), (h.bel.grown hg ?_ hle).setCell (p := ⟨W.heap.size, 14 + i, none⟩) hbase _, ?_, h.psep, h.zr, fun z hz => (Below.heap_setCell w' ⟨W.heap.size, 14 + i, none⟩ v' z (fun e => by have h1 := (h.zr z hz).2; simp only at e; omega)).trans ((hg.block z (by have h1 := (h.zr z hz).2; have h2 := h.x.lt; omega) (fun e => h.mem.offZ i hi z e.symm (by simp [Zs, hz]))).trans (h.zk z hz))⟩
  · have := k1.set_ (14 + i) v'
    rcases (show i = 0 ∨ i = 1 ∨ i = 2 ∨ i = 3 by omega) with rfl | rfl | rfl | rfl <;> simpa [enCells, upd] using this
  · have := h.bel.size; omega
  · have hpk : Pay w' s.p := pay_keep h.pay hg.size fun b hb => hg.block b (pay_lt h.pay b hb) fun e => by have := hle b e.symm; have := h.psep b hb; omega
    exact pay_keep hpk (Keeps.fills (Z := [W.heap.size]) [(14 + i, v')] (by simp) (Keeps.refl _ _)).1 fun b hb => (Keeps.fills (Z := [W.heap.size]) [(14 + i, v')] (by simp) (Keeps.refl _ _)).2 b (pay_lt hpk b hb) (by intro hm; simp only [List.mem_singleton] at hm; have := h.psep b hb; omega)
section
variable (s : St) (Q : Option Addr) (m cap : Nat) (qs : List Pk) (w : World)
theorem queueA (p : Pk) (a : Pkt) (ha : p.abs = a) (hQ : Has w Q m cap qs s.q) (hl : s.q.length ≤ 64) (hp : Pay w p) :
    Calls Try.prog 11 #[.agg #[.int .i64 s.sn, .int .i64 s.ne, .slice Q m cap, .bool s.op, .bool s.em, .int .i64 s.ack, .int .i64 s.tak], .agg #[.int .i64 p.id, .slice p.A p.n p.c]] w fun e w' =>
      ∃ Q' m' cap' qs', e = .returned (.tuple #[.agg #[.int .i64 (qst s a).sn, .int .i64 (qst s a).ne, .slice Q' m' cap', .bool (qst s a).op, .bool (qst s a).em, .int .i64 (qst s a).ack, .int .i64 (qst s a).tak], .int .i64 ((qerr a.1 a.2.length s.q.length : Nat) : Int)]) ∧ Fresh w.heap.size w' Q' m' cap' qs' (qst s a).q ∧ Below w.heap.size w w' := by
  subst ha
  exact queueS s Q m cap qs w p hQ hl hp
theorem takeA (sn ne md : Int) (p : Pk) (a : Pkt) (ha : p.abs = a) {k : Nat} (hk : k ≤ 100000) (hQ : Has w Q m cap qs s.q) (ho : Ok k s) (hp : Pay w p) :
    Calls Try.prog 16 #[.agg #[.int .i64 s.sn, .int .i64 s.ne, .slice Q m cap, .bool s.op, .bool s.em, .int .i64 s.ack, .int .i64 s.tak], .agg #[.int .i64 sn, .int .i64 ne, .int .i64 md, .int .i64 p.id, .slice p.A p.n p.c]] w fun e w' =>
      ∃ Q' m' cap' qs' g, e = .returned (.tuple #[.agg #[.int .i64 (tst s sn ne md a).sn, .int .i64 (tst s sn ne md a).ne, .slice Q' m' cap', .bool (tst s sn ne md a).op, .bool (tst s sn ne md a).em, .int .i64 (tst s sn ne md a).ack, .int .i64 (tst s sn ne md a).tak], .agg #[.int .i64 g.id, .slice g.A g.n g.c], .bool (tstF s sn ne md a), .bool (tstA s sn ne md a)]) ∧ Fresh w.heap.size w' Q' m' cap' qs' (tst s sn ne md a).q ∧ Own1 w.heap.size w' g ∧ g.abs = tkG (tstF s sn ne md a) a.1 a.2 ∧ Below w.heap.size w w' := by
  subst ha
  exact takeS s Q m cap qs w sn ne md p hk hQ ho hp
end
noncomputable def mvCode (n : Nat) : Code := ((Try.f22.body.bind (regOf n)).getD .skip)
end Go.Proofs.Ytobljnbpokijdaa
