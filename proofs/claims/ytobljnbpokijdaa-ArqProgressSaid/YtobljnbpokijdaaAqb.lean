/-
  Lists of packets in memory. Plain lemmas on memory, used by the walks of the package arq.
-/
import Derived.Test.YtobljnbpokijdaaAqa
import Derived.Deep.QuietTactic
import Derived.BigQuiet
import Derived.Deep.RegionLaw
import Derived.Deep.RegionHeld3
import Derived.Deep.AppendLies
namespace Go.Proofs.Ytobljnbpokijdaa
set_option linter.unusedVariables false
set_option linter.unusedSimpArgs false
open Go.RowKit

/-- A packet as it lies in memory: its number, its slice, and what the slice reads as. -/
structure Pk where
  id : Int
  A : Option Addr
  n : Nat
  c : Nat
  l : List Nat
deriving Inhabited

/-- What a packet says. -/
abbrev Pkt := Int × List Nat
def Pk.abs (p : Pk) : Pkt := (p.id, p.l)
def Pk.cells (p : Pk) : List Value := [.int .i64 p.id, .slice p.A p.n p.c]
def pv (l : List Pk) : List Value := l.flatMap Pk.cells
theorem pv_length (l : List Pk) : (pv l).length = l.length * 2 := by
  induction l with
  | nil => rfl
  | cons c l ih => simp only [pv, List.flatMap_cons, List.length_append, List.length_cons] at ih ⊢; rw [ih]; simp [Pk.cells]; omega
theorem pv_append (a b : List Pk) : pv (a ++ b) = pv a ++ pv b := by simp [pv]
theorem pv_one (l : List Pk) : ∀ u ∈ pv l, u.oneCell' = true := by
  intro u hu
  simp only [pv, List.mem_flatMap, Pk.cells, List.mem_cons, List.not_mem_nil, or_false] at hu
  obtain ⟨c, _, h⟩ := hu
  rcases h with rfl | rfl <;> rfl
theorem pv_get (l : List Pk) (k : Nat) (c : Pk) (h : l[k]? = some c) (j : Nat) (hj : j < 2) : (pv l)[k * 2 + j]? = c.cells[j]? := by
  induction l generalizing k with
  | nil => simp at h
  | cons d l ih =>
    have hd : d.cells.length = 2 := rfl
    simp only [pv, List.flatMap_cons]
    cases k with
    | zero =>
      simp only [List.getElem?_cons_zero, Option.some.injEq] at h
      subst h
      rw [List.getElem?_append_left (by omega)]
      simp
    | succ k =>
      simp only [List.getElem?_cons_succ] at h
      rw [List.getElem?_append_right (by omega), hd, show (k + 1) * 2 + j - 2 = k * 2 + j by omega]
      exact ih k h
theorem pv_take (l : List Pk) (k : Nat) : (pv l).take (k * 2) = pv (l.take k) := by
  induction l generalizing k with
  | nil => simp [pv]
  | cons d l ih =>
    cases k with
    | zero => simp [pv]
    | succ k =>
      have hd : d.cells.length = 2 := rfl
      have hih := ih k
      simp only [pv, List.flatMap_cons, List.take_succ_cons] at hih ⊢
      rw [show (k + 1) * 2 = d.cells.length + k * 2 by omega, List.take_length_add_append, hih]
theorem pv_drop (l : List Pk) (k : Nat) : (pv l).drop (k * 2) = pv (l.drop k) := by
  induction l generalizing k with
  | nil => simp [pv]
  | cons d l ih =>
    cases k with
    | zero => simp [pv]
    | succ k =>
      have hd : d.cells.length = 2 := rfl
      have hih := ih k
      simp only [pv, List.flatMap_cons, List.drop_succ_cons] at hih ⊢
      rw [show (k + 1) * 2 = d.cells.length + k * 2 by omega, List.drop_length_add_append, hih]
/-- The reach of a slice of bytes, behind a name. -/
def big : Nat := 140737488351232
theorem big_of {n : Nat} (h : n ≤ 100000) : n ≤ big := by unfold big; omega
theorem big0 {n : Nat} (h : n ≤ big) : 0 + n ≤ 140737488355328 := by unfold big at h; omega
theorem big1 {n : Nat} (h : n ≤ big) : (0 + n) * 1 ≤ 140737488355328 := by unfold big at h; omega
/-- The payload of a packet reads as its bytes. -/
def Pay (w : World) (p : Pk) : Prop := Rd w 1 p.A p.n (bv p.l) ∧ (∀ x ∈ p.l, x < 256) ∧ p.n ≤ p.c ∧ p.n ≤ big
/-- A slice of packets. -/
def PRd (w : World) (A : Option Addr) (n : Nat) (ps : List Pk) : Prop := Rd w 2 A n (pv ps) ∧ ∀ p ∈ ps, Pay w p
section
variable {w w' : World} {A : Option Addr} {n : Nat} {ps : List Pk} {p : Pk}
theorem Pay.below (h : Pay w p) (hb : Below w.heap.size w w') : Pay w' p := ⟨h.1.below hb, h.2⟩
theorem Pay.alloc (h : Pay w p) (o : Obj) : Pay (w.alloc o) p := ⟨h.1.alloc o, h.2⟩
theorem Pay.drew (h : Pay w p) : Pay w.drew p := ⟨h.1.drew, h.2⟩
theorem Pay.len (h : Pay w p) : p.l.length = p.n := h.1.blen
theorem PRd.below (h : PRd w A n ps) (hb : Below w.heap.size w w') : PRd w' A n ps := ⟨h.1.below hb, fun p hp => (h.2 p hp).below hb⟩
theorem PRd.alloc (h : PRd w A n ps) (o : Obj) : PRd (w.alloc o) A n ps := ⟨h.1.alloc o, fun p hp => (h.2 p hp).alloc o⟩
theorem PRd.drew (h : PRd w A n ps) : PRd w.drew A n ps := ⟨h.1.drew, fun p hp => (h.2 p hp).drew⟩
theorem PRd.nil (w : World) (A : Option Addr) : PRd w A 0 [] := ⟨Rd.none_ _ _ _, fun p hp => by cases hp⟩
theorem PRd.len (h : PRd w A n ps) : ps.length = n := by
  have := h.1.1
  rw [pv_length] at this
  omega
/-- The packet at k. -/
theorem PRd.pk (h : PRd w A n ps) {k : Nat} (hk : k < n) : ∃ (b o : Nat) (p : Pk), A = some ⟨b, o, none⟩ ∧ b < w.heap.size ∧ Hid (ps[k]? = some p) ∧ w.cell? ⟨b, o + k * 2, none⟩ = some (.int .i64 p.id) ∧ w.cell? ⟨b, o + k * 2 + 1, none⟩ = some (.slice p.A p.n p.c) ∧ Pay w p := by
  obtain ⟨b, o, e, hb, hc⟩ := h.1.2 (by omega)
  have hl : k < ps.length := by rw [h.len]; exact hk
  have hx : ps[k]? = some ps[k] := List.getElem?_eq_getElem hl
  have hcell : ∀ j u, ps[k].cells[j]? = some u → w.cell? ⟨b, o + k * 2 + j, none⟩ = some u := fun j u hu => by
    rw [Nat.add_assoc]
    have hj : j < 2 := (List.getElem?_eq_some_iff.1 hu).1
    exact hc _ u (by rw [pv_get ps k _ hx j hj, hu])
  exact ⟨b, o, ps[k], e, hb, hx, hcell 0 _ rfl, hcell 1 _ rfl, h.2 _ (List.getElem_mem hl)⟩
theorem PRd.take (h : PRd w A n ps) {k : Nat} (hk : k ≤ n) : PRd w A k (ps.take k) := by
  have hl := h.len
  refine ⟨⟨by rw [pv_length, List.length_take]; omega, fun h0 => ?_⟩, fun p hp => h.2 p (List.mem_of_mem_take hp)⟩
  obtain ⟨b, o, e, hb, hc⟩ := h.1.2 (by omega)
  refine ⟨b, o, e, hb, fun j u hu => ?_⟩
  rw [← pv_take, List.getElem?_take] at hu
  split at hu
  · exact hc j u hu
  · cases hu
theorem PRd.drop {b o : Nat} (h : PRd w (some ⟨b, o, none⟩) n ps) {k : Nat} (hk : k ≤ n) : PRd w (some ⟨b, o + k * 2, none⟩) (n - k) (ps.drop k) := by
  have hl := h.len
  refine ⟨⟨by rw [pv_length, List.length_drop]; omega, fun h0 => ?_⟩, fun p hp => h.2 p (List.mem_of_mem_drop hp)⟩
  obtain ⟨b', o', e, hb, hc⟩ := h.1.2 (by omega)
  injection e with e
  injection e with e1 e2
  subst e1
  subst e2
  refine ⟨b, o + k * 2, rfl, hb, fun j u hu => ?_⟩
  rw [← pv_drop, List.getElem?_drop] at hu
  rw [Nat.add_assoc]
  exact hc _ u hu
theorem rd2_one (w : World) (p : Pk) (t : TypeId) {g : Nat} (h : g = w.heap.size) : Rd (w.alloc (.cells #[.int .i64 p.id, .slice p.A p.n p.c] t)) 2 (some ⟨g, 0, none⟩) 1 (pv [p]) := by
  subst h
  refine ⟨by simp [pv, Pk.cells], fun _ => ⟨w.heap.size, 0, rfl, by simp, fun j u hu => ?_⟩⟩
  rw [Nat.zero_add, (Blk.new w t _).cell]
  simpa [pv, Pk.cells] using hu
end
/-- An owned row of whatever size of elements reads as its cells. -/
theorem own_rdn {w : World} {base : Nat} {e : TypeId} {size : Nat} {v : Value} {n : Nat} {xs : List Value} (h : w.ownsRow base e size v n xs) : ∃ A c, v = .slice A n c ∧ n ≤ c ∧ c ≤ maxLen ∧ Rd w size A n xs := by
  rcases h.2 with ⟨rfl, rfl⟩ | ⟨g, cap, cur, rfl, hb, hh, hn, hm, hs, ht⟩
  · have : xs = [] := List.eq_nil_of_length_eq_zero (by simpa using h.1)
    subst this
    exact ⟨none, 0, rfl, Nat.le_refl _, by decide, Rd.none_ _ _ _⟩
  · refine ⟨some ⟨g, 0, none⟩, cap, rfl, hn, hm, h.1, fun _ => ⟨g, 0, rfl, (Array.getElem?_eq_some_iff.1 hh).1, fun j u hu => ?_⟩⟩
    have := h.cells (g := g) rfl j u hu
    rw [Addr.add_lit] at this
    exact this
theorem own_below {w w' : World} {base : Nat} {e : TypeId} {size : Nat} {v : Value} {n : Nat} {xs : List Value} (h : w.ownsRow base e size v n xs) (hb : Below w.heap.size w w') : w'.ownsRow base e size v n xs := by
  refine ⟨h.1, ?_⟩
  rcases h.2 with h | ⟨g, cap, cur, rfl, h2, h3, h4⟩
  · exact .inl h
  · exact .inr ⟨g, cap, cur, rfl, h2, (hb.block g (Array.getElem?_eq_some_iff.1 h3).1).trans h3, h4⟩
theorem own_far {w : World} {base : Nat} {e : TypeId} {size : Nat} {v : Value} {n : Nat} {xs : List Value} (h : w.ownsRow base e size v n xs) {p : Addr} (hp : v.ownBlock ≠ some p.block) (u : Value) : (w.setCell p u).ownsRow base e size v n xs := by
  refine ⟨h.1, ?_⟩
  rcases h.2 with h | ⟨g, cap, cur, rfl, h2, h3, h4⟩
  · exact .inl h
  · exact .inr ⟨g, cap, cur, rfl, h2, (Below.heap_setCell w p u g (fun e => hp (by simp [Value.ownBlock, e]))).trans h3, h4⟩
theorem below_drewN {B : Nat} {a w : World} (h : Below B a w) (n : Nat) : Below B a (w.drewN n) := ⟨h.os, h.tape, h.output, h.size, h.block⟩
/-- One result, a struct in a cell. -/
theorem run_res_one {P : Program} {w : World} {fn : Func} {tmps : Array Value} {i g : Nat} {t ty : TypeId} {cs : Array Value} (hf : fn.results = #[.cell i ty]) (hi : tmps.getD i undef = .pointer (some ⟨g, 0, none⟩)) (hB : Blk w g t cs)
    (d : TypeDesc) (hu : P.underlying ty = some d) (hd : (match d with | .struct _ | .array _ _ => true | _ => false) = true) (hs : (P.info? ty).map (·.size) = some cs.size) :
    (results fn tmps).run P w = .ok (.agg cs) w := by
  have hl := run_loadVar_row (P := P) w g t ty cs (0, 0) d hB hu hd hs
  have ha : ∀ w : World, (asAddr (.pointer (some ⟨g, 0, none⟩))).run P w = .ok ⟨g, 0, none⟩ w := fun w => by simp [asAddr, go_sem]
  unfold results
  rw [hf]
  simp only [List.mapM_toArray, List.mapM_cons, List.mapM_nil, map_eq_pure_bind, bind_assoc, pure_bind, Sem.run_bind, Sem.run_pure, Result.andThen_ok, hi, ha, hl]
  rfl
/-- Two results, of which the first is a struct in a cell. -/
theorem run_res_cell {P : Program} {w : World} {fn : Func} {tmps : Array Value} {i j g : Nat} {t ty : TypeId} {cs : Array Value} {r : Value} (hf : fn.results = #[.cell i ty, .tmp j]) (hi : tmps.getD i undef = .pointer (some ⟨g, 0, none⟩)) (hj : tmps.getD j undef = r) (hB : Blk w g t cs)
    (d : TypeDesc) (hu : P.underlying ty = some d) (hd : (match d with | .struct _ | .array _ _ => true | _ => false) = true) (hs : (P.info? ty).map (·.size) = some cs.size) :
    (results fn tmps).run P w = .ok (.tuple #[.agg cs, r]) w := by
  have hl := run_loadVar_row (P := P) w g t ty cs (0, 0) d hB hu hd hs
  have ha : ∀ w : World, (asAddr (.pointer (some ⟨g, 0, none⟩))).run P w = .ok ⟨g, 0, none⟩ w := fun w => by simp [asAddr, go_sem]
  subst hj
  unfold results
  rw [hf]
  simp only [List.mapM_toArray, List.mapM_cons, List.mapM_nil, map_eq_pure_bind, bind_assoc, pure_bind, Sem.run_bind, Sem.run_pure, Result.andThen_ok, hi, ha, hl]
  rfl
theorem under8 : Try.prog.underlying 28 = some (.slice 5) := Try.underlying28
theorem info8 : (Try.prog.info? 5).map (fun i => (i.zero, i.size, i.bytes)) = some (some (.int .u8 0), 1, 1) := by kernel_rfl
theorem underP : Try.prog.underlying 24 = some (.slice 30) := Try.underlying24
theorem infoP : (Try.prog.info? 30).map (fun i => (i.zero, i.size, i.bytes)) = some (some (.agg #[.int .i64 0, .slice none 0 0]), 2, 32) := by kernel_rfl
end Go.Proofs.Ytobljnbpokijdaa
