/-
  How the laws' arguments are opened: slices of calls, of steps, of packets, whose payloads fit the reach.
-/
import Derived.Test.YtobljnbpokijdaaAqn
import Derived.SizedLaws
import Derived.ProofKit
import Derived.OpenShut
import Derived.ChangeOld
import Derived.Deep.Slices
namespace Go.Proofs.Ytobljnbpokijdaa
set_option linter.unusedVariables false
set_option linter.unusedSimpArgs false
open Go.RowKit

section
variable {α : Type} (f : α → List Value) (k : Nat) (hf : ∀ x, (f x).length = k)
include hf
theorem flat_length (l : List α) : (l.flatMap f).length = l.length * k := by
  induction l with
  | nil => simp
  | cons c l ih => rw [List.flatMap_cons, List.length_append, ih, hf, List.length_cons, Nat.add_mul]; omega
theorem flat_get (l : List α) (i : Nat) (x : α) (h : l[i]? = some x) (j : Nat) (hj : j < k) : (l.flatMap f)[i * k + j]? = (f x)[j]? := by
  induction l generalizing i with
  | nil => simp at h
  | cons d l ih =>
    rw [List.flatMap_cons]
    cases i with
    | zero =>
      simp only [List.getElem?_cons_zero, Option.some.injEq] at h
      subst h
      rw [List.getElem?_append_left (by rw [hf]; omega)]
      simp
    | succ i =>
      simp only [List.getElem?_cons_succ] at h
      rw [List.getElem?_append_right (by rw [hf, Nat.add_mul]; omega), hf, show (i + 1) * k + j - k = i * k + j by rw [Nat.add_mul]; omega]
      exact ih i h
/-- Elements of k cells each, read one by one, read as a list. -/
theorem rd_each [Inhabited α] (hk : 0 < k) {good : α → Prop} {W : World} {a : Addr} {n : Nat} (hone : ∀ i, i < n → ∃ q : α, good q ∧ ∀ j u, (f q)[j]? = some u → W.cell? (a.add (i * k + j)) = some u) :
    ∃ l : List α, Rd W k (some a) n (l.flatMap f) ∧ ∀ q ∈ l, good q := by
  have hch : ∀ i, ∃ q : α, i < n → good q ∧ ∀ j u, (f q)[j]? = some u → W.cell? (a.add (i * k + j)) = some u := fun i => by
    by_cases hi : i < n
    · obtain ⟨x, hx⟩ := hone i hi
      exact ⟨x, fun _ => hx⟩
    · exact ⟨default, fun h => absurd h hi⟩
  obtain ⟨q, hq⟩ : ∃ q : Nat → α, ∀ i, i < n → good (q i) ∧ ∀ j u, (f (q i))[j]? = some u → W.cell? (a.add (i * k + j)) = some u := ⟨fun i => (hch i).choose, fun i => (hch i).choose_spec⟩
  refine ⟨(List.range n).map q, ⟨by rw [flat_length f k hf]; simp, fun h0 => ?_⟩, fun x hx => ?_⟩
  · obtain ⟨u0, hu0⟩ : ∃ u0, (f (q 0))[0]? = some u0 := ⟨_, List.getElem?_eq_getElem (by rw [hf]; exact hk)⟩
    have hc0 := (hq 0 h0).2 0 _ hu0
    obtain ⟨b, o, spt⟩ := a
    have hspt : spt = none := by simpa [Addr.add] using World.cell?_spot hc0
    subst hspt
    refine ⟨b, o, rfl, World.block_lt_of_cell? W ⟨b, o, none⟩ (by rw [Addr.add_lit] at hc0; simpa using hc0), fun j u hu => ?_⟩
    have hj : j < n * k := by
      have := (List.getElem?_eq_some_iff.1 hu).1
      rw [flat_length f k hf] at this
      simpa using this
    have hkk : j / k < n := Nat.div_lt_of_lt_mul (by rw [Nat.mul_comm]; exact hj)
    have hjj : j / k * k + j % k = j := by have := Nat.div_add_mod j k; rw [Nat.mul_comm] at this; exact this
    have hg := flat_get f k hf ((List.range n).map q) (j / k) (q (j / k)) (by simp [hkk]) (j % k) (Nat.mod_lt _ hk)
    rw [hjj, hu] at hg
    have := (hq (j / k) hkk).2 (j % k) u hg.symm
    rw [Addr.add_lit, hjj] at this
    exact this
  · obtain ⟨i, hi, rfl⟩ := List.mem_map.1 hx
    exact (hq i (List.mem_range.1 hi)).1
end

/-- A datum whose parts fit the reach. -/
def Small {H : Type} (P : Program) (t : TypeId) (d : DataW H) : Prop := ∀ n ∈ d.weights P t, n ≤ reachBytes
theorem small_field {H : Type} {P : Program} {t : TypeId} {fs : Array Field} {parts : List (DataW H)} {j : Nat} {f : Field} {d : DataW H} (ht : P.underlying t = some (.struct fs)) (hf : fs[j]? = some f) (hd : parts[j]? = some d) (h : Small P t (.agg parts)) : Small P f.type d := by
  intro n hn
  refine h n ?_
  simp only [DataW.weights, ht]
  exact DataW.weights_mem_each (j := j) (by simpa using ⟨f, hf, rfl⟩) hd n hn
theorem weightsAll_mem {H : Type} {P : Program} {e : TypeId} {d : DataW H} {n : Nat} : ∀ {l : List (DataW H)}, d ∈ l → n ∈ d.weights P e → n ∈ DataW.weightsAll P e l
  | x :: l, hd, hn => by
    simp only [DataW.weightsAll, List.mem_append]
    rcases List.mem_cons.1 hd with rfl | hd
    · exact .inl hn
    · exact .inr (weightsAll_mem hd hn)
theorem small_elem {H : Type} {P : Program} {t e : TypeId} {elems spare : List (DataW H)} {d : DataW H} (ht : P.underlying t = some (.slice e)) (hd : d ∈ elems) (h : Small P t (.slice elems spare)) : Small P e d := by
  intro n hn
  refine h n ?_
  simp only [DataW.weights, ht, List.mem_cons, List.mem_append]
  exact .inr (.inl (weightsAll_mem hd hn))
theorem small_arg {H : Type} {P : Program} {ts : List TypeId} {ds : List (DataW H)} (h : (DataW.weightsEach P ts ds).all (· ≤ reachBytes) = true) {j : Nat} {t : TypeId} {d : DataW H} (ht : ts[j]? = some t) (hd : ds[j]? = some d) : Small P t d := by
  intro n hn
  have := List.all_eq_true.1 h _ (DataW.weights_mem_each ht hd n hn)
  simpa using this

/-- A step as it lies in memory. -/
structure Stp where
  d : Int
  lost : Bool
  p : Pk
def Stp.cells (o : Stp) : List Value := [.int .i64 o.d, .bool o.lost, .int .i64 o.p.id, .slice o.p.A o.p.n o.p.c]
def SRd (w : World) (A : Option Addr) (n : Nat) (os : List Stp) : Prop := Rd w 4 A n (os.flatMap Stp.cells) ∧ ∀ o ∈ os, Pay w o.p
theorem SRd.below {w w' : World} {A : Option Addr} {n : Nat} {os : List Stp} (h : SRd w A n os) (hb : Below w.heap.size w w') : SRd w' A n os := ⟨h.1.below hb, fun o ho => (h.2 o ho).below hb⟩
theorem SRd.len {w : World} {A : Option Addr} {n : Nat} {os : List Stp} (h : SRd w A n os) : os.length = n := by
  have := h.1.1
  rw [flat_length Stp.cells 4 (fun _ => rfl)] at this
  omega
theorem SRd.at_ {w : World} {A : Option Addr} {n : Nat} {os : List Stp} (h : SRd w A n os) {k : Nat} (hk : k < n) : ∃ (b o : Nat) (x : Stp), A = some ⟨b, o, none⟩ ∧ b < w.heap.size ∧ Hid (os[k]? = some x) ∧
    w.cell? ⟨b, o + k * 4, none⟩ = some (.int .i64 x.d) ∧ w.cell? ⟨b, o + k * 4 + 1, none⟩ = some (.bool x.lost) ∧
    w.cell? ⟨b, o + k * 4 + 2, none⟩ = some (.int .i64 x.p.id) ∧ w.cell? ⟨b, o + k * 4 + 3, none⟩ = some (.slice x.p.A x.p.n x.p.c) ∧ Pay w x.p := by
  obtain ⟨b, o, e, hb, hc⟩ := h.1.2 (by omega)
  have hl : k < os.length := by rw [h.len]; exact hk
  have hx : os[k]? = some os[k] := List.getElem?_eq_getElem hl
  have hcell : ∀ j u, os[k].cells[j]? = some u → w.cell? ⟨b, o + k * 4 + j, none⟩ = some u := fun j u hu => by
    rw [Nat.add_assoc]
    have hj : j < 4 := (List.getElem?_eq_some_iff.1 hu).1
    exact hc _ u (by rw [flat_get Stp.cells 4 (fun _ => rfl) os k _ hx j hj, hu])
  exact ⟨b, o, os[k], e, hb, hx, hcell 0 _ rfl, hcell 1 _ rfl, hcell 2 _ rfl, hcell 3 _ rfl, h.2 _ (List.getElem_mem hl)⟩
theorem PRd.at1 {w : World} {A : Option Addr} {n : Nat} {ps : List Pk} (h : PRd w A n ps) {k : Nat} (hk : k < n) : ∃ (b o : Nat) (x : Pk), A = some ⟨b, o, none⟩ ∧ b < w.heap.size ∧ Hid (ps[k]? = some x) ∧
    w.cell? ⟨b, o + k * 2, none⟩ = some (.int .i64 x.id) ∧ w.cell? ⟨b, o + k * 2 + 1, none⟩ = some (.slice x.A x.n x.c) ∧ Pay w x := by
  obtain ⟨b, o, e, hb, hc⟩ := h.1.2 (by omega)
  have hl : k < ps.length := by rw [h.len]; exact hk
  have hx : ps[k]? = some ps[k] := List.getElem?_eq_getElem hl
  have hcell : ∀ j u, ([.int .i64 ps[k].id, .slice ps[k].A ps[k].n ps[k].c] : List Value)[j]? = some u → w.cell? ⟨b, o + k * 2 + j, none⟩ = some u := fun j u hu => by
    rw [Nat.add_assoc]
    have hj : j < 2 := (List.getElem?_eq_some_iff.1 hu).1
    exact hc _ u (by unfold pv; exact (flat_get Pk.cells 2 (fun _ => rfl) ps k _ hx j hj).trans hu)
  exact ⟨b, o, ps[k], e, hb, hx, hcell 0 _ rfl, hcell 1 _ rfl, h.2 _ (List.getElem_mem hl)⟩

open Go.ChangeShapes Go.WideShapes Go.Deep
section
variable {H : Type} {enc : TypeId × Value → H} {W : World} {held : Bool}
theorem cells_int : Try.prog.cellsOf 3 = 1 := by kernel_rfl
theorem cells_bool : Try.prog.cellsOf 4 = 1 := by kernel_rfl
theorem cells_sl8 : Try.prog.cellsOf 28 = 1 := by kernel_rfl
theorem cells_packet : Try.prog.cellsOf 30 = 2 := by kernel_rfl
theorem cells_pdu : Try.prog.cellsOf 32 = 5 := by kernel_rfl
theorem cells_op : Try.prog.cellsOf 34 = 6 := by kernel_rfl
theorem cells_step : Try.prog.cellsOf 55 = 4 := by kernel_rfl
theorem bytes_u8 : Try.prog.bytesOf 5 = 1 := by kernel_rfl
theorem list2 {α : Type} {l : List α} (h : l.length = 2) : ∃ a b, l = [a, b] := by
  match l, h with
  | [a, b], _ => exact ⟨a, b, rfl⟩
theorem list3 {α : Type} {l : List α} (h : l.length = 3) : ∃ a b c, l = [a, b, c] := by
  match l, h with
  | [a, b, c], _ => exact ⟨a, b, c, rfl⟩
theorem list4 {α : Type} {l : List α} (h : l.length = 4) : ∃ a b c d, l = [a, b, c, d] := by
  match l, h with
  | [a, b, c, d], _ => exact ⟨a, b, c, d, rfl⟩
theorem list5 {α : Type} {l : List α} (h : l.length = 5) : ∃ a b c d e, l = [a, b, c, d, e] := by
  match l, h with
  | [a, b, c, d, e], _ => exact ⟨a, b, c, d, e, rfl⟩
theorem list6 {α : Type} {l : List α} (h : l.length = 6) : ∃ a b c d e f, l = [a, b, c, d, e, f] := by
  match l, h with
  | [a, b, c, d, e, f], _ => exact ⟨a, b, c, d, e, f, rfl⟩
theorem open_bytecs {fuel : Nat} {cs : List Value} {x : DataW H × List MemPlace} (h : DataW.trod enc Try.prog W 0 (fun _ => true) held fuel 28 cs = some x) (hs : Small Try.prog 28 x.1) :
    ∃ (A : Option Addr) (n c : Nat) (l : List Nat), cs = [.slice A n c] ∧ (Rd W 1 A n (bv l) ∧ (∀ x ∈ l, x < 256) ∧ n ≤ c ∧ n ≤ big) := by
  rcases Go.ChangeShapes.open_ints Try.underlying28 Try.underlying5 (by kernel_rfl) h with ⟨hcs, _⟩ | ⟨x, len, c, zs, hcs, _, hl, hm, hz, hx, hcell, hwz⟩
  · obtain ⟨l, h1, h2, h3, h4⟩ := IsRow.rd (show IsRow .u8 W none 0 0 [] from .inl ⟨rfl, rfl, rfl, rfl⟩)
    exact ⟨none, 0, 0, l, hcs, h1, h2, h3, Nat.zero_le _⟩
  · obtain ⟨l, h1, h2, h3, h4⟩ := IsRow.rd (show IsRow .u8 W (some x) len c zs from .inr ⟨_, rfl, hl, hm, by simpa using hz, hcell, hwz⟩)
    refine ⟨some x, len, c, l, hcs, h1, h2, h3, ?_⟩
    have hz' : zs.length = c := by simpa using hz
    have hb := hs ((((lits .u8 (zs.take len) : List (DataW H)).length + (lits .u8 (zs.drop len) : List (DataW H)).length)) * Try.prog.bytesOf 5) (by rw [hx]; simp [DataW.weights, Try.underlying28])
    rw [bytes_u8] at hb
    simp [lits] at hb
    have : reachBytes = big := rfl
    omega
theorem open_packetcs {fuel : Nat} {cs : List Value} {x : DataW H × List MemPlace} (h : DataW.trod enc Try.prog W 0 (fun _ => true) held fuel 30 cs = some x) (hs : Small Try.prog 30 x.1) :
    ∃ p : Pk, cs = [.int .i64 p.id, .slice p.A p.n p.c] ∧ Pay W p := by
  obtain ⟨xs, n, _, rfl, hlen, hxl, hf⟩ := DataW.trod_struct Try.underlying30 h
  rw [cells_packet] at hlen
  obtain ⟨c0, c1, rfl⟩ := list2 hlen
  obtain ⟨y0, y1, rfl⟩ := list2 (by simpa using hxl)
  have h0 := hf 0 _ rfl
  have h1 := hf 1 _ rfl
  have s1 := small_field Try.underlying30 (j := 1) (d := y1.1) rfl rfl hs
  simp [cells_int, cells_sl8] at h0 h1
  obtain ⟨id, e0, _⟩ := DataW.trod_int Try.underlying3 h0
  obtain ⟨A, n', c, l, e1, hl⟩ := open_bytecs h1 s1
  simp only [List.cons.injEq, and_true] at e0 e1
  exact ⟨⟨id, A, n', c, l⟩, by rw [e0, e1], hl⟩
theorem open_opcs {fuel : Nat} {cs : List Value} {x : DataW H × List MemPlace} (h : DataW.trod enc Try.prog W 0 (fun _ => true) held fuel 34 cs = some x) (hs : Small Try.prog 34 x.1) :
    ∃ o : Opr, cs = o.cells ∧ Pay W o.p := by
  obtain ⟨xs, n, _, rfl, hlen, hxl, hf⟩ := DataW.trod_struct Try.underlying34 h
  rw [cells_op] at hlen
  obtain ⟨c0, c1, c2, c3, c4, c5, rfl⟩ := list6 hlen
  obtain ⟨y0, y1, rfl⟩ := list2 (by simpa using hxl)
  have h0 := hf 0 _ rfl
  have h1 := hf 1 _ rfl
  have s1 := small_field Try.underlying34 (j := 1) (d := y1.1) rfl rfl hs
  simp [cells_int, cells_pdu] at h0 h1
  obtain ⟨d, e0, _⟩ := DataW.trod_int Try.underlying3 h0
  obtain ⟨xs', n', _, rfl, _, hxl', hf'⟩ := DataW.trod_struct Try.underlying32 h1
  obtain ⟨z0, z1, z2, z3, rfl⟩ := list4 (by simpa using hxl')
  have g0 := hf' 0 _ rfl
  have g1 := hf' 1 _ rfl
  have g2 := hf' 2 _ rfl
  have g3 := hf' 3 _ rfl
  have s2 := small_field Try.underlying32 (j := 3) (d := z3.1) rfl rfl s1
  simp [cells_int, cells_packet] at g0 g1 g2 g3
  obtain ⟨a, i0, _⟩ := DataW.trod_int Try.underlying3 g0
  obtain ⟨b, i1, _⟩ := DataW.trod_int Try.underlying3 g1
  obtain ⟨c, i2, _⟩ := DataW.trod_int Try.underlying3 g2
  obtain ⟨p, i3, hp⟩ := open_packetcs g3 s2
  simp only [List.cons.injEq, and_true] at e0 i0 i1 i2 i3
  exact ⟨⟨d, a, b, c, p⟩, by rw [e0, i0, i1, i2, i3.1, i3.2]; rfl, hp⟩
theorem open_stepcs {fuel : Nat} {cs : List Value} {x : DataW H × List MemPlace} (h : DataW.trod enc Try.prog W 0 (fun _ => true) held fuel 55 cs = some x) (hs : Small Try.prog 55 x.1) :
    ∃ o : Stp, cs = o.cells ∧ Pay W o.p := by
  obtain ⟨xs, n, _, rfl, hlen, hxl, hf⟩ := DataW.trod_struct Try.underlying55 h
  rw [cells_step] at hlen
  obtain ⟨c0, c1, c2, c3, rfl⟩ := list4 hlen
  obtain ⟨y0, y1, y2, rfl⟩ := list3 (by simpa using hxl)
  have h0 := hf 0 _ rfl
  have h1 := hf 1 _ rfl
  have h2 := hf 2 _ rfl
  have s2 := small_field Try.underlying55 (j := 2) (d := y2.1) rfl rfl hs
  simp [cells_int, cells_bool, cells_packet] at h0 h1 h2
  obtain ⟨d, e0, _⟩ := DataW.trod_int Try.underlying3 h0
  obtain ⟨b, e1, _⟩ := DataW.trod_bool Try.underlying4 h1
  obtain ⟨p, e2, hp⟩ := open_packetcs h2 s2
  simp only [List.cons.injEq, and_true] at e0 e1 e2
  exact ⟨⟨d, b, p⟩, by rw [e0, e1, e2.1, e2.2]; rfl, hp⟩
theorem open_row {t e : TypeId} {k : Nat} {α : Type} [Inhabited α] (f : α → List Value) (hf : ∀ x, (f x).length = k) (hk : 0 < k) (pk : α → Pk) (ht : Try.prog.underlying t = some (.slice e)) (hc : Try.prog.cellsOf e = k)
    (hone : ∀ {fuel : Nat} {cs : List Value} {x : DataW H × List MemPlace}, DataW.trod enc Try.prog W 0 (fun _ => true) held fuel e cs = some x → Small Try.prog e x.1 → ∃ o : α, cs = f o ∧ Pay W (pk o))
    {r : Reach} {b0 : Nat} {v : Value} {d : DataW H} {p : List MemPlace} (hv : Value.okWide Try.prog W r b0 t v) (h : DataW.Trod enc Try.prog W 0 (fun _ => true) held t v d p) (hs : Small Try.prog t d) :
    ∃ (A : Option Addr) (n c : Nat) (l : List α), v = .slice A n c ∧ ((Rd W k A n (l.flatMap f) ∧ ∀ o ∈ l, Pay W (pk o)) ∧ n ≤ c ∧ c ≤ maxLen) := by
  obtain ⟨A, n, c, rfl⟩ := Go.WideShapes.okWide_slice ht hv
  obtain ⟨fuel, hfu⟩ := h
  rcases open_slice ht hfu with ⟨hcs, _⟩ | ⟨a, len, cap, m, k', D, Pl, hcs, _, hl, hm, hmm, hx, hi⟩
  · simp [Value.cells] at hcs
    obtain ⟨rfl, rfl, rfl⟩ := hcs
    exact ⟨none, 0, 0, [], rfl, ⟨Rd.none_ _ _ _, by simp⟩, Nat.le_refl _, by decide⟩
  · simp [Value.cells] at hcs
    obtain ⟨rfl, rfl, rfl⟩ := hcs
    have hlm : n ≤ m := by rw [hmm]; simpa using hl
    injection hx with hx1 hx2
    subst hx1
    obtain ⟨l, hr, hg⟩ := rd_each f k hf hk (good := fun o => Pay W (pk o)) (W := W) (a := a) (n := n) (fun i hin => by
      obtain ⟨cs', hc', ht'⟩ := hi i (by omega)
      rw [hc] at hc'
      obtain ⟨q, hq, hp⟩ := hone ht' (small_elem ht (List.mem_map.2 ⟨i, List.mem_range.2 hin, rfl⟩) hs)
      obtain ⟨_, hcl, hat⟩ := World.cells?_some hc'
      refine ⟨q, hp, fun j u hu => ?_⟩
      have hj : j < k := by have := (List.getElem?_eq_some_iff.1 hu).1; rw [hf] at this; exact this
      have := hat j hj
      rw [hq, hu, Go.Deep.add_add] at this
      exact this)
    exact ⟨some a, n, c, l, rfl, ⟨hr, hg⟩, hl, hm⟩
instance : Inhabited Pk := ⟨⟨0, none, 0, 0, []⟩⟩
instance : Inhabited Opr := ⟨⟨0, 0, 0, 0, default⟩⟩
instance : Inhabited Stp := ⟨⟨0, false, default⟩⟩
theorem open_ops {r : Reach} {b0 : Nat} {v : Value} {d : DataW H} {p : List MemPlace} (hv : Value.okWide Try.prog W r b0 22 v) (h : DataW.Trod enc Try.prog W 0 (fun _ => true) held 22 v d p) (hs : Small Try.prog 22 d) :
    ∃ (A : Option Addr) (n c : Nat) (l : List Opr), v = .slice A n c ∧ (ORd W A n l ∧ n ≤ c ∧ c ≤ maxLen) :=
  open_row Opr.cells (fun _ => rfl) (by decide) Opr.p Try.underlying22 cells_op open_opcs hv h hs
theorem open_steps {r : Reach} {b0 : Nat} {v : Value} {d : DataW H} {p : List MemPlace} (hv : Value.okWide Try.prog W r b0 48 v) (h : DataW.Trod enc Try.prog W 0 (fun _ => true) held 48 v d p) (hs : Small Try.prog 48 d) :
    ∃ (A : Option Addr) (n c : Nat) (l : List Stp), v = .slice A n c ∧ (SRd W A n l ∧ n ≤ c ∧ c ≤ maxLen) :=
  open_row Stp.cells (fun _ => rfl) (by decide) Stp.p Try.underlying48 cells_step open_stepcs hv h hs
theorem open_pks {r : Reach} {b0 : Nat} {v : Value} {d : DataW H} {p : List MemPlace} (hv : Value.okWide Try.prog W r b0 24 v) (h : DataW.Trod enc Try.prog W 0 (fun _ => true) held 24 v d p) (hs : Small Try.prog 24 d) :
    ∃ (A : Option Addr) (n c : Nat) (l : List Pk), v = .slice A n c ∧ (PRd W A n l ∧ n ≤ c ∧ c ≤ maxLen) :=
  open_row Pk.cells (fun _ => rfl) (by decide) id Try.underlying24 cells_packet open_packetcs hv h hs
end
end Go.Proofs.Ytobljnbpokijdaa
