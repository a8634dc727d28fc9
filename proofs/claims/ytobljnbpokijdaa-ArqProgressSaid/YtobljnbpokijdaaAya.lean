/-
  Two sides with what was queued and got, as plain states and as they lie in memory; what keeps them. Plain lemmas.
-/
import Derived.Test.YtobljnbpokijdaaAqx
import Derived.Test.YtobljnbpokijdaaAqv
namespace Go.Proofs.Ytobljnbpokijdaa
set_option linter.unusedVariables false
set_option linter.unusedSimpArgs false
open Go.RowKit

/-- The block of a row; the blocks of payloads; those of a queue. -/
def foot (A : Option Addr) (n : Nat) : List Nat := if 0 < n then (A.map Addr.block).toList else []
def feetP (qs : List Pk) : List Nat := qs.flatMap fun q => foot q.A q.n
def feetQ (Q : Option Addr) (m : Nat) (qs : List Pk) : List Nat := foot Q m ++ feetP qs
theorem mem_foot {A : Option Addr} {n b : Nat} : b ∈ foot A n ↔ 0 < n ∧ ∃ a, A = some a ∧ a.block = b := by
  unfold foot
  split
  · rename_i h
    cases A <;> simp [h, eq_comm]
  · rename_i h
    simp [h]
theorem mem_feetP {qs : List Pk} {b : Nat} : b ∈ feetP qs ↔ ∃ q ∈ qs, b ∈ foot q.A q.n := by simp [feetP]
/-- All blocks but those of Z stay as they are. -/
def Keeps (Z : List Nat) (w w' : World) : Prop := w.heap.size ≤ w'.heap.size ∧ ∀ b, b < w.heap.size → b ∉ Z → w'.heap[b]? = w.heap[b]?
section
variable {Z : List Nat} {w w' w2 : World}
theorem Keeps.refl (Z : List Nat) (w : World) : Keeps Z w w := ⟨Nat.le_refl _, fun _ _ _ => rfl⟩
theorem Keeps.trans (h : Keeps Z w w') (h' : Keeps Z w' w2) : Keeps Z w w2 := ⟨Nat.le_trans h.1 h'.1, fun b hb hz => (h'.2 b (Nat.lt_of_lt_of_le hb h.1) hz).trans (h.2 b hb hz)⟩
theorem Keeps.of_below (hb : Below w.heap.size w w') : Keeps Z w w' := ⟨hb.size, fun b h _ => hb.block b h⟩
theorem Keeps.alloc (h : Keeps Z w w') (o : Obj) : Keeps Z w (w'.alloc o) := h.trans (.of_below ((Below.refl _ _).alloc (Nat.le_refl _) o))
theorem Keeps.drew (h : Keeps Z w w') : Keeps Z w w'.drew := h
theorem Keeps.set (h : Keeps Z w w') {z i : Nat} (hz : z ∈ Z) (u : Value) : Keeps Z w (w'.setCell ⟨z, i, none⟩ u) :=
  ⟨by rw [World.size_setCell]; exact h.1, fun b hb hn => (Below.heap_setCell w' ⟨z, i, none⟩ u b (fun e => hn (by simp only at e; rw [e]; exact hz))).trans (h.2 b hb hn)⟩
theorem Keeps.fills (l : List (Nat × Value)) {z : Nat} (hz : z ∈ Z) : ∀ {w' : World}, Keeps Z w w' → Keeps Z w (fills w' z l) := by
  induction l with
  | nil => exact fun h => h
  | cons p l ih => exact fun h => ih (h.set hz p.2)
theorem Keeps.far (h : Keeps Z w w') {z i : Nat} (hz : w.heap.size ≤ z) (u : Value) : Keeps Z w (w'.setCell ⟨z, i, none⟩ u) :=
  ⟨by rw [World.size_setCell]; exact h.1, fun b hb hn => (Below.heap_setCell w' ⟨z, i, none⟩ u b (fun e => by simp only at e; omega)).trans (h.2 b hb hn)⟩
theorem Keeps.grown {row : Option Nat} (h : Keeps Z w w') (hg : w'.grownBy w2 row) (hr : ∀ b, row = some b → b ∈ Z ∨ w.heap.size ≤ b) : Keeps Z w w2 :=
  ⟨Nat.le_trans h.1 hg.size, fun b hb hn => (hg.block b (Nat.lt_of_lt_of_le hb h.1) (fun e => by rcases hr b e.symm with h | h; exact hn h; omega)).trans (h.2 b hb hn)⟩
theorem Keeps.mono {Z' : List Nat} (h : Keeps Z w w') (hz : ∀ z ∈ Z, z ∈ Z') : Keeps Z' w w' := ⟨h.1, fun b hb hn => h.2 b hb (fun e => hn (hz b e))⟩
end
section
variable {Z : List Nat} {w w' : World}
theorem rd_keep {size n : Nat} {A : Option Addr} {xs : List Value} (h : Rd w size A n xs) (hs : w.heap.size ≤ w'.heap.size) (hk : ∀ b ∈ foot A n, w'.heap[b]? = w.heap[b]?) : Rd w' size A n xs :=
  ⟨h.1, fun hn => by
    obtain ⟨b, o, e, hb, hc⟩ := h.2 hn
    exact ⟨b, o, e, by omega, fun j u hu => (World.cell?_of_block (w := w) (hk b (mem_foot.2 ⟨hn, _, e, rfl⟩))).trans (hc j u hu)⟩⟩
theorem rd_lt {size n : Nat} {A : Option Addr} {xs : List Value} (h : Rd w size A n xs) : ∀ b ∈ foot A n, b < w.heap.size := by
  intro b hb
  obtain ⟨h0, a, ha, rfl⟩ := mem_foot.1 hb
  obtain ⟨b, o, e, hlt, _⟩ := h.2 h0
  rw [ha] at e
  injection e with e
  rw [e]
  exact hlt
theorem pay_keep {p : Pk} (h : Pay w p) (hs : w.heap.size ≤ w'.heap.size) (hk : ∀ b ∈ foot p.A p.n, w'.heap[b]? = w.heap[b]?) : Pay w' p := ⟨rd_keep h.1 hs hk, h.2⟩
theorem pay_lt {p : Pk} (h : Pay w p) : ∀ b ∈ foot p.A p.n, b < w.heap.size := rd_lt h.1
theorem has_keep {Q : Option Addr} {m c : Nat} {qs : List Pk} {L : List Pkt} (h : Has w Q m c qs L) (hs : w.heap.size ≤ w'.heap.size) (hk : ∀ b ∈ feetQ Q m qs, w'.heap[b]? = w.heap[b]?) : Has w' Q m c qs L :=
  ⟨⟨rd_keep h.rd.1 hs (fun b hb => hk b (List.mem_append_left _ hb)), fun q hq => pay_keep (h.rd.2 q hq) hs (fun b hb => hk b (List.mem_append_right _ (mem_feetP.2 ⟨q, hq, hb⟩)))⟩, h.abs, h.cap_⟩
theorem has_lt {Q : Option Addr} {m c : Nat} {qs : List Pk} {L : List Pkt} (h : Has w Q m c qs L) : ∀ b ∈ feetQ Q m qs, b < w.heap.size := by
  intro b hb
  rcases List.mem_append.1 hb with hb | hb
  · exact rd_lt h.rd.1 b hb
  · obtain ⟨q, hq, hb⟩ := mem_feetP.1 hb
    exact pay_lt (h.rd.2 q hq) b hb
theorem fresh_ge {base : Nat} {Q : Option Addr} {m c : Nat} {qs : List Pk} {L : List Pkt} (h : Fresh base w Q m c qs L) : ∀ b ∈ feetQ Q m qs, base ≤ b := by
  intro b hb
  rcases List.mem_append.1 hb with hb | hb
  · obtain ⟨h0, a, ha, rfl⟩ := mem_foot.1 hb
    exact h.at_ h0 a ha
  · obtain ⟨q, hq, hb⟩ := mem_feetP.1 hb
    obtain ⟨h0, a, ha, rfl⟩ := mem_foot.1 hb
    exact h.low q hq h0 a ha
theorem own1_ge {base : Nat} {p : Pk} (h : Own1 base w p) : ∀ b ∈ foot p.A p.n, base ≤ b := by
  intro b hb
  obtain ⟨h0, a, ha, rfl⟩ := mem_foot.1 hb
  exact h.2 h0 a ha
theorem own_keep {base : Nat} {e : TypeId} {size : Nat} {v : Value} {n : Nat} {xs : List Value} (h : w.ownsRow base e size v n xs) (hk : ∀ g, v.ownBlock = some g → w'.heap[g]? = w.heap[g]?) : w'.ownsRow base e size v n xs := by
  refine ⟨h.1, ?_⟩
  rcases h.2 with h | ⟨g, cap, cur, rfl, h2, h3, h4⟩
  · exact .inl h
  · exact .inr ⟨g, cap, cur, rfl, h2, (hk g rfl).trans h3, h4⟩
theorem ownG_keep {base : Nat} {e : TypeId} {size : Nat} {v : Value} {n : Nat} {xs : List Value} {g : Option Nat} (h : OwnG w base e size v n xs g) (hk : ∀ b, g = some b → w'.heap[b]? = w.heap[b]?) : OwnG w' base e size v n xs g := by
  rcases h with h | ⟨b, rfl, hv, ho⟩
  · exact .inl h
  · exact .inr ⟨b, rfl, hv, own_keep ho (fun g hg => hk g (by rw [← hg, hv]))⟩
end

/-- A queue in memory; a row that grows. -/
structure Qm where
  Q : Option Addr
  m : Nat
  c : Nat
  qs : List Pk
def Qm.feet (q : Qm) : List Nat := feetQ q.Q q.m q.qs
def Qm.val (q : Qm) : Value := .slice q.Q q.m q.c
structure Rw where
  v : Value
  n : Nat
  qs : List Pk
  g : Option Nat
/-- Both sides, and the four lists (queued 0, queued 1, got 0, got 1); the same in memory. -/
structure En where
  s : Nat → St
  r : Nat → List Pkt
structure Mm where
  q : Nat → Qm
  r : Nat → Rw
def upd {α : Type} (f : Nat → α) (i : Nat) (x : α) : Nat → α := fun j => if j = i then x else f j
theorem upd_at {α : Type} (f : Nat → α) (i : Nat) (x : α) : upd f i x i = x := by simp [upd]
theorem upd_ne {α : Type} (f : Nat → α) {i j : Nat} (x : α) (h : j ≠ i) : upd f i x j = f j := by simp [upd, h]
def sideCells (s : St) (q : Qm) : List Value := [.int .i64 s.sn, .int .i64 s.ne, .slice q.Q q.m q.c, .bool s.op, .bool s.em, .int .i64 s.ack, .int .i64 s.tak]
def enCells (E : En) (M : Mm) : Array Value := #[.int .i64 (E.s 0).sn, .int .i64 (E.s 0).ne, .slice (M.q 0).Q (M.q 0).m (M.q 0).c, .bool (E.s 0).op, .bool (E.s 0).em, .int .i64 (E.s 0).ack, .int .i64 (E.s 0).tak,
  .int .i64 (E.s 1).sn, .int .i64 (E.s 1).ne, .slice (M.q 1).Q (M.q 1).m (M.q 1).c, .bool (E.s 1).op, .bool (E.s 1).em, .int .i64 (E.s 1).ack, .int .i64 (E.s 1).tak, (M.r 0).v, (M.r 1).v, (M.r 2).v, (M.r 3).v]
structure Emem (base : Nat) (Z : List Nat) (w : World) (E : En) (M : Mm) : Prop where
  has : ∀ i, i < 2 → Has w (M.q i).Q (M.q i).m (M.q i).c (M.q i).qs (E.s i).q
  own : ∀ i, i < 4 → OwnG w base 30 2 (M.r i).v (M.r i).n (pv (M.r i).qs) (M.r i).g
  pay : ∀ i, i < 4 → ∀ q ∈ (M.r i).qs, Pay w q
  abs : ∀ i, i < 4 → (M.r i).qs.map Pk.abs = E.r i
  offZ : ∀ i, i < 4 → ∀ g, (M.r i).g = some g → g ∉ Z
  offQ : ∀ i, i < 4 → ∀ g, (M.r i).g = some g → ∀ j, j < 2 → g ∉ (M.q j).feet
  offP : ∀ i, i < 4 → ∀ g, (M.r i).g = some g → ∀ j, j < 4 → g ∉ feetP (M.r j).qs
  offR : ∀ i, i < 4 → ∀ g, (M.r i).g = some g → ∀ j, j < 4 → j ≠ i → (M.r j).g ≠ some g
  zQ : ∀ z ∈ Z, ∀ j, j < 2 → z ∉ (M.q j).feet
  zP : ∀ z ∈ Z, ∀ j, j < 4 → z ∉ feetP (M.r j).qs
section
variable {base : Nat} {Z : List Nat} {w w' : World} {E : En} {M : Mm}
theorem Emem.keep (h : Emem base Z w E M) (hk : Keeps Z w w') : Emem base Z w' E M where
  has i hi := has_keep (h.has i hi) hk.1 fun b hb => hk.2 b (has_lt (h.has i hi) b hb) fun hz => h.zQ b hz i hi hb
  own i hi := ownG_keep (h.own i hi) fun b hb => hk.2 b ((h.own i hi).lt b hb).2 (h.offZ i hi b hb)
  pay i hi q hq := pay_keep (h.pay i hi q hq) hk.1 fun b hb => hk.2 b (pay_lt (h.pay i hi q hq) b hb) fun hz => h.zP b hz i hi (mem_feetP.2 ⟨q, hq, hb⟩)
  abs := h.abs
  offZ := h.offZ
  offQ := h.offQ
  offP := h.offP
  offR := h.offR
  zQ := h.zQ
  zP := h.zP
theorem Emem.feetP_lt (h : Emem base Z w E M) {j : Nat} (hj : j < 4) : ∀ b ∈ feetP (M.r j).qs, b < w.heap.size := by
  intro b hb
  obtain ⟨q, hq, hb⟩ := mem_feetP.1 hb
  exact pay_lt (h.pay j hj q hq) b hb
/-- Blocks that are not there yet, or that nothing here lies in, may be written. -/
theorem Emem.more (h : Emem base Z w E M) {Z' : List Nat} (hz : ∀ z ∈ Z', z ∈ Z ∨ w.heap.size ≤ z) : Emem base Z' w E M where
  has := h.has
  own := h.own
  pay := h.pay
  abs := h.abs
  offZ i hi g hg hz' := by
    rcases hz g hz' with h1 | h1
    · exact h.offZ i hi g hg h1
    · have := ((h.own i hi).lt g hg).2; omega
  offQ := h.offQ
  offP := h.offP
  offR := h.offR
  zQ z hz' j hj hb := by
    rcases hz z hz' with h1 | h1
    · exact h.zQ z h1 j hj hb
    · have := has_lt (h.has j hj) z hb; omega
  zP z hz' j hj hb := by
    rcases hz z hz' with h1 | h1
    · exact h.zP z h1 j hj hb
    · have := h.feetP_lt hj z hb; omega
/-- A side with its queue is replaced. -/
theorem Emem.side (h : Emem base Z w E M) {i : Nat} (s : St) (q : Qm) (hq : Has w q.Q q.m q.c q.qs s.q) (hz : ∀ b ∈ q.feet, b ∉ Z) (hr : ∀ b ∈ q.feet, ∀ j, j < 4 → (M.r j).g ≠ some b) : Emem base Z w ⟨upd E.s i s, E.r⟩ ⟨upd M.q i q, M.r⟩ where
  has j hj := by
    by_cases e : j = i
    · subst e; simp only [upd_at]; exact hq
    · simp only [upd_ne _ _ e]; exact h.has j hj
  own := h.own
  pay := h.pay
  abs := h.abs
  offZ := h.offZ
  offQ k hk g hg j hj hb := by
    by_cases e : j = i
    · subst e; simp only [upd_at] at hb; exact hr g hb k hk hg
    · simp only [upd_ne _ _ e] at hb; exact h.offQ k hk g hg j hj hb
  offP := h.offP
  offR := h.offR
  zQ z hz' j hj hb := by
    by_cases e : j = i
    · subst e; simp only [upd_at] at hb; exact hz z hb hz'
    · simp only [upd_ne _ _ e] at hb; exact h.zQ z hz' j hj hb
  zP := h.zP
theorem feetP_snoc {qs : List Pk} {p : Pk} {b : Nat} : b ∈ feetP (qs ++ [p]) ↔ b ∈ feetP qs ∨ b ∈ foot p.A p.n := by simp [feetP]
/-- A row is grown by a packet. -/
theorem Emem.push (h : Emem base Z w E M) {i : Nat} (hi : i < 4) {v' : Value} {g' : Option Nat} {p : Pk} (hown : OwnG w' base 30 2 v' ((M.r i).n + 1) (pv (M.r i).qs ++ pv [p]) g') (hg : w.grownBy w' (M.r i).g) (hg' : g' = (M.r i).g ∨ g' = some w.heap.size)
    (hp : Pay w p) (hpr : ∀ b ∈ foot p.A p.n, ∀ j, j < 4 → (M.r j).g ≠ some b) (hpz : ∀ b ∈ foot p.A p.n, b ∉ Z) (hzw : ∀ z ∈ Z, z < w.heap.size) :
    Emem base Z w' ⟨E.s, upd E.r i (E.r i ++ [p.abs])⟩ ⟨M.q, upd M.r i ⟨v', (M.r i).n + 1, (M.r i).qs ++ [p], g'⟩⟩ := by
  have hpay : ∀ {q : Pk}, Pay w q → (∀ b ∈ foot q.A q.n, (M.r i).g ≠ some b) → Pay w' q := fun hq ho => pay_keep hq hg.size fun b hb => hg.block b (pay_lt hq b hb) (Ne.symm (ho b hb))
  have hpays : ∀ j, j < 4 → ∀ q ∈ (M.r j).qs, Pay w' q := fun j hj q hq => hpay (h.pay j hj q hq) fun b hb e => h.offP i hi b e j hj (mem_feetP.2 ⟨q, hq, hb⟩)
  have hnew : ∀ g, g' = some g → (M.r i).g = some g ∨ g = w.heap.size := fun g e => by
    rcases hg' with h1 | h1
    · exact .inl (by rw [← h1, e])
    · rw [h1] at e; injection e with e; exact .inr e.symm
  constructor
  case has => exact fun j hj => has_keep (h.has j hj) hg.size fun b hb => hg.block b (has_lt (h.has j hj) b hb) fun e => h.offQ i hi b e.symm j hj hb
  case own =>
    intro j hj
    by_cases e : j = i
    · subst e
      simp only [upd_at]
      rw [show pv ((M.r j).qs ++ [p]) = pv (M.r j).qs ++ pv [p] by simp [pv]]
      exact hown
    · simp only [upd_ne _ _ e]
      exact ownG_keep (h.own j hj) fun b hb => hg.block b ((h.own j hj).lt b hb).2 fun e2 => h.offR i hi b e2.symm j hj e hb
  case pay =>
    intro j hj q hq
    by_cases e : j = i
    · subst e
      simp only [upd_at, List.mem_append, List.mem_singleton] at hq
      rcases hq with hq | rfl
      · exact hpays j hj q hq
      · exact hpay hp fun b hb => hpr b hb j hj
    · simp only [upd_ne _ _ e] at hq
      exact hpays j hj q hq
  case abs =>
    intro j hj
    by_cases e : j = i
    · subst e; simp only [upd_at, List.map_append, h.abs j hj]; rfl
    · simp only [upd_ne _ _ e]; exact h.abs j hj
  case offZ =>
    intro j hj g e2 hz
    by_cases e : j = i
    · subst e
      simp only [upd_at] at e2
      rcases hnew g e2 with h1 | h1
      · exact h.offZ j hj g h1 hz
      · have := hzw g hz; omega
    · simp only [upd_ne _ _ e] at e2; exact h.offZ j hj g e2 hz
  case offQ =>
    intro j hj g e2 k hk hb
    by_cases e : j = i
    · subst e
      simp only [upd_at] at e2
      rcases hnew g e2 with h1 | h1
      · exact h.offQ j hj g h1 k hk hb
      · have := has_lt (h.has k hk) g hb; omega
    · simp only [upd_ne _ _ e] at e2; exact h.offQ j hj g e2 k hk hb
  case offP =>
    intro j hj g e2 k hk hb
    have hb' : g ∈ feetP (M.r k).qs ∨ (k = i ∧ g ∈ foot p.A p.n) := by
      by_cases e : k = i
      · subst e
        simp only [upd_at] at hb
        rcases feetP_snoc.1 hb with hb | hb
        · exact .inl hb
        · exact .inr ⟨rfl, hb⟩
      · simp only [upd_ne _ _ e] at hb; exact .inl hb
    have hold : (M.r j).g = some g → False := fun e3 => by
      rcases hb' with hb | ⟨_, hb⟩
      · exact h.offP j hj g e3 k hk hb
      · exact hpr g hb j hj e3
    by_cases e : j = i
    · subst e
      simp only [upd_at] at e2
      rcases hnew g e2 with h1 | h1
      · exact hold h1
      · rcases hb' with hb | ⟨_, hb⟩
        · have := h.feetP_lt hk g hb; omega
        · have := pay_lt hp g hb; omega
    · simp only [upd_ne _ _ e] at e2; exact hold e2
  case offR =>
    intro j hj g e2 k hk hne e3
    by_cases e : j = i
    · subst e
      simp only [upd_at] at e2
      simp only [upd_ne _ _ hne] at e3
      rcases hnew g e2 with h1 | h1
      · exact h.offR j hj g h1 k hk hne e3
      · have := ((h.own k hk).lt g e3).2; omega
    · simp only [upd_ne _ _ e] at e2
      by_cases e4 : k = i
      · subst e4
        simp only [upd_at] at e3
        rcases hnew g e3 with h1 | h1
        · exact h.offR k hk g h1 j hj (Ne.symm hne) e2
        · have := ((h.own j hj).lt g e2).2; omega
      · simp only [upd_ne _ _ e4] at e3
        exact h.offR j hj g e2 k hk hne e3
  case zQ => exact h.zQ
  case zP =>
    intro z hz j hj hb
    by_cases e : j = i
    · subst e
      simp only [upd_at] at hb
      rcases feetP_snoc.1 hb with hb | hb
      · exact h.zP z hz j hj hb
      · exact hpz z hb hz
    · simp only [upd_ne _ _ e] at hb; exact h.zP z hz j hj hb
theorem Emem.row (h : Emem base Z w E M) {i : Nat} (hi : i < 4) : (M.r i).n = (E.r i).length := by
  rw [← h.abs i hi, List.length_map]
  obtain ⟨A, c, _, _, hr⟩ := (h.own i hi).rd
  have := hr.1
  rw [pv_length] at this
  omega
theorem Emem.row_slice (h : Emem base Z w E M) {i : Nat} (hi : i < 4) : ∃ A c, (M.r i).v = .slice A (M.r i).n c ∧ (M.r i).n ≤ c ∧ PRd w A (M.r i).n (M.r i).qs := by
  obtain ⟨A, c, hv, hc, hr⟩ := (h.own i hi).rd
  exact ⟨A, c, hv, hc, hr, h.pay i hi⟩
end
end Go.Proofs.Ytobljnbpokijdaa
