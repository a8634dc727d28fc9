/-
  The walks of Clone (bytes), clone (a packet), own (a side). Each function's contract.
-/
import Derived.Test.YtobljnbpokijdaaAqb
namespace Go.Proofs.Ytobljnbpokijdaa
set_option linter.unusedVariables false
set_option linter.unusedSimpArgs false
open Go.RowKit

set_option maxHeartbeats 400000 in
theorem cloneb_any (A : Option Addr) (n c : Nat) (l : List Nat) (w : World) (hA : Rd w 1 A n (bv l)) (hn : n ≤ big) :
    Calls Try.prog 34 #[.slice A n c] w fun e w' => ∃ v, e = .returned v ∧ w'.ownsRow w.heap.size 5 1 v n (bv l) ∧ Below w.heap.size w w' := by
  have hq := fun (W : World) => Lib.run_eql_slice_nil (P := Try.prog) W 28 5 A n c 0 0 under8
  cases A with
  | none =>
    have h0 : n = 0 := by
      rcases Nat.eq_zero_or_pos n with h | h
      · exact h
      · obtain ⟨b, o, e, _⟩ := hA.2 h; cases e
    subst h0
    obtain rfl : l = [] := List.eq_nil_of_length_eq_zero hA.blen
    go_enter Try.func34, Try.ntmps34
    go_wp2
    go_ret
    exact ⟨_, rfl, World.ownsRow_nil _ _ _ _, Below.refl _ _⟩
  | some ad =>
    go_enter Try.func34, Try.ntmps34
    go_wp2_with (at_builtin; refine wpList_append_rd _ rfl (.tmp 5) (.tmp 6) _ rfl w.heap.size 5 (.int .u8 0) 1 1 under8 info8 rfl (by omega) (.slice (some ⟨w.heap.size, 0, none⟩) 0 0) 0 [] rfl (own_made w) (some ad) n c (bv l) rfl (hA.alloc _) (bv_one l) (big0 hn) (big1 hn) (by simp) ?_; intro v1 w1 hown hg _)
    go_ret
    rw [Nat.zero_add, List.nil_append] at hown
    exact ⟨_, rfl, hown, ((Below.refl _ _).alloc (Nat.le_refl _) _).grown hg (by simp) (by simp [Value.ownBlock])⟩
set_option maxHeartbeats 400000 in
theorem clone_any (id : Int) (A : Option Addr) (n c : Nat) (l : List Nat) (w : World) (hA : Rd w 1 A n (bv l)) (hn : n ≤ big) :
    Calls Try.prog 29 #[.agg #[.int .i64 id, .slice A n c]] w fun e w' => ∃ A' c', e = .returned (.agg #[.int .i64 id, .slice A' n c']) ∧ w'.ownsRow w.heap.size 5 1 (.slice A' n c') n (bv l) ∧ n ≤ c' ∧ Below w.heap.size w w' := by
  have hB : Below w.heap.size w ((w.alloc (.cells #[.int .i64 id, .slice A n c] 30)).alloc (.cells #[.int .i64 0, .slice none 0 0] 30)) := ((Below.refl _ _).alloc (Nat.le_refl _) _).alloc (by simp) _
  have k1 : Blk ((w.alloc (.cells #[.int .i64 id, .slice A n c] 30)).alloc (.cells #[.int .i64 0, .slice none 0 0] 30)) w.heap.size 30 #[.int .i64 id, .slice A n c] := (Blk.new _ _ _).alloc _
  have k2 : Blk ((w.alloc (.cells #[.int .i64 id, .slice A n c] 30)).alloc (.cells #[.int .i64 0, .slice none 0 0] 30)) (w.heap.size + 1) 30 #[.int .i64 0, .slice none 0 0] := blk_new2 (by simp)
  go_enter Try.func29, Try.ntmps29
  go_wp2_with fail
  refine (cloneb_any A n c l _ (hA.below hB) hn).mono ?_
  rintro e w1 ⟨v1, rfl, hown1, hb1⟩
  obtain ⟨A1, c1, hv1, hc1, _, _⟩ := own_rd hown1
  rw [hv1] at hown1
  rw [hv1]
  clear hv1
  have B1 := hB.trans (hb1.mono hB.size)
  have m1 := k1.below hb1 k1.lt
  have m2 := k2.below hb1 k2.lt
  have hbase : ∀ q, (Value.slice A1 n c1).ownBlock = some q → w.heap.size + 2 ≤ q := by
    intro q hq
    have := (hown1.lt q hq).1
    simp at this
    omega
  have e1 : (Value.slice A1 n c1).ownBlock ≠ some w.heap.size := fun e => by have := hbase _ e; omega
  have e2 : (Value.slice A1 n c1).ownBlock ≠ some (w.heap.size + 1) := fun e => by have := hbase _ e; omega
  have r0 := m1.cell 0
  have r1 := m1.cell 1
  have f1 := m1.frozen 1
  have s0 := m2.cell 0
  have s1 := m2.cell 1
  have g0 := m2.frozen 0
  have g1 := m2.frozen 1
  simp only [List.getElem?_toArray, List.getElem?_cons_zero, List.getElem?_cons_succ] at r0 r1 s0 s1
  have h4 : Blk (((w1.setCell ⟨w.heap.size, 1, none⟩ (.slice A1 n c1)).setCell ⟨w.heap.size + 1, 0, none⟩ (.int .i64 id)).setCell ⟨w.heap.size + 1, 1, none⟩ (.slice A1 n c1)) (w.heap.size + 1) 30 #[.int .i64 id, .slice A1 n c1] := by
    simpa using (((m2.far (p := ⟨w.heap.size, 1, none⟩) (by simp) (.slice A1 n c1)).set_ 0 (.int .i64 id)).set_ 1 (.slice A1 n c1))
  go_wp2
  refine bodyPost_ret (run_res_one rfl rfl h4 _ Try.underlying30 rfl (by kernel_rfl)) rfl ⟨_, _, rfl, ?_, hc1, ((B1.setCell (p := ⟨w.heap.size, 1, none⟩) (Nat.le_refl _) _).setCell (p := ⟨w.heap.size + 1, 0, none⟩) (by simp) _).setCell (p := ⟨w.heap.size + 1, 1, none⟩) (by simp) _⟩
  exact ownsRow_weak (own_far (own_far (own_far hown1 e1 _) e2 _) e2 _) hB.size
/-- Payloads that lie apart from a row's own block. -/
def Sep (v : Value) (ps : List Pk) : Prop := ∀ p ∈ ps, 0 < p.n → ∀ a, p.A = some a → some a.block ≠ v.ownBlock
theorem Pay.grown {w w' : World} {p : Pk} {row : Option Nat} (h : Pay w p) (hg : w.grownBy w' row) (hs : 0 < p.n → ∀ a, p.A = some a → some a.block ≠ row) : Pay w' p := by
  refine ⟨⟨h.1.1, fun h0 => ?_⟩, h.2⟩
  obtain ⟨b, o, e, hb, hc⟩ := h.1.2 h0
  refine ⟨b, o, e, Nat.lt_of_lt_of_le hb hg.size, fun j u hu => ?_⟩
  exact (old_cell hg hb (hs h0 _ e)).trans (hc j u hu)
theorem Pay.lt {w : World} {p : Pk} (h : Pay w p) (h0 : 0 < p.n) : ∀ a, p.A = some a → a.block < w.heap.size := by
  intro a ha
  obtain ⟨b, o, e, hb, _⟩ := h.1.2 h0
  rw [ha] at e
  injection e with e
  subst e
  exact hb
/-- Cells of block g are written, one after the other. -/
def fills (w : World) (g : Nat) (l : List (Nat × Value)) : World := l.foldl (fun w p => w.setCell ⟨g, p.1, none⟩ p.2) w
section
variable {w w1 : World} {g : Nat}
theorem blk_fills {t : TypeId} (l : List (Nat × Value)) : ∀ {w : World} {cs : Array Value}, Blk w g t cs → Blk (fills w g l) g t (l.foldl (fun cs p => cs.setIfInBounds p.1 p.2) cs) := by
  induction l with
  | nil => intro w cs h; exact h
  | cons p l ih => intro w cs h; exact ih (h.set_ p.1 p.2)
theorem blk_fills_far {t : TypeId} {g' : Nat} {cs : Array Value} (l : List (Nat × Value)) (hne : g' ≠ g) : ∀ {w : World}, Blk w g' t cs → Blk (fills w g l) g' t cs := by
  induction l with
  | nil => intro w h; exact h
  | cons p l ih => intro w h; exact ih (h.far (p := ⟨g, p.1, none⟩) hne p.2)
theorem own_fills {base : Nat} {e : TypeId} {size : Nat} {v : Value} {n : Nat} {xs : List Value} (l : List (Nat × Value)) (hp : v.ownBlock ≠ some g) : ∀ {w : World}, w.ownsRow base e size v n xs → (fills w g l).ownsRow base e size v n xs := by
  induction l with
  | nil => intro w h; exact h
  | cons p l ih => intro w h; exact ih (own_far h (p := ⟨g, p.1, none⟩) hp p.2)
theorem below_fills {B : Nat} {w0 : World} (l : List (Nat × Value)) (hg : B ≤ g) : ∀ {w : World}, Below B w0 w → Below B w0 (fills w g l) := by
  induction l with
  | nil => intro w h; exact h
  | cons p l ih => intro w h; exact ih (h.setCell (p := ⟨g, p.1, none⟩) hg p.2)
theorem fills_heap (l : List (Nat × Value)) {k : Nat} (hk : k ≠ g) : ∀ {w : World}, (fills w g l).heap[k]? = w.heap[k]? := by
  induction l with
  | nil => intro w; rfl
  | cons p l ih => intro w; exact (ih (w := w.setCell ⟨g, p.1, none⟩ p.2)).trans (Below.heap_setCell w ⟨g, p.1, none⟩ p.2 k hk)
theorem fills_size (l : List (Nat × Value)) : ∀ {w : World}, (fills w g l).heap.size = w.heap.size := by
  induction l with
  | nil => intro w; rfl
  | cons p l ih => intro w; exact (ih (w := w.setCell ⟨g, p.1, none⟩ p.2)).trans (by simp [World.setCell])
theorem rd_fills {size n : Nat} {A : Option Addr} {xs : List Value} (l : List (Nat × Value)) (h : Rd w size A n xs) (hp : 0 < n → ∀ a, A = some a → a.block ≠ g) : Rd (fills w g l) size A n xs := by
  refine ⟨h.1, fun h0 => ?_⟩
  obtain ⟨b, o, e, hb, hc⟩ := h.2 h0
  refine ⟨b, o, e, by rw [fills_size]; exact hb, fun j u hu => ?_⟩
  rw [World.cell?_of_block (w := w) (w' := fills w g l) (a := ⟨b, o + j, none⟩) (fills_heap l (hp h0 _ e))]
  exact hc j u hu
theorem pay_fills {p : Pk} (l : List (Nat × Value)) (h : Pay w p) (hp : 0 < p.n → ∀ a, p.A = some a → a.block ≠ g) : Pay (fills w g l) p := ⟨rd_fills l h.1 hp, h.2⟩
end
/-- Payloads that lie in blocks from B on. -/
def From (B : Nat) (ps : List Pk) : Prop := ∀ p ∈ ps, 0 < p.n → ∀ a, p.A = some a → B ≤ a.block
/-- A packet of the call's own, behind a clone. -/
theorem pay_own {w : World} {base : Nat} {A : Option Addr} {n c : Nat} {l : List Nat} {id : Int} (h : w.ownsRow base 5 1 (.slice A n c) n (bv l)) (hl : ∀ x ∈ l, x < 256) (hc : n ≤ c) (hn : n ≤ big) : Pay w ⟨id, A, n, c, l⟩ ∧ (0 < n → ∀ a, A = some a → base ≤ a.block) := by
  obtain ⟨A', c', hv, _, _, hr⟩ := own_rd h
  injection hv with e1 _ e2
  subst e1
  refine ⟨⟨hr, hl, hc, hn⟩, fun _ a ha => ?_⟩
  subst ha
  exact (h.lt a.block rfl).1
end Go.Proofs.Ytobljnbpokijdaa
