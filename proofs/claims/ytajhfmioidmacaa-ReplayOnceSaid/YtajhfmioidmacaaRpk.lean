/-
  The plain laws of the cache and of the list of rows.
-/
import Derived.Test.YtajhfmioidmacaaRpg
namespace Go.Proofs.Ytajhfmioidmacaa
set_option linter.unusedVariables false
set_option linter.unusedSimpArgs false
open Go.RowKit

/-- The cache after messages. -/
def caches (l : List Msg) : List Msg := l.foldl rem []
theorem caches_snoc {l : List Msg} {k : Nat} {x : Msg} (h : l[k]? = some x) : caches (l.take (k + 1)) = rem (caches (l.take k)) x := by
  rw [take_snoc h]
  simp [caches, List.foldl_append]
theorem rem_mem (c : List Msg) (x : Msg) : x ∈ rem c x ∨ (x ∈ c ∧ 256 < c.length) := by
  by_cases h : x ∈ c
  · by_cases h2 : 256 < c.length
    · exact .inr ⟨h, h2⟩
    · left
      rw [rem_in h, show c.length - CS = 0 by have := cs_eq; omega]
      exact h
  · left
    rw [rem_new h, List.drop_append_of_le_length (by have := cs_eq; omega)]
    simp
/-- What a known message does to a cache that is not too long. -/
theorem rem_known {c : List Msg} {x : Msg} (h : x ∈ c) (hc : c.length ≤ 256) : rem c x = c := by
  rw [rem_in h, show c.length - CS = 0 by have := cs_eq; omega, List.drop_zero]
theorem rem_fresh {c : List Msg} {x : Msg} (h : x ∉ c) : rem c x = c.drop (c.length + 1 - CS) ++ [x] := by
  rw [rem_new h, List.drop_append_of_le_length (by have := cs_eq; omega)]
theorem caches_good (l : List Msg) : (caches l).length ≤ 256 ∧ (caches l).Nodup := by
  have key : ∀ (l : List Msg) (c : List Msg), c.length ≤ 256 → c.Nodup → (l.foldl rem c).length ≤ 256 ∧ (l.foldl rem c).Nodup := by
    intro l
    induction l with
    | nil => intro c h1 h2; exact ⟨h1, h2⟩
    | cons x l ih =>
      intro c h1 h2
      rw [List.foldl_cons]
      refine ih _ (rem_len c x) ?_
      by_cases hx : x ∈ c
      · rw [rem_known hx h1]; exact h2
      · rw [rem_fresh hx]
        rw [List.nodup_append]
        refine ⟨h2.sublist (List.drop_sublist _ _), by simp, ?_⟩
        intro a ha b hb
        simp only [List.mem_singleton] at hb
        subst hb
        exact fun e => hx (e ▸ List.mem_of_mem_drop ha)
  exact key l [] (by simp) List.nodup_nil
/-- The rows after messages, and those that were accepted. -/
def rowsOf (l : List Msg) : List Msg := l.foldl (fun r x => (acc r x).1) []
def gotOf (l : List Msg) : List Msg := (l.foldl (fun p x => if chk p.1 x = 0 then ((acc p.1 x).1, p.2 ++ [x]) else p) (([] : List Msg), ([] : List Msg))).2
theorem acc_err {r : List Msg} {x : Msg} (h : chk r x ≠ 0) : acc r x = (r, chk r x) := by unfold acc; rw [if_neg h]
theorem acc_ok {r : List Msg} {x : Msg} (h : chk r x = 0) : (acc r x).2 = 0 := by
  rcases acc_cases r x with ⟨h', _⟩ | ⟨_, _, e⟩ | ⟨_, _, _, _, e⟩
  · exact absurd h h'
  · rw [e]
  · rw [e]
theorem acc_code (r : List Msg) (x : Msg) : (acc r x).2 = chk r x := by
  by_cases h : chk r x = 0
  · rw [acc_ok h, h]
  · rw [acc_err h]
theorem rows_pair (l : List Msg) : (l.foldl (fun p x => if chk p.1 x = 0 then ((acc p.1 x).1, p.2 ++ [x]) else p) (([] : List Msg), ([] : List Msg))).1 = rowsOf l := by
  have key : ∀ (l : List Msg) (r g : List Msg), (l.foldl (fun p x => if chk p.1 x = 0 then ((acc p.1 x).1, p.2 ++ [x]) else p) (r, g)).1 = l.foldl (fun r x => (acc r x).1) r := by
    intro l
    induction l with
    | nil => intro r g; rfl
    | cons x l ih =>
      intro r g
      rw [List.foldl_cons, List.foldl_cons]
      by_cases h : chk r x = 0
      · simp only [h, if_true]
        exact ih _ _
      · simp only [h, if_false]
        rw [show (acc r x).1 = r by rw [acc_err h]]
        exact ih _ _
  exact key l [] []
theorem rows_snoc {l : List Msg} {k : Nat} {x : Msg} (h : l[k]? = some x) : rowsOf (l.take (k + 1)) = (acc (rowsOf (l.take k)) x).1 := by
  rw [take_snoc h]
  simp [rowsOf, List.foldl_append]
theorem got_snoc {l : List Msg} {k : Nat} {x : Msg} (h : l[k]? = some x) : gotOf (l.take (k + 1)) = if chk (rowsOf (l.take k)) x = 0 then gotOf (l.take k) ++ [x] else gotOf (l.take k) := by
  rw [take_snoc h]
  have e := rows_pair (l.take k)
  unfold gotOf
  rw [List.foldl_append, List.foldl_cons, List.foldl_nil]
  rw [e]
  split <;> rfl
/-- The row of a source holds the newest number that was accepted. -/
def Kept (r g : List Msg) : Prop := ∀ y ∈ g, ∃ (k : Nat) (z : Msg), rowOf r y.s = (k : Int) ∧ r[k]? = some z ∧ z.s = y.s ∧ (y.i < z.i ∨ y.i = z.i ∧ y.q ≤ z.q)
theorem rowOf_append_old {r : List Msg} {x : Msg} {s : Int} {k : Nat} {z : Msg} (h : rowOf r s = (k : Int)) (hz : r[k]? = some z) : rowOf (r ++ [x]) s = (k : Int) ∧ (r ++ [x])[k]? = some z := by
  rcases rowOf_cases r s with ⟨h', _⟩ | ⟨k', z', h', hz', hs, hb⟩
  · rw [h'] at h; omega
  · rw [h'] at h
    obtain rfl : k' = k := by omega
    have hlt := (List.getElem?_eq_some_iff.1 hz').1
    have e : (r ++ [x])[k']? = some z' := by rw [List.getElem?_append_left hlt]; exact hz'
    refine ⟨rowOf_hit e hs ?_, by rw [List.getElem?_append_left hlt]; exact hz⟩
    rw [List.take_append_of_le_length (by omega)]
    exact hb
theorem rowOf_append_new {r : List Msg} {x : Msg} (h : rowOf r x.s = -1) : rowOf (r ++ [x]) x.s = (r.length : Int) ∧ (r ++ [x])[r.length]? = some x := by
  rcases rowOf_cases r x.s with ⟨_, h'⟩ | ⟨k', z', h', _⟩
  · have e : (r ++ [x])[r.length]? = some x := by simp
    refine ⟨rowOf_hit e rfl ?_, e⟩
    rw [List.take_append_of_le_length (Nat.le_refl _), List.take_length]
    exact h'
  · rw [h] at h'; omega
theorem rowOf_set_same {r : List Msg} {x : Msg} {k : Nat} (h : rowOf r x.s = (k : Int)) : rowOf (r.set k x) x.s = (k : Int) ∧ (r.set k x)[k]? = some x := by
  rcases rowOf_cases r x.s with ⟨h', _⟩ | ⟨k', z', h', hz', hs, hb⟩
  · rw [h'] at h; omega
  · rw [h'] at h
    obtain rfl : k' = k := by omega
    have hlt := (List.getElem?_eq_some_iff.1 hz').1
    have e : (r.set k' x)[k']? = some x := by rw [List.getElem?_set_self hlt]
    refine ⟨rowOf_hit e rfl ?_, e⟩
    rw [List.take_set_of_le (Nat.le_refl _)]
    exact hb
theorem rowOf_set_other {r : List Msg} {x : Msg} {k j : Nat} {s : Int} {z : Msg} (hk : rowOf r x.s = (k : Int)) (h : rowOf r s = (j : Int)) (hz : r[j]? = some z) (hne : s ≠ x.s) : rowOf (r.set k x) s = (j : Int) ∧ (r.set k x)[j]? = some z := by
  rcases rowOf_cases r s with ⟨h', _⟩ | ⟨j', z', h', hz', hs, hb⟩
  · rw [h'] at h; omega
  · rw [h'] at h
    obtain rfl : j' = j := by omega
    rw [hz] at hz'
    injection hz' with hz'
    subst hz'
    rcases rowOf_cases r x.s with ⟨h2, _⟩ | ⟨k', y, h2, hy, hys, hyb⟩
    · rw [h2] at hk; omega
    · rw [h2] at hk
      obtain rfl : k' = k := by omega
      have hne2 : k' ≠ j' := by
        intro e
        subst e
        rw [hz] at hy
        injection hy with hy
        subst hy
        exact hne (by rw [← hs, hys])
      have e : (r.set k' x)[j']? = some z := by rw [List.getElem?_set_ne hne2]; exact hz
      refine ⟨rowOf_hit e hs ?_, e⟩
      intro y' hy'
      obtain ⟨i, hi, rfl⟩ := List.mem_take_iff_getElem.1 hy'
      rw [List.getElem_set]
      split
      · exact fun e => hne e.symm
      · have hib : i < j' ∧ i < r.length := by simp at hi; omega
        exact hb _ (List.mem_take_iff_getElem.2 ⟨i, by omega, rfl⟩)
theorem chk_zero {r : List Msg} {x : Msg} (h : chk r x = 0) : (rowOf r x.s = -1 ∧ r.length < 32) ∨ ∃ (k : Nat) (z : Msg), rowOf r x.s = (k : Int) ∧ r[k]? = some z ∧ newer x z = true := by
  rcases chk_cases r x with ⟨_, _, e⟩ | ⟨h1, h2, _⟩ | ⟨k, y, h1, hy, h2⟩
  · omega
  · exact .inl ⟨h1, h2⟩
  · rcases h2 with ⟨h2, _⟩ | ⟨_, h3⟩
    · exact .inr ⟨k, y, h1, hy, h2⟩
    · omega
theorem newer_true {x z : Msg} (h : newer x z = true) : z.i < x.i ∨ x.i = z.i ∧ z.q < x.q := by
  rcases newer_cases x z with ⟨k, e⟩ | ⟨k, k', e⟩ | ⟨k, k', e⟩ | ⟨k, k', e⟩
  · exact .inl k
  · rw [e] at h; cases h
  · exact .inr ⟨k, k'⟩
  · rw [e] at h; cases h
theorem newer_self (x : Msg) : newer x x = false := by
  rcases newer_cases x x with ⟨k, e⟩ | ⟨k, k', e⟩ | ⟨k, k', e⟩ | ⟨k, k', e⟩ <;> first | exact e | omega
/-- A message that is accepted is newer than all that were accepted of its source. -/
theorem kept_newer {r g : List Msg} {x : Msg} (h : Kept r g) (hc : chk r x = 0) : ∀ y ∈ g, y.s = x.s → y.i < x.i ∨ y.i = x.i ∧ y.q < x.q := by
  intro y hy hs
  obtain ⟨k, z, h1, hz, h2, h3⟩ := h y hy
  rw [hs] at h1
  rcases chk_zero hc with ⟨h4, _⟩ | ⟨k', z', h4, hz', h5⟩
  · rw [h4] at h1; omega
  · rw [h4] at h1
    obtain rfl : k' = k := by omega
    rw [hz] at hz'
    injection hz' with hz'
    subst hz'
    have := newer_true h5
    omega
theorem kept_step {r g : List Msg} {x : Msg} (h : Kept r g) (hc : chk r x = 0) : Kept (acc r x).1 (g ++ [x]) ∧ chk (acc r x).1 x = 16 := by
  have hnew := kept_newer h hc
  have fin : ∀ (r' : List Msg) (k : Nat), rowOf r' x.s = (k : Int) → r'[k]? = some x → chk r' x = 16 := by
    intro r' k h1 h2
    rcases chk_cases r' x with ⟨h3, _⟩ | ⟨h3, _⟩ | ⟨k', y, h3, hy, h4⟩
    · omega
    · omega
    · obtain rfl : k' = k := by omega
      rw [h2] at hy
      injection hy with hy
      subst hy
      rcases h4 with ⟨h4, _⟩ | ⟨_, h5⟩
      · rw [newer_self] at h4; cases h4
      · exact h5
  rcases acc_cases r x with ⟨h', _⟩ | ⟨_, hr, e⟩ | ⟨k, hk, _, hr, e⟩
  · exact absurd hc h'
  · rw [e]
    obtain ⟨n1, n2⟩ := rowOf_append_new hr
    refine ⟨?_, fin _ _ n1 n2⟩
    intro y hy
    rcases List.mem_append.1 hy with hy | hy
    · obtain ⟨j, z, h1, hz, h2, h3⟩ := h y hy
      obtain ⟨m1, m2⟩ := rowOf_append_old (x := x) h1 hz
      exact ⟨j, z, m1, m2, h2, h3⟩
    · simp only [List.mem_singleton] at hy
      subst hy
      exact ⟨_, _, n1, n2, rfl, .inr ⟨rfl, Int.le_refl _⟩⟩
  · rw [e]
    obtain ⟨n1, n2⟩ := rowOf_set_same hr
    refine ⟨?_, fin _ _ n1 n2⟩
    intro y hy
    rcases List.mem_append.1 hy with hy | hy
    · by_cases hs : y.s = x.s
      · refine ⟨k, x, by rw [hs]; exact n1, n2, hs.symm, ?_⟩
        have := hnew y hy hs
        omega
      · obtain ⟨j, z, h1, hz, h2, h3⟩ := h y hy
        obtain ⟨m1, m2⟩ := rowOf_set_other hr h1 hz hs
        exact ⟨j, z, m1, m2, h2, h3⟩
    · simp only [List.mem_singleton] at hy
      subst hy
      exact ⟨_, _, n1, n2, rfl, .inr ⟨rfl, Int.le_refl _⟩⟩
theorem acc_len {r : List Msg} {x : Msg} (hc : r.length ≤ 32) : (acc r x).1.length ≤ 32 := by
  rcases acc_cases r x with ⟨_, e⟩ | ⟨h0, hr, e⟩ | ⟨k, hk, _, hr, e⟩
  · rw [e]; exact hc
  · rw [e]
    rcases chk_zero h0 with ⟨_, h⟩ | ⟨k, z, h, _⟩
    · simp; omega
    · rw [hr] at h; omega
  · rw [e]; simpa using hc
end Go.Proofs.Ytajhfmioidmacaa
