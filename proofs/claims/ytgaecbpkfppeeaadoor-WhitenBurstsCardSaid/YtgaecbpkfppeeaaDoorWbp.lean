/-
  Plain facts on the register of the whitening sequence: one step, many steps, its period, its bytes. No program in sight.
-/
namespace Go.Proofs.YtgaecbpkfppeeaaDoor.Wh

set_option linter.unusedVariables false
set_option linter.unusedSimpArgs false
/-- One step of the register, plainly. -/
def wst (r : Nat) : Nat := if r < 64 then 2 * r else ((2 * r) % 128) ^^^ 17
/-- n steps. -/
def wit : Nat → Nat → Nat
  | 0, r => r
  | n + 1, r => wst (wit n r)

theorem wst_lt (r : Nat) (h : r < 128) : wst r < 128 := by
  have : ∀ r : Fin 128, wst r.1 < 128 := by decide +kernel
  exact this ⟨r, h⟩
theorem wst_pos (r : Nat) (h0 : 1 ≤ r) (h : r < 128) : 1 ≤ wst r := by
  have : ∀ r : Fin 128, 1 ≤ r.1 → 1 ≤ wst r.1 := by decide +kernel
  exact this ⟨r, h⟩ h0
theorem wit_lt (n r : Nat) (h : r < 128) : wit n r < 128 := by
  induction n with
  | zero => exact h
  | succ n ih => exact wst_lt _ ih
theorem wit_pos (n r : Nat) (h0 : 1 ≤ r) (h : r < 128) : 1 ≤ wit n r := by
  induction n with
  | zero => exact h0
  | succ n ih => exact wst_pos _ ih (wit_lt n r h)
theorem wit_add (m n r : Nat) : wit (m + n) r = wit m (wit n r) := by
  induction m with
  | zero => simp [wit]
  | succ m ih => rw [Nat.succ_add]; simp [wit, ih]
theorem wit_period (r : Nat) (h : r < 128) : wit 127 r = r := by
  have : ∀ r : Fin 128, wit 127 r.1 = r.1 := by decide +kernel
  exact this ⟨r, h⟩
theorem wit_mul (q r : Nat) (h : r < 128) : wit (127 * q) r = r := by
  induction q with
  | zero => rfl
  | succ q ih => rw [Nat.mul_succ, wit_add, wit_period r h, ih]
theorem wit_mod (n r : Nat) (h : r < 128) : wit (n % 127) r = wit n r := by
  conv => rhs; rw [← Nat.mod_add_div n 127]
  rw [wit_add, wit_mul _ _ h]

/-- none of fewer steps leads back -/
def noBack : Nat → Nat → Nat → Bool
  | 0, _, _ => true
  | f + 1, r, s => (wst s != r) && noBack f r (wst s)
theorem noBack_iff (f r s : Nat) (h : noBack f r s = true) : ∀ k, 1 ≤ k → k ≤ f → wit k s ≠ r := by
  induction f generalizing s with
  | zero => intro k h1 h2; omega
  | succ f ih =>
    simp only [noBack, Bool.and_eq_true, bne_iff_ne] at h
    intro k h1 h2
    rcases Nat.lt_or_ge 1 k with hk | hk
    · obtain ⟨j, rfl⟩ : ∃ j, k = j + 1 := ⟨k - 1, by omega⟩
      rw [wit_add]
      exact ih _ h.2 j (by omega) (by omega)
    · obtain rfl : k = 1 := by omega
      exact h.1
theorem wit_no (r k : Nat) (h0 : 1 ≤ r) (h : r < 128) (h1 : 1 ≤ k) (h2 : k ≤ 126) : wit k r ≠ r := by
  have : ∀ r : Fin 128, 1 ≤ r.1 → noBack 126 r.1 r.1 = true := by decide +kernel
  exact noBack_iff 126 r r (this ⟨r, h⟩ h0) k h1 h2

/-- the byte of eight steps -/
def wby (r : Nat) : Nat := (r / 64) + 2 * (wit 1 r / 64) + 4 * (wit 2 r / 64) + 8 * (wit 3 r / 64) + 16 * (wit 4 r / 64) + 32 * (wit 5 r / 64) + 64 * (wit 6 r / 64) + 128 * (wit 7 r / 64)
def wseq : Nat → Nat → List Nat
  | 0, _ => []
  | n + 1, r => wby r :: wseq n (wit 8 r)
theorem wseq_length (n r : Nat) : (wseq n r).length = n := by
  induction n generalizing r with
  | zero => rfl
  | succ n ih => simp [wseq, ih]
theorem wseq_succ (n r : Nat) : wseq (n + 1) r = wseq n r ++ [wby (wit (8 * n) r)] := by
  induction n generalizing r with
  | zero => simp [wseq, wit]
  | succ n ih =>
    rw [wseq, ih (wit 8 r)]
    simp only [wseq, List.cons_append]
    rw [← wit_add]
    congr 4
theorem wseq_take (m n r : Nat) (h : m ≤ n) : (wseq n r).take m = wseq m r := by
  induction m generalizing n r with
  | zero => simp [wseq]
  | succ m ih =>
    obtain ⟨n, rfl⟩ : ∃ k, n = k + 1 := ⟨n - 1, by omega⟩
    simp [wseq, ih n _ (by omega)]
theorem wby_lt (r : Nat) (h : r < 128) : wby r < 256 := by
  have a := wit_lt 1 r h
  have b := wit_lt 2 r h
  have c := wit_lt 3 r h
  have d := wit_lt 4 r h
  have e := wit_lt 5 r h
  have f := wit_lt 6 r h
  have g := wit_lt 7 r h
  unfold wby
  omega

/-- the first j bits of the byte -/
def wpart (r : Nat) : Nat → Nat
  | 0 => 0
  | j + 1 => wpart r j + 2 ^ j * (wit j r / 64)
theorem wpart_eight (r : Nat) : wpart r 8 = wby r := by simp [wpart, wby, wit]
theorem wpart_lt (r : Nat) (h : r < 128) (j : Nat) : wpart r j < 2 ^ j := by
  induction j with
  | zero => simp [wpart]
  | succ j ih =>
    have h1 := wit_lt j r h
    have h2 : wit j r / 64 ≤ 1 := by omega
    have h3 : 2 ^ j * (wit j r / 64) ≤ 2 ^ j * 1 := Nat.mul_le_mul_left _ h2
    simp only [wpart, Nat.pow_succ]
    omega
/-- the bytes behind k whole ones and j bits of the next -/
def wrow (n r k j : Nat) : List Nat := wseq k r ++ (wpart (wit (8 * k) r) j :: List.replicate (n - k - 1) 0)
theorem wrow_length (n r k j : Nat) (h : k < n) : (wrow n r k j).length = n := by simp [wrow, wseq_length]; omega
theorem wrow_get (n r k j : Nat) : (wrow n r k j)[k]? = some (wpart (wit (8 * k) r) j) := by
  unfold wrow; rw [List.getElem?_append_right (by rw [wseq_length]; exact Nat.le_refl _), wseq_length]; simp
theorem wrow_set (n r k j v : Nat) (h : v = wpart (wit (8 * k) r) (j + 1)) : (wrow n r k j).set k v = wrow n r k (j + 1) := by
  unfold wrow
  rw [List.set_append_right _ _ (by rw [wseq_length]; exact Nat.le_refl _), wseq_length, Nat.sub_self, h]
  rfl
theorem wrow_zero (n r k : Nat) (h : k < n) : wseq k r ++ List.replicate (n - k) 0 = wrow n r k 0 := by
  unfold wrow
  obtain ⟨m, hm⟩ : ∃ m, n - k = m + 1 := ⟨n - k - 1, by omega⟩
  rw [show n - k - 1 = m by omega, hm, List.replicate_succ]
  rfl
theorem wrow_eight (n r k : Nat) : wrow n r k 8 = wseq (k + 1) r ++ List.replicate (n - (k + 1)) 0 := by
  unfold wrow
  rw [wpart_eight, wseq_succ, List.append_assoc]
  rfl
/-- the first register of a channel -/
def wfirst (c : Int) : Nat := (64 + min (max c 0) 39).toNat
theorem wfirst_ge (c : Int) : 64 ≤ wfirst c := by unfold wfirst; omega
theorem wfirst_lt (c : Int) : wfirst c < 128 := by unfold wfirst; omega
/-- as many steps as are made -/
def wcut (n : Int) : Nat := (min (max n 0) 524288).toNat
theorem wcut_le (n : Int) : wcut n ≤ 524288 := by unfold wcut; omega
/-- the register of a channel behind n bits -/
def wstate (c n : Int) : Nat := wit (wcut n) (wfirst c)
theorem wstate_lt (c n : Int) : wstate c n < 128 := wit_lt _ _ (wfirst_lt c)
/-- bytes combined with the sequence -/
def wapply (c : Int) (l : List Nat) : List Nat := List.zipWith (· ^^^ ·) l (wseq l.length (wfirst c))
theorem wapply_length (c : Int) (l : List Nat) : (wapply c l).length = l.length := by simp [wapply, wseq_length]
theorem wseq_bytes (n r : Nat) (h : r < 128) : ∀ x ∈ wseq n r, x < 256 := by
  induction n generalizing r with
  | zero => simp [wseq]
  | succ n ih =>
    intro x hx
    simp only [wseq, List.mem_cons] at hx
    rcases hx with rfl | hx
    · exact wby_lt r h
    · exact ih _ (wit_lt 8 r h) x hx
theorem wapply_get (c : Int) (l : List Nat) (k x y : Nat) (h : l[k]? = some x) (h' : (wseq l.length (wfirst c))[k]? = some y) : (wapply c l)[k]? = some (x ^^^ y) := by
  simp [wapply, List.getElem?_zipWith, h, h']
theorem wseq_some (n c k : Nat) (h : k < n) : ∃ y, (wseq n c)[k]? = some y := ⟨_, List.getElem?_eq_getElem (by rw [wseq_length]; exact h)⟩
theorem wapply_bytes (c : Int) (l : List Nat) (hl : ∀ x ∈ l, x < 256) : ∀ x ∈ wapply c l, x < 256 := by
  intro x hx
  obtain ⟨k, hk⟩ := List.mem_iff_getElem?.1 hx
  have hkl : k < l.length := by
    have := (List.getElem?_eq_some_iff.1 hk).1
    rwa [wapply_length] at this
  obtain ⟨y, hy⟩ := wseq_some l.length (wfirst c) k hkl
  have hv : l[k]? = some l[k] := List.getElem?_eq_getElem hkl
  rw [wapply_get c l k _ _ hv hy] at hk
  injection hk with hk
  rw [← hk]
  exact Nat.xor_lt_two_pow (n := 8) (hl _ (List.mem_of_getElem? hv)) (wseq_bytes _ _ (wfirst_lt c) _ (List.mem_of_getElem? hy))
theorem zipx_twice (a b : List Nat) (h : a.length = b.length) : List.zipWith (· ^^^ ·) (List.zipWith (· ^^^ ·) a b) b = a := by
  induction a generalizing b with
  | nil => simp
  | cons x a ih =>
    cases b with
    | nil => simp at h
    | cons y b => simp only [List.zipWith_cons_cons, Nat.xor_assoc, Nat.xor_self, Nat.xor_zero]; rw [ih b (by simpa using h)]
theorem wapply_twice (c : Int) (l : List Nat) : wapply c (wapply c l) = l := by
  unfold wapply
  rw [show (List.zipWith (· ^^^ ·) l (wseq l.length (wfirst c))).length = l.length by simp [wseq_length], zipx_twice _ _ (by rw [wseq_length])]
theorem wapply_take (c : Int) (l : List Nat) (n : Nat) (h : n ≤ l.length) : wapply c (l.take n) = (wapply c l).take n := by
  unfold wapply
  rw [List.take_zipWith, List.length_take, Nat.min_eq_left h, wseq_take _ _ _ h]
end Go.Proofs.YtgaecbpkfppeeaaDoor.Wh
