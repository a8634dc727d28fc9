/-
  The plain law of ArqProgress: without losses each exchange delivers one packet and acknowledges it.
-/
import Derived.Test.YtobljnbpokijdaaAyn
namespace Go.Proofs.Ytobljnbpokijdaa
set_option linter.unusedVariables false
set_option linter.unusedSimpArgs false

/-- Q was queued on side 0; i packets are delivered and acknowledged. -/
structure PrE (E : En) (Q : List Pkt) (i : Nat) (σ : Int) : Prop where
  sg : σ = 0 ∨ σ = 1
  s0 : E.s 0 = ⟨σ, σ, Q.drop i, false, false, (i : Int), 0⟩
  s1 : E.s 1 = ⟨σ, σ, [], false, false, 0, (i : Int)⟩ ∨ E.s 1 = ⟨1 - σ, σ, [], true, true, 0, (i : Int)⟩
  r0 : E.r 0 = Q
  r2 : E.r 2 = []
  r3 : E.r 3 = Q.take i
  good : ∀ p ∈ Q, Good p
theorem PrE.queue {E : En} {Q : List Pkt} (h : PrE E Q 0 0) (p : Pkt) : PrE (enQ E 0 p) (if qerr p.1 p.2.length Q.length = 0 then Q ++ [p] else Q) 0 0 := by
  have hs := h.s0
  have hq : (E.s 0).q = Q := by rw [hs]; simp
  unfold enQ
  rw [hq]
  by_cases he : qerr p.1 p.2.length Q.length = 0
  · rw [if_pos he, if_pos he]
    refine ⟨.inl rfl, ?_, ?_, ?_, ?_, ?_, fun x hx => ?_⟩
    · simp only [upd_at]; unfold qst qadd; rw [hq, if_pos he, hs]; simp
    · simpa [upd] using h.s1
    · simp only [upd_at, h.r0]
    · simpa [upd] using h.r2
    · simpa [upd] using h.r3
    · rcases List.mem_append.1 hx with hx | hx
      · exact h.good x hx
      · rw [List.mem_singleton.1 hx]; exact good_of he
  · rw [if_neg he, if_neg he]
    refine ⟨.inl rfl, ?_, ?_, h.r0, h.r2, h.r3, h.good⟩
    · simp only [upd_at]; unfold qst qadd; rw [hq, if_neg he, hs]; simp
    · simpa [upd] using h.s1
theorem PrE.step {E : En} {Q : List Pkt} {i : Nat} {σ : Int} (h : PrE E Q i σ) (hi : i < Q.length) : PrE (mvS (mvS E 0 1 false) 1 0 false) Q (i + 1) (1 - σ) := by
  obtain ⟨x, l, hx⟩ : ∃ x l, Q.drop i = x :: l := by
    cases hd : Q.drop i with
    | nil => have := congrArg List.length hd; simp at this; omega
    | cons x l => exact ⟨x, l, rfl⟩
  have hg : Q[i]? = some x := by
    have := congrArg (fun t : List Pkt => t[0]?) hx
    simpa using this
  have hl : Q.drop (i + 1) = l := by
    rw [show i + 1 = i + 1 from rfl, ← List.drop_drop, hx]
    rfl
  have ht : Q.take (i + 1) = Q.take i ++ [x] := by rw [List.take_add_one, hg]; rfl
  obtain ⟨hb, hk⟩ := h.good x (List.mem_of_getElem? hg)
  have hs0 := h.s0
  rw [hx] at hs0
  have hb1 : dblank 1 0 = true := rfl
  have hk1 : dpk 1 0 = 0 := rfl
  -- side 0 has sent, side 1 has received
  have e1 : mvS E 0 1 false = ⟨upd (upd E.s 0 ⟨σ, σ, x :: l, true, false, (i : Int), 0⟩) 1 ⟨σ, 1 - σ, [], false, false, 0, (i : Int) + 1⟩, upd E.r 3 (Q.take i ++ [x])⟩ := by
    unfold mvS enT enS
    simp only [Bool.false_eq_true, if_false, hs0, upd_at, upd_ne _ _ (show (1 : Nat) ≠ 0 by decide)]
    have hss : sst ⟨σ, σ, x :: l, false, false, (i : Int), 0⟩ = ⟨σ, σ, x :: l, true, false, (i : Int), 0⟩ := by
      unfold sst sem
      simp
      omega
    rw [hss]
    have hsp : spk false (x :: l) = x := rfl
    simp only [hsp]
    have hc : ∀ md, dok md = true → dchk σ σ md x.1 x.2.length = 0 := fun md hmd => by
      rw [dchk_ok (by rcases h.sg with e | e <;> rw [e] <;> rfl) (by rcases h.sg with e | e <;> rw [e] <;> rfl) hmd]; exact hk
    have hmd := smd_ok false (x :: l).length
    have hT : tst (E.s 1) σ σ (smd false (x :: l).length) x = ⟨σ, 1 - σ, [], false, false, 0, (i : Int) + 1⟩ ∧ tstF (E.s 1) σ σ (smd false (x :: l).length) x = true := by
      unfold tst tstF
      rw [if_pos (hc _ hmd), if_pos (hc _ hmd)]
      rcases h.s1 with e | e
      · rw [e]; constructor <;> simp [tk2, tk1, tkA, tkP, tkF, hb]
      · rw [e]; rcases h.sg with e' | e' <;> subst e' <;> constructor <;> simp [tk2, tk1, tkA, tkP, tkF, hb]
    rw [hT.1, hT.2, if_pos rfl]
    simp [upd, h.r3]
  rw [e1]
  unfold mvS enT enS
  simp only [Bool.false_eq_true, if_false, upd_at, upd_ne _ _ (show (0 : Nat) ≠ 1 by decide)]
  have hss : sst ⟨σ, 1 - σ, [], false, false, 0, (i : Int) + 1⟩ = ⟨σ, 1 - σ, [], true, true, 0, (i : Int) + 1⟩ := by
    unfold sst sem
    simp
  rw [hss]
  have hsp : spk true ([] : List Pkt) = (1, []) := rfl
  have hmd2 : smd true ([] : List Pkt).length = 0 := rfl
  simp only [hsp, hmd2]
  have hc2 : dchk σ (1 - σ) 0 1 ([] : List Nat).length = 0 := by
    rw [dchk_ok (by rcases h.sg with e | e <;> rw [e] <;> rfl) (by rcases h.sg with e | e <;> rw [e] <;> rfl) rfl]; exact hk1
  have hT2 : tst ⟨σ, σ, x :: l, true, false, (i : Int), 0⟩ σ (1 - σ) 0 (1, []) = ⟨1 - σ, 1 - σ, l, false, false, (i : Int) + 1, 0⟩ ∧ tstF ⟨σ, σ, x :: l, true, false, (i : Int), 0⟩ σ (1 - σ) 0 (1, []) = false := by
    unfold tst tstF
    rw [if_pos hc2, if_pos hc2]
    rcases h.sg with e' | e' <;> subst e' <;> constructor <;> simp [tk2, tk1, tkA, tkP, tkF, hb1]
  rw [hT2.1, hT2.2, if_neg (by decide)]
  refine ⟨by rcases h.sg with e | e <;> rw [e] <;> simp, ?_, .inr ?_, ?_, ?_, ?_, h.good⟩
  · simp [upd, hl]
  · simp [upd]; omega
  · simpa [upd] using h.r0
  · simpa [upd] using h.r2
  · simp [upd, ht]
end Go.Proofs.Ytobljnbpokijdaa
