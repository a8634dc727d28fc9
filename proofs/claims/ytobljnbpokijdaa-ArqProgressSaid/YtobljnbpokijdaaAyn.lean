/-
  The plain law of ArqOnce: from one side to the other packets arrive once and in order. Lists and numbers only.
-/
import Derived.Test.YtobljnbpokijdaaAyb
namespace Go.Proofs.Ytobljnbpokijdaa
set_option linter.unusedVariables false
set_option linter.unusedSimpArgs false

/-- A packet that Queue takes. -/
def Good (p : Pkt) : Prop := dblank p.1 p.2.length = false ∧ dpk p.1 p.2.length = 0
/-- From side a to side b: Q was queued, G was got; k packets are acknowledged. -/
structure Dir (a b : St) (Q G : List Pkt) (k : Nat) : Prop where
  good : ∀ p ∈ Q, Good p
  k0 : k ≤ Q.length
  ack : a.ack = (k : Int)
  q : a.q = Q.drop k
  tak : b.tak = (G.length : Int)
  len : G.length ≤ Q.length
  pre : G = Q.take G.length
  sn : dok a.sn = true
  ne : dok b.ne = true
  em : a.op = true → a.em = false → a.q ≠ []
  st : (b.ne = a.sn ∧ G.length = k) ∨ (b.ne = 1 - a.sn ∧ a.op = true ∧ ((a.em = true ∧ G.length = k) ∨ (a.em = false ∧ G.length = k + 1)))
theorem dok_flip {x : Int} (h : dok x = true) : dok (1 - x) = true := by
  unfold dok at *
  simp only [Bool.or_eq_true, beq_iff_eq] at *
  omega
theorem dok_cases {x : Int} (h : dok x = true) : x = 0 ∨ x = 1 := by
  unfold dok at h
  simpa using h
theorem smd_ok (E : Bool) (k : Nat) : dok (smd E k) = true := by
  unfold smd
  generalize (if E then k else k - 1) = j
  by_cases h : 0 < j
  · rw [if_pos h]; rfl
  · rw [if_neg h]; rfl
theorem Dir.start : Dir ⟨0, 0, [], false, false, 0, 0⟩ ⟨0, 0, [], false, false, 0, 0⟩ [] [] 0 :=
  ⟨by simp, Nat.le_refl _, rfl, rfl, rfl, Nat.le_refl _, rfl, rfl, rfl, by simp, .inl ⟨rfl, rfl⟩⟩
theorem good_of {p : Pkt} {m : Nat} (h : qerr p.1 p.2.length m = 0) : Good p := by
  rcases qerr_cases p.1 p.2.length m with h1 | h1 | h1 | h1 | h1
  · omega
  · omega
  · omega
  · omega
  · exact ⟨h1.1, h1.2.2.1⟩
/-- A packet is queued on the sending side. -/
theorem Dir.queue {a b : St} {Q G : List Pkt} {k : Nat} (h : Dir a b Q G k) (p : Pkt) : Dir (qst a p) b (if qerr p.1 p.2.length a.q.length = 0 then Q ++ [p] else Q) G k := by
  unfold qst qadd
  by_cases he : qerr p.1 p.2.length a.q.length = 0
  · rw [if_pos he, if_pos he]
    refine ⟨fun x hx => ?_, by have := h.k0; simp; omega, h.ack, ?_, h.tak, by have := h.len; simp; omega, ?_, h.sn, h.ne, fun _ _ => by simp, h.st⟩
    · rcases List.mem_append.1 hx with hx | hx
      · exact h.good x hx
      · rw [List.mem_singleton.1 hx]; exact good_of he
    · show a.q ++ [p] = _
      rw [h.q, List.drop_append_of_le_length h.k0]
    · rw [List.take_append_of_le_length h.len]; exact h.pre
  · rw [if_neg he, if_neg he]
    exact ⟨h.good, h.k0, h.ack, h.q, h.tak, h.len, h.pre, h.sn, h.ne, h.em, h.st⟩
/-- .. on the receiving side: nothing turns. -/
theorem Dir.queue2 {a b : St} {Q G : List Pkt} {k : Nat} (h : Dir a b Q G k) (p : Pkt) : Dir a (qst b p) Q G k :=
  ⟨h.good, h.k0, h.ack, h.q, h.tak, h.len, h.pre, h.sn, h.ne, h.em, h.st⟩
theorem Dir.send {a b : St} {Q G : List Pkt} {k : Nat} (h : Dir a b Q G k) : Dir (sst a) b Q G k := by
  refine ⟨h.good, h.k0, h.ack, h.q, h.tak, h.len, h.pre, h.sn, h.ne, fun _ he => ?_, ?_⟩
  · unfold sst sem at he ⊢
    simp only at he ⊢
    cases ho : a.op with
    | true => rw [ho] at he; exact h.em ho he
    | false =>
      rw [ho] at he
      simp only [Bool.false_eq_true, if_false, beq_eq_false_iff_ne] at he
      intro e
      rw [e] at he
      simp at he
  · rcases h.st with h1 | ⟨h1, h2, h3⟩
    · exact .inl h1
    · refine .inr ⟨h1, rfl, ?_⟩
      unfold sst sem
      simp only [h2, if_true]
      exact h3
theorem Dir.send2 {a b : St} {Q G : List Pkt} {k : Nat} (h : Dir a b Q G k) : Dir a (sst b) Q G k :=
  ⟨h.good, h.k0, h.ack, h.q, h.tak, h.len, h.pre, h.sn, h.ne, h.em, h.st⟩
/-- What an open side sends is taken by Check. -/
theorem Dir.valid {a b : St} {Q G : List Pkt} {k : Nat} (h : Dir a b Q G k) (ho : a.op = true) : dpk (spk a.em a.q).1 (spk a.em a.q).2.length = 0 ∧ (a.em = false → dblank (spk a.em a.q).1 (spk a.em a.q).2.length = false ∧ k < Q.length ∧ Q[k]? = some (spk a.em a.q)) ∧ (a.em = true → dblank (spk a.em a.q).1 (spk a.em a.q).2.length = true) := by
  cases he : a.em with
  | true =>
    unfold spk
    exact ⟨rfl, by simp, fun _ => rfl⟩
  | false =>
    have hq := h.em ho he
    obtain ⟨x, l, hx⟩ : ∃ x l, a.q = x :: l := by
      cases hq' : a.q with
      | nil => exact absurd hq' hq
      | cons x l => exact ⟨x, l, rfl⟩
    have hk : Q.drop k = x :: l := by rw [← h.q, hx]
    have hlt : k < Q.length := by
      rcases Nat.lt_or_ge k Q.length with h1 | h1
      · exact h1
      · rw [List.drop_eq_nil_of_le h1] at hk; cases hk
    have hg : Q[k]? = some x := by
      have := congrArg (fun t : List Pkt => t[0]?) hk
      simpa using this
    have hgood := h.good x (List.mem_of_getElem? hg)
    have hs : spk false a.q = x := by unfold spk; rw [hx]; rfl
    rw [hs]
    exact ⟨hgood.2, fun _ => ⟨hgood.1, hlt, hg⟩, by simp⟩
/-- The other side receives what this side sends. -/
theorem Dir.recv {a b : St} {Q G : List Pkt} {k : Nat} (h : Dir a b Q G k) (ho : a.op = true) (ne md : Int) (hne : dok ne = true) (hmd : dok md = true) :
    Dir a (tst b a.sn ne md (spk a.em a.q)) Q (if tstF b a.sn ne md (spk a.em a.q) = true then G ++ [spk a.em a.q] else G) k := by
  obtain ⟨v1, v2, v3⟩ := h.valid ho
  have hc : dchk a.sn ne md (spk a.em a.q).1 (spk a.em a.q).2.length = 0 := by rw [dchk_ok h.sn hne hmd]; exact v1
  have e1 : tst b a.sn ne md (spk a.em a.q) = tk2 (tk1 b ne) a.sn (spk a.em a.q).1 (spk a.em a.q).2.length := by unfold tst; rw [if_pos hc]
  have e2 : tstF b a.sn ne md (spk a.em a.q) = tkF (tk1 b ne) a.sn (spk a.em a.q).1 (spk a.em a.q).2.length := by unfold tstF; rw [if_pos hc]
  rw [e1, e2]
  have n1 : (tk1 b ne).ne = b.ne := rfl
  have n2 : (tk1 b ne).tak = b.tak := rfl
  generalize tk1 b ne = t at n1 n2
  have hs := dok_cases h.sn
  have hb := dok_cases h.ne
  rcases h.st with ⟨h1, h2⟩ | ⟨h1, h2, h3⟩
  · -- it was not received
    have hne1 : b.ne = t.ne := n1.symm
    have hn : (tk2 t a.sn (spk a.em a.q).1 (spk a.em a.q).2.length).ne = 1 - a.sn := by unfold tk2; simp only [n1, h1]; rw [if_pos (by simp)]
    cases he : a.em with
    | true =>
      have hF : tkF t a.sn (spk true a.q).1 (spk true a.q).2.length = false := by unfold tkF; rw [show dblank (spk true a.q).1 (spk true a.q).2.length = true from rfl]; simp
      rw [he] at hn
      refine ⟨h.good, h.k0, h.ack, h.q, ?_, ?_, ?_, h.sn, by rw [hn]; exact dok_flip h.sn, h.em, .inr ⟨hn, ho, .inl ⟨he, ?_⟩⟩⟩
      · simp only [hF, Bool.false_eq_true, if_false]; unfold tk2; simp only [hF, Bool.false_eq_true, if_false, n2]; exact h.tak
      · simp only [hF, Bool.false_eq_true, if_false]; exact h.len
      · simp only [hF, Bool.false_eq_true, if_false]; exact h.pre
      · simp only [hF, Bool.false_eq_true, if_false]; exact h2
    | false =>
      rw [he] at v2 hn
      obtain ⟨w1, w2, w3⟩ := v2 rfl
      have hF : tkF t a.sn (spk false a.q).1 (spk false a.q).2.length = true := by unfold tkF; rw [w1, n1, h1]; simp
      refine ⟨h.good, h.k0, h.ack, h.q, ?_, ?_, ?_, h.sn, by rw [hn]; exact dok_flip h.sn, h.em, .inr ⟨hn, ho, .inr ⟨he, ?_⟩⟩⟩
      · simp only [hF, if_true]; unfold tk2; simp only [hF, if_true, n2, h.tak]; simp
      · simp only [hF, if_true, List.length_append, List.length_singleton]; omega
      · simp only [hF, if_true, List.length_append, List.length_singleton]
        rw [h2, List.take_add_one, w3]
        have := h.pre
        rw [h2] at this
        rw [← this]
        rfl
      · simp only [hF, if_true, List.length_append, List.length_singleton]; omega
  · -- it was received before
    have hne' : (a.sn == t.ne) = false := by rw [beq_eq_false_iff_ne, n1, h1]; omega
    have hF : tkF t a.sn (spk a.em a.q).1 (spk a.em a.q).2.length = false := by unfold tkF; rw [hne']; rfl
    have hn : (tk2 t a.sn (spk a.em a.q).1 (spk a.em a.q).2.length).ne = b.ne := by unfold tk2; simp only [hne', Bool.false_eq_true, if_false]; exact n1
    have ht : (tk2 t a.sn (spk a.em a.q).1 (spk a.em a.q).2.length).tak = b.tak := by unfold tk2; simp only [hF, Bool.false_eq_true, if_false]; exact n2
    rw [hF]
    simp only [Bool.false_eq_true, if_false]
    exact ⟨h.good, h.k0, h.ack, h.q, by rw [ht]; exact h.tak, h.len, h.pre, h.sn, by rw [hn]; exact h.ne, h.em, .inr ⟨by rw [hn]; exact h1, h2, h3⟩⟩
/-- .. and this side hears of it: what it had sent is acknowledged, or not. -/
theorem Dir.heard {a b : St} {Q G : List Pkt} {k : Nat} (h : Dir a b Q G k) (sn md : Int) (p : Pkt) : ∃ k', k ≤ k' ∧ Dir (tst a sn b.ne md p) b Q G k' := by
  unfold tst
  split
  · have hs := dok_cases h.sn
    by_cases hA : tkA a b.ne = true
    · have hA' := hA
      unfold tkA at hA'
      simp only [Bool.and_eq_true, bne_iff_ne] at hA'
      obtain ⟨ho, hne⟩ := hA'
      rcases h.st with ⟨h1, h2⟩ | ⟨h1, _, h3⟩
      · exact absurd h1 hne
      · have hsn : (tk2 (tk1 a b.ne) sn p.1 p.2.length).sn = 1 - a.sn := by unfold tk2 tk1; simp only [hA, if_true]
        have hop : (tk2 (tk1 a b.ne) sn p.1 p.2.length).op = false := by unfold tk2 tk1; simp [hA]
        rcases h3 with ⟨he, h4⟩ | ⟨he, h4⟩
        · have hP : tkP a b.ne = false := by unfold tkP; rw [he]; simp
          refine ⟨k, Nat.le_refl _, h.good, h.k0, ?_, ?_, h.tak, h.len, h.pre, by rw [hsn]; exact dok_flip h.sn, h.ne, (fun e => by rw [hop] at e; cases e), .inl ⟨by rw [hsn]; exact h1, h4⟩⟩
          · unfold tk2 tk1; simp only [hP, Bool.false_eq_true, if_false]; exact h.ack
          · unfold tk2 tk1; simp only [hP, Bool.false_eq_true, if_false]; exact h.q
        · have hq := h.em ho he
          have hlen : 0 < a.q.length := List.length_pos_iff.2 hq
          have hP : tkP a b.ne = true := by unfold tkP; rw [hA, he]; simpa using hlen
          refine ⟨k + 1, by omega, h.good, by have := h.len; omega, ?_, ?_, h.tak, h.len, h.pre, by rw [hsn]; exact dok_flip h.sn, h.ne, (fun e => by rw [hop] at e; cases e), .inl ⟨by rw [hsn]; exact h1, h4⟩⟩
          · unfold tk2 tk1; simp only [hP, if_true, h.ack]; simp
          · unfold tk2 tk1; simp only [hP, if_true, h.q]; simp
    · have hA0 : tkA a b.ne = false := by simpa using hA
      have e1 : tk1 a b.ne = a := tk1_no hA0
      rw [e1]
      exact ⟨k, Nat.le_refl _, h.good, h.k0, h.ack, h.q, h.tak, h.len, h.pre, h.sn, h.ne, h.em, h.st⟩
  · exact ⟨k, Nat.le_refl _, h⟩
/-- Both directions. -/
def Inv (E : En) : Prop := (∃ k, Dir (E.s 0) (E.s 1) (E.r 0) (E.r 3) k) ∧ ∃ k, Dir (E.s 1) (E.s 0) (E.r 1) (E.r 2) k
theorem Inv.start : Inv ⟨fun _ => ⟨0, 0, [], false, false, 0, 0⟩, fun _ => []⟩ := ⟨⟨0, Dir.start⟩, ⟨0, Dir.start⟩⟩
theorem sst_sn (s : St) : (sst s).sn = s.sn ∧ (sst s).ne = s.ne ∧ (sst s).q = s.q ∧ (sst s).op = true := ⟨rfl, rfl, rfl, rfl⟩
theorem Inv.mv {E : En} (h : Inv E) (d : Int) (lost : Bool) (p : Pkt) : Inv (mv E d lost p) := by
  obtain ⟨⟨k0, h0⟩, ⟨k1, h1⟩⟩ := h
  unfold Proofs.Ytobljnbpokijdaa.mv
  split
  · refine ⟨⟨k0, ?_⟩, ⟨k1, ?_⟩⟩
    · have := h0.queue p
      unfold enQ
      simp only [upd_at, upd_ne _ _ (show (1 : Nat) ≠ 0 by decide)]
      split
      · rename_i he; rw [if_pos he] at this; simpa [upd] using this
      · rename_i he; rw [if_neg he] at this; simpa [upd] using this
    · have := h1.queue2 p
      unfold enQ
      simp only [upd_at, upd_ne _ _ (show (1 : Nat) ≠ 0 by decide)]
      split <;> simpa [upd] using this
  split
  · refine ⟨⟨k0, ?_⟩, ⟨k1, ?_⟩⟩
    · have := h0.queue2 p
      unfold enQ
      simp only [upd_at, upd_ne _ _ (show (0 : Nat) ≠ 1 by decide)]
      split <;> simpa [upd] using this
    · have := h1.queue p
      unfold enQ
      simp only [upd_at, upd_ne _ _ (show (0 : Nat) ≠ 1 by decide)]
      split
      · rename_i he; rw [if_pos he] at this; simpa [upd] using this
      · rename_i he; rw [if_neg he] at this; simpa [upd] using this
  split
  · unfold mvS
    split
    · exact ⟨⟨k0, by simpa [enS, upd] using h0.send⟩, ⟨k1, by simpa [enS, upd] using h1.send2⟩⟩
    · have g0 := h0.send.recv rfl (E.s 0).ne (smd (sst (E.s 0)).em (E.s 0).q.length) h1.ne (smd_ok _ _)
      obtain ⟨k', _, g1⟩ := h1.send2.heard (E.s 0).sn (smd (sst (E.s 0)).em (E.s 0).q.length) (spk (sst (E.s 0)).em (E.s 0).q)
      simp only [sst_sn] at g0 g1
      unfold enT enS
      simp only [upd_at, upd_ne _ _ (show (1 : Nat) ≠ 0 by decide)]
      cases hF : tstF (E.s 1) (E.s 0).sn (E.s 0).ne (smd (sst (E.s 0)).em (E.s 0).q.length) (spk (sst (E.s 0)).em (E.s 0).q) with
      | true =>
        rw [hF] at g0
        exact ⟨⟨k0, by simpa [upd] using g0⟩, ⟨k', by simpa [upd] using g1⟩⟩
      | false =>
        rw [hF] at g0
        exact ⟨⟨k0, by simpa [upd] using g0⟩, ⟨k', by simpa [upd] using g1⟩⟩
  split
  · unfold mvS
    split
    · exact ⟨⟨k0, by simpa [enS, upd] using h0.send2⟩, ⟨k1, by simpa [enS, upd] using h1.send⟩⟩
    · have g1 := h1.send.recv rfl (E.s 1).ne (smd (sst (E.s 1)).em (E.s 1).q.length) h0.ne (smd_ok _ _)
      obtain ⟨k', _, g0⟩ := h0.send2.heard (E.s 1).sn (smd (sst (E.s 1)).em (E.s 1).q.length) (spk (sst (E.s 1)).em (E.s 1).q)
      simp only [sst_sn] at g0 g1
      unfold enT enS
      simp only [upd_at, upd_ne _ _ (show (0 : Nat) ≠ 1 by decide)]
      cases hF : tstF (E.s 0) (E.s 1).sn (E.s 1).ne (smd (sst (E.s 1)).em (E.s 1).q.length) (spk (sst (E.s 1)).em (E.s 1).q) with
      | true =>
        rw [hF] at g1
        exact ⟨⟨k', by simpa [upd] using g0⟩, ⟨k1, by simpa [upd] using g1⟩⟩
      | false =>
        rw [hF] at g1
        exact ⟨⟨k', by simpa [upd] using g0⟩, ⟨k1, by simpa [upd] using g1⟩⟩
  · exact ⟨⟨k0, h0⟩, ⟨k1, h1⟩⟩
end Go.Proofs.Ytobljnbpokijdaa
