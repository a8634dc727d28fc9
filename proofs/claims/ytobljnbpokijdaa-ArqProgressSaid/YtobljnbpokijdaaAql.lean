/-
  Sides as plain states: what Queue, Send and Take make of a side, in the program and in the reference. The contracts once more, over such states.
-/
import Derived.Test.YtobljnbpokijdaaAqk
namespace Go.Proofs.Ytobljnbpokijdaa
set_option linter.unusedVariables false
set_option linter.unusedSimpArgs false
open Go.RowKit

/-- A side with a packet more; after it sent; after it received a PDU. -/
def qst (s : St) (p : Pkt) : St := ⟨s.sn, s.ne, qadd s.q p, s.op, s.em, s.ack, s.tak⟩
def sst (s : St) : St := ⟨s.sn, s.ne, s.q, true, sem s.op s.em s.q.length, s.ack, s.tak⟩
def tst (s : St) (sn ne md : Int) (p : Pkt) : St := if dchk sn ne md p.1 p.2.length = 0 then tk2 (tk1 s ne) sn p.1 p.2.length else s
def tstF (s : St) (sn ne md : Int) (p : Pkt) : Bool := if dchk sn ne md p.1 p.2.length = 0 then tkF (tk1 s ne) sn p.1 p.2.length else false
def tstA (s : St) (sn ne md : Int) (p : Pkt) : Bool := if dchk sn ne md p.1 p.2.length = 0 then tkA s ne else false
/-- A side as it comes about: bits, and counters that are small. -/
structure Ok (k : Nat) (s : St) : Prop where
  sn0 : 0 ≤ s.sn
  sn1 : s.sn ≤ 1
  ne0 : 0 ≤ s.ne
  ne1 : s.ne ≤ 1
  ack0 : 0 ≤ s.ack
  ack1 : s.ack ≤ (k : Int)
  tak0 : 0 ≤ s.tak
  tak1 : s.tak ≤ (k : Int)
  len : s.q.length ≤ 64
theorem qadd_len {q : List Pkt} {p : Pkt} (h : q.length ≤ 64) : (qadd q p).length ≤ 64 := by
  unfold qadd
  split
  · rename_i hq
    unfold qerr at hq
    split at hq
    · omega
    · split at hq
      · omega
      · simp; omega
  · exact h
theorem Ok.qst {k : Nat} {s : St} (h : Ok k s) (p : Pkt) : Ok k (qst s p) := ⟨h.sn0, h.sn1, h.ne0, h.ne1, h.ack0, h.ack1, h.tak0, h.tak1, qadd_len h.len⟩
theorem Ok.sst {k : Nat} {s : St} (h : Ok k s) : Ok k (sst s) := ⟨h.sn0, h.sn1, h.ne0, h.ne1, h.ack0, h.ack1, h.tak0, h.tak1, h.len⟩
theorem Ok.mono {k j : Nat} {s : St} (h : Ok k s) (hk : k ≤ j) : Ok j s := ⟨h.sn0, h.sn1, h.ne0, h.ne1, h.ack0, by have := h.ack1; omega, h.tak0, by have := h.tak1; omega, h.len⟩
theorem Ok.tst {k : Nat} {s : St} (h : Ok k s) (sn ne md : Int) (p : Pkt) : Ok (k + 1) (tst s sn ne md p) := by
  unfold Proofs.Ytobljnbpokijdaa.tst
  split
  · have h1 := h.sn0; have h2 := h.sn1; have h3 := h.ne0; have h4 := h.ne1; have h5 := h.ack0; have h6 := h.ack1; have h7 := h.tak0; have h8 := h.tak1; have h9 := h.len
    unfold tk2 tk1
    refine ⟨?_, ?_, ?_, ?_, ?_, ?_, ?_, ?_, ?_⟩
    all_goals simp only
    all_goals (try split)
    all_goals (try simp only [List.length_drop])
    all_goals omega
  · exact h.mono (by omega)
theorem sst_md (s : St) (h : s.q.length ≤ 64) : 0 ≤ smd (sst s).em s.q.length ∧ smd (sst s).em s.q.length ≤ 1 := by
  unfold smd
  split <;> omega
section
variable (s : St) (Q : Option Addr) (m cap : Nat) (qs : List Pk) (w : World)
theorem queueS (p : Pk) (hQ : Has w Q m cap qs s.q) (hl : s.q.length ≤ 64) (hp : Pay w p) :
    Calls Try.prog 11 #[.agg #[.int .i64 s.sn, .int .i64 s.ne, .slice Q m cap, .bool s.op, .bool s.em, .int .i64 s.ack, .int .i64 s.tak], .agg #[.int .i64 p.id, .slice p.A p.n p.c]] w fun e w' =>
      ∃ Q' m' cap' qs', e = .returned (.tuple #[.agg #[.int .i64 (qst s p.abs).sn, .int .i64 (qst s p.abs).ne, .slice Q' m' cap', .bool (qst s p.abs).op, .bool (qst s p.abs).em, .int .i64 (qst s p.abs).ack, .int .i64 (qst s p.abs).tak], .int .i64 ((qerr p.id p.l.length s.q.length : Nat) : Int)]) ∧ Fresh w.heap.size w' Q' m' cap' qs' (qst s p.abs).q ∧ Below w.heap.size w w' := by
  have hm : s.q.length = m := by rw [← hQ.abs, List.length_map, hQ.rd.len]
  refine (queue_any s.sn s.ne s.ack s.tak s.op s.em Q m cap qs p.id p.A p.n p.c p.l w hQ.rd (by omega) hp).mono ?_
  rintro e w' ⟨Q', m', cap', qs', rfl, h1, h2⟩
  rw [hQ.abs] at h1
  refine ⟨Q', m', cap', qs', ?_, h1, h2⟩
  rw [hm, hp.len]
  rfl
theorem rqueueS (p : Pk) (hQ : Has w Q m cap qs s.q) (hl : s.q.length ≤ 64) (hp : Pay w p) :
    Calls Try.prog 12 #[.agg #[.int .i64 s.sn, .int .i64 s.ne, .slice Q m cap, .bool s.op, .bool s.em, .int .i64 s.ack, .int .i64 s.tak], .agg #[.int .i64 p.id, .slice p.A p.n p.c]] w fun e w' =>
      ∃ Q' m' cap' qs', e = .returned (.tuple #[.agg #[.int .i64 (qst s p.abs).sn, .int .i64 (qst s p.abs).ne, .slice Q' m' cap', .bool (qst s p.abs).op, .bool (qst s p.abs).em, .int .i64 (qst s p.abs).ack, .int .i64 (qst s p.abs).tak], .int .i64 ((qerr p.id p.l.length s.q.length : Nat) : Int)]) ∧ Has w' Q' m' cap' qs' (qst s p.abs).q ∧ Loc w Q m Q' m' ∧ Below w.heap.size w w' := by
  have hm : s.q.length = m := by rw [← hQ.abs, List.length_map, hQ.rd.len]
  refine (rqueue_any s.sn s.ne s.ack s.tak s.op s.em Q m cap qs p.id p.A p.n p.c p.l w hQ.rd hQ.cap_ (by omega) hp).mono ?_
  rintro e w' ⟨Q', m', cap', qs', rfl, h1, hl', h2⟩
  rw [hQ.abs] at h1
  refine ⟨Q', m', cap', qs', ?_, h1, hl', h2⟩
  rw [hm, hp.len]
  rfl
theorem sendS (hQ : Has w Q m cap qs s.q) (hl : s.q.length ≤ 64) :
    Calls Try.prog 13 #[.agg #[.int .i64 s.sn, .int .i64 s.ne, .slice Q m cap, .bool s.op, .bool s.em, .int .i64 s.ack, .int .i64 s.tak]] w fun e w' =>
      ∃ Q' cap' qs' p, e = .returned (.tuple #[.agg #[.int .i64 (sst s).sn, .int .i64 (sst s).ne, .slice Q' m cap', .bool (sst s).op, .bool (sst s).em, .int .i64 (sst s).ack, .int .i64 (sst s).tak], .agg #[.int .i64 s.sn, .int .i64 s.ne, .int .i64 (smd (sst s).em s.q.length), .int .i64 p.id, .slice p.A p.n p.c]]) ∧ Fresh w.heap.size w' Q' m cap' qs' (sst s).q ∧ Own1 w.heap.size w' p ∧ p.abs = spk (sst s).em s.q ∧ Below w.heap.size w w' := by
  have hm : s.q.length = m := by rw [← hQ.abs, List.length_map, hQ.rd.len]
  refine (send_any s.sn s.ne s.ack s.tak s.op s.em Q m cap qs w hQ.rd (by omega)).mono ?_
  rintro e w' ⟨Q', cap', qs', p, rfl, h1, h2, h3, h4⟩
  rw [hQ.abs] at h1 h3
  rw [← hm] at h3
  refine ⟨Q', cap', qs', p, ?_, h1, h2, h3, h4⟩
  unfold sst
  simp only
  rw [hm]
theorem rsendS (hQ : Has w Q m cap qs s.q) (hl : s.q.length ≤ 64) :
    Calls Try.prog 14 #[.agg #[.int .i64 s.sn, .int .i64 s.ne, .slice Q m cap, .bool s.op, .bool s.em, .int .i64 s.ack, .int .i64 s.tak]] w fun e w' =>
      ∃ p : Pk, e = .returned (.tuple #[.agg #[.int .i64 (sst s).sn, .int .i64 (sst s).ne, .slice Q m cap, .bool (sst s).op, .bool (sst s).em, .int .i64 (sst s).ack, .int .i64 (sst s).tak], .agg #[.int .i64 s.sn, .int .i64 s.ne, .int .i64 (smd (sst s).em s.q.length), .int .i64 p.id, .slice p.A p.n p.c]]) ∧ Has w' Q m cap qs (sst s).q ∧ Pay w' p ∧ p.abs = spk (sst s).em s.q ∧ Below w.heap.size w w' := by
  have hm : s.q.length = m := by rw [← hQ.abs, List.length_map, hQ.rd.len]
  refine (rsend_any s.sn s.ne s.ack s.tak s.op s.em Q m cap qs w hQ.rd hQ.cap_ (by omega)).mono ?_
  rintro e w' ⟨p, rfl, h2, h3, h4⟩
  rw [hQ.abs] at h3
  rw [← hm] at h3
  refine ⟨p, ?_, hQ.below h4, h2, h3, h4⟩
  unfold sst
  simp only
  rw [hm]
theorem takeS (sn ne md : Int) (p : Pk) {k : Nat} (hk : k ≤ 100000) (hQ : Has w Q m cap qs s.q) (ho : Ok k s) (hp : Pay w p) :
    Calls Try.prog 16 #[.agg #[.int .i64 s.sn, .int .i64 s.ne, .slice Q m cap, .bool s.op, .bool s.em, .int .i64 s.ack, .int .i64 s.tak], .agg #[.int .i64 sn, .int .i64 ne, .int .i64 md, .int .i64 p.id, .slice p.A p.n p.c]] w fun e w' =>
      ∃ Q' m' cap' qs' g, e = .returned (.tuple #[.agg #[.int .i64 (tst s sn ne md p.abs).sn, .int .i64 (tst s sn ne md p.abs).ne, .slice Q' m' cap', .bool (tst s sn ne md p.abs).op, .bool (tst s sn ne md p.abs).em, .int .i64 (tst s sn ne md p.abs).ack, .int .i64 (tst s sn ne md p.abs).tak], .agg #[.int .i64 g.id, .slice g.A g.n g.c], .bool (tstF s sn ne md p.abs), .bool (tstA s sn ne md p.abs)]) ∧ Fresh w.heap.size w' Q' m' cap' qs' (tst s sn ne md p.abs).q ∧ Own1 w.heap.size w' g ∧ g.abs = tkG (tstF s sn ne md p.abs) p.id p.l ∧ Below w.heap.size w w' := by
  have hl := ho.len
  have hm : s.q.length = m := by rw [← hQ.abs, List.length_map, hQ.rd.len]
  have hpl : p.abs.2.length = p.n := hp.len
  have hpi : p.abs.1 = p.id := rfl
  by_cases hok : dchk sn ne md p.id p.n = 0
  · refine (take_yes s.sn s.ne s.ack s.tak s.op s.em Q m cap qs sn ne md p.id p.A p.n p.c p.l w hQ.rd (by omega) hp hok ho.sn0 ho.sn1 ho.ne0 ho.ne1 ho.ack0 (by have := ho.ack1; omega) ho.tak0 (by have := ho.tak1; omega)).mono ?_
    rintro e w' ⟨Q', m', cap', qs', g, rfl, h1, h2, h3, h4⟩
    rw [hQ.abs] at h1 h3
    have e1 : tst s sn ne md p.abs = tk2 (tk1 s ne) sn p.id p.n := by unfold tst; rw [hpl, hpi, if_pos hok]
    have e2 : tstF s sn ne md p.abs = tkF (tk1 s ne) sn p.id p.n := by unfold tstF; rw [hpl, hpi, if_pos hok]
    have e3 : tstA s sn ne md p.abs = tkA s ne := by unfold tstA; rw [hpl, hpi, if_pos hok]
    rw [e1, e2, e3]
    refine ⟨Q', m', cap', qs', g, ?_, h1, h2, h3, h4⟩
    rw [hQ.abs]
  · refine (take_no s.sn s.ne s.ack s.tak s.op s.em Q m cap qs sn ne md p.id p.A p.n p.c p.l w hQ.rd (by omega) hp hok).mono ?_
    rintro e w' ⟨Q', cap', qs', rfl, h1, h4⟩
    rw [hQ.abs] at h1
    have e1 : tst s sn ne md p.abs = s := by unfold tst; rw [hpl, hpi, if_neg hok]
    have e2 : tstF s sn ne md p.abs = false := by unfold tstF; rw [hpl, hpi, if_neg hok]
    have e3 : tstA s sn ne md p.abs = false := by unfold tstA; rw [hpl, hpi, if_neg hok]
    rw [e1, e2, e3]
    exact ⟨Q', m, cap', qs', ⟨0, none, 0, 0, []⟩, rfl, h1, own1_blank _ _ _, rfl, h4⟩
theorem rtakeS (sn ne md : Int) (p : Pk) {k : Nat} (hk : k ≤ 100000) (hQ : Has w Q m cap qs s.q) (ho : Ok k s) (hp : Pay w p) :
    Calls Try.prog 17 #[.agg #[.int .i64 s.sn, .int .i64 s.ne, .slice Q m cap, .bool s.op, .bool s.em, .int .i64 s.ack, .int .i64 s.tak], .agg #[.int .i64 sn, .int .i64 ne, .int .i64 md, .int .i64 p.id, .slice p.A p.n p.c]] w fun e w' =>
      ∃ Q' m' cap' qs' g, e = .returned (.tuple #[.agg #[.int .i64 (tst s sn ne md p.abs).sn, .int .i64 (tst s sn ne md p.abs).ne, .slice Q' m' cap', .bool (tst s sn ne md p.abs).op, .bool (tst s sn ne md p.abs).em, .int .i64 (tst s sn ne md p.abs).ack, .int .i64 (tst s sn ne md p.abs).tak], .agg #[.int .i64 g.id, .slice g.A g.n g.c], .bool (tstF s sn ne md p.abs), .bool (tstA s sn ne md p.abs)]) ∧ Has w' Q' m' cap' qs' (tst s sn ne md p.abs).q ∧ Loc w Q m Q' m' ∧ Pay w' g ∧ g.abs = tkG (tstF s sn ne md p.abs) p.id p.l ∧ Below w.heap.size w w' := by
  have hl := ho.len
  have hm : s.q.length = m := by rw [← hQ.abs, List.length_map, hQ.rd.len]
  have hpl : p.abs.2.length = p.n := hp.len
  have hpi : p.abs.1 = p.id := rfl
  by_cases hok : dchk sn ne md p.id p.n = 0
  · refine (rtake_yes s.sn s.ne s.ack s.tak s.op s.em Q m cap qs sn ne md p.id p.A p.n p.c p.l w hQ.rd hQ.cap_ (by omega) hp hok ho.sn0 ho.sn1 ho.ne0 ho.ne1 ho.ack0 (by have := ho.ack1; omega) ho.tak0 (by have := ho.tak1; omega)).mono ?_
    rintro e w' ⟨Q', m', cap', qs', g, rfl, h1, hl', h2, h3, h4⟩
    rw [hQ.abs] at h1 h3
    have e1 : tst s sn ne md p.abs = tk2 (tk1 s ne) sn p.id p.n := by unfold tst; rw [hpl, hpi, if_pos hok]
    have e2 : tstF s sn ne md p.abs = tkF (tk1 s ne) sn p.id p.n := by unfold tstF; rw [hpl, hpi, if_pos hok]
    have e3 : tstA s sn ne md p.abs = tkA s ne := by unfold tstA; rw [hpl, hpi, if_pos hok]
    rw [e1, e2, e3]
    refine ⟨Q', m', cap', qs', g, ?_, h1, hl', h2, h3, h4⟩
    rw [hQ.abs]
  · refine (rtake_no s.sn s.ne s.ack s.tak s.op s.em Q m cap qs sn ne md p.id p.A p.n p.c p.l w hQ.rd hQ.cap_ (by omega) hp hok).mono ?_
    rintro e w' ⟨rfl, h4⟩
    have e1 : tst s sn ne md p.abs = s := by unfold tst; rw [hpl, hpi, if_neg hok]
    have e2 : tstF s sn ne md p.abs = false := by unfold tstF; rw [hpl, hpi, if_neg hok]
    have e3 : tstA s sn ne md p.abs = false := by unfold tstA; rw [hpl, hpi, if_neg hok]
    rw [e1, e2, e3]
    exact ⟨Q, m, cap, qs, ⟨0, none, 0, 0, []⟩, rfl, hQ.below h4, Loc.same _ _ _, (own1_blank 0 _ _).1, rfl, h4⟩
theorem sameS {Q2 : Option Addr} {m2 cap2 : Nat} {qs2 : List Pk} (hQ : Has w Q m cap qs s.q) (hQ2 : Has w Q2 m2 cap2 qs2 s.q) (hl : s.q.length ≤ 64) :
    Calls Try.prog 19 #[.agg #[.int .i64 s.sn, .int .i64 s.ne, .slice Q m cap, .bool s.op, .bool s.em, .int .i64 s.ack, .int .i64 s.tak], .agg #[.int .i64 s.sn, .int .i64 s.ne, .slice Q2 m2 cap2, .bool s.op, .bool s.em, .int .i64 s.ack, .int .i64 s.tak]] w fun e w' => e = .returned (.bool true) ∧ Below w.heap.size w w' := by
  have hm : s.q.length = m := by rw [← hQ.abs, List.length_map, hQ.rd.len]
  exact samearq_any s.sn s.ne s.ack s.tak s.op s.em Q Q2 m m2 cap cap2 qs qs2 w hQ.rd hQ2.rd (by rw [hQ.abs, hQ2.abs]) (by omega)
end
end Go.Proofs.Ytobljnbpokijdaa
