/-
  moved: no step, and the contract over all steps; what a step does to counters and lengths.
-/
import Derived.Test.YtobljnbpokijdaaAyi
import Derived.Test.YtobljnbpokijdaaAyj
import Derived.Test.YtobljnbpokijdaaAyk
import Derived.Test.YtobljnbpokijdaaAyl
import Derived.BigQuiet
import Derived.Deep.QuietTactic
import Derived.Laws.Tables
import Derived.Laws.CopyOwn
namespace Go.Proofs.Ytobljnbpokijdaa
set_option linter.unusedVariables false
set_option linter.unusedSimpArgs false
open Go.RowKit

set_option maxRecDepth 100000 in
set_option maxHeartbeats 100000000 in
theorem moved_e (Z : List Nat) (E : En) (M : Mm) (d : Int) (hd0 : d ≠ 0) (hd1 : d ≠ 1) (hd2 : d ≠ 2) (hd3 : d ≠ 3) (lost : Bool) (p : Pk) (base k : Nat) (w : World) (hbase : base ≤ w.heap.size) (hE : Emem base Z w E M) (hzr : ∀ z ∈ Z, base ≤ z ∧ z < w.heap.size) (hp : Pay w p) (hps : ∀ b ∈ foot p.A p.n, b < base) (hk : k ≤ 100000) (hok0 : Ok k (E.s 0)) (hok1 : Ok k (E.s 1)) (hn : ∀ i, i < 4 → (M.r i).n ≤ 100000) :
    Calls Try.prog 22 #[.agg (enCells E M), .agg (stCells ⟨d, lost, p⟩)] w (MvPost Z base E w) := by
  have b0 : (d == 0) = false := by rw [beq_eq_false_iff_ne]; exact hd0
  have b1 : (d == 1) = false := by rw [beq_eq_false_iff_ne]; exact hd1
  have b2 : (d == 2) = false := by rw [beq_eq_false_iff_ne]; exact hd2
  have b3 : (d == 3) = false := by rw [beq_eq_false_iff_ne]; exact hd3
  clear hd0 hd1 hd2 hd3
  have ol0 := hok0.len
  have ol1 := hok1.len
  simp only [enCells, stCells]
  go_enter Try.func22, Try.ntmps22
  go_upto_region 0 with (fail)
  go_cut [2, 3, 4] (fun s2 s3 s4 wx => s2 = .pointer (some ⟨w.heap.size, 0, none⟩) ∧ s3 = .pointer (some ⟨w.heap.size + 1, 0, none⟩) ∧ s4 = .pointer (some ⟨w.heap.size + 2, 0, none⟩) ∧ Bx Z w base ⟨d, lost, p⟩ E M wx)
  case first =>
    have B0 : Below w.heap.size w w := Below.refl _ _
    have hE1 := (hE.more (Z' := Zs Z w) (fun z hz => by simp only [Zs, List.mem_cons] at hz; rcases hz with hz | hz | hz | hz; (right; omega); (right; omega); (right; omega); (left; exact hz)))
    have HB := fun (a b c : Obj) => bal (bal (bal B0 a) b) c
    have HE := hide hE1
    clear hE hE1
    go_wp2
    go_meet
    case rel => exact ⟨rfl, rfl, rfl, ((Blk.new _ _ _).alloc _).alloc _, (blk_new2 (by simp)).alloc _, blk_new2 (by simp), HE.out.keep (.of_below (HB _ _ _)), (HB _ _ _).mono hbase, hp.below (HB _ _ _), hps, hzr, fun z hz => (HB _ _ _).block z (hzr z hz).2⟩
  case rest =>
    obtain ⟨rfl, rfl, rfl, hB⟩ := hcut
    clear hE hp
    obtain ⟨w1, rfl⟩ : ∃ y, y = wc := ⟨_, rfl⟩
    have HD := hide (mv_done hB hbase)
    have HX := hide (show w1.heap[w.heap.size]? = some (.cells (enCells E M) 52 (0, 0)) from hB.x)
    have HO := hide (show w1.heap[w.heap.size + 2]? = some (.cells zeroEn 52 (0, 0)) from hB.o)
    have H1 := hide (enCells_one hB.mem)
    obtain ⟨t0, t1, t2, t3⟩ := hB.ct
    clear hB
    go_wp2_with (first
      | (with_reducible refine wpList_load_row rfl _ (.tmp 2) rfl w.heap.size rfl _ _ _ _ HX.out Try.underlying52 rfl (by kernel_rfl) ?_)
      | (with_reducible refine wpList_store_row rfl _ (.tmp 4) (.tmp 110) rfl (w.heap.size + 2) (enCells E M) rfl rfl _ _ HO.out (by kernel_rfl) rfl H1.out ?_))
    exact bodyPost_ret (run_res_one rfl rfl HD.out.1 _ Try.underlying52 rfl (by kernel_rfl)) rfl HD.out.2

theorem moved_any (Z : List Nat) (E : En) (M : Mm) (s : Stp) (base k : Nat) (w : World) (hbase : base ≤ w.heap.size) (hE : Emem base Z w E M) (hzr : ∀ z ∈ Z, base ≤ z ∧ z < w.heap.size) (hp : Pay w s.p) (hps : ∀ b ∈ foot s.p.A s.p.n, b < base) (hk : k ≤ 100000) (hok0 : Ok k (E.s 0)) (hok1 : Ok k (E.s 1)) (hn : ∀ i, i < 4 → (M.r i).n ≤ 100000) :
    Calls Try.prog 22 #[.agg (enCells E M), .agg (stCells s)] w (MvPost Z base (mv E s.d s.lost s.p.abs) w) := by
  obtain ⟨d, lost, p⟩ := s
  by_cases h0 : d = 0
  · subst h0
    exact moved_0 Z E M lost p base k w hbase hE hzr hp hps hk hok0 hok1 hn
  by_cases h1 : d = 1
  · subst h1
    exact moved_1 Z E M lost p base k w hbase hE hzr hp hps hk hok0 hok1 hn
  by_cases h2 : d = 2
  · subst h2
    exact moved_2 Z E M lost p base k w hbase hE hzr hp hps hk hok0 hok1 hn
  by_cases h3 : d = 3
  · subst h3
    exact moved_3 Z E M lost p base k w hbase hE hzr hp hps hk hok0 hok1 hn
  have : mv E d lost p.abs = E := by unfold mv; rw [if_neg h0, if_neg h1, if_neg h2, if_neg h3]
  rw [show mv E (Stp.mk d lost p).d (Stp.mk d lost p).lost (Stp.mk d lost p).p.abs = mv E d lost p.abs from rfl, this]
  exact moved_e Z E M d h0 h1 h2 h3 lost p base k w hbase hE hzr hp hps hk hok0 hok1 hn
/-- Counters and lengths behind a step. -/
structure OkE (k : Nat) (E : En) : Prop where
  s0 : Ok k (E.s 0)
  s1 : Ok k (E.s 1)
  r : ∀ i, i < 4 → (E.r i).length ≤ k
theorem upd_any {α : Type} {p : α → Prop} {f : Nat → α} {i : Nat} {x : α} (h : ∀ j, p (f j)) (hx : p x) : ∀ j, p (upd f i x j) := by
  intro j
  unfold upd
  split
  · exact hx
  · exact h j
theorem OkE.mv {k : Nat} {E : En} (h : OkE k E) (d : Int) (lost : Bool) (p : Pkt) : OkE (k + 1) (mv E d lost p) := by
  have hs0 := h.s0.mono (j := k + 1) (by omega)
  have hs1 := h.s1.mono (j := k + 1) (by omega)
  have hr : ∀ i, i < 4 → (E.r i).length ≤ k + 1 := fun i hi => by have := h.r i hi; omega
  have hpush : ∀ (r : Nat) (x : Pkt), ∀ i, i < 4 → (upd E.r r (E.r r ++ [x]) i).length ≤ k + 1 := fun r x i hi => by
    unfold upd
    split
    · rename_i e; subst e; have := h.r i hi; simp; omega
    · exact hr i hi
  have hq : ∀ i, OkE (k + 1) (enQ E i p) := fun i => by
    unfold enQ
    refine ⟨?_, ?_, fun j hj => ?_⟩
    · simp only [upd]; split
      · rename_i e; subst e; exact (h.s0.qst p).mono (by omega)
      · exact hs0
    · simp only [upd]; split
      · rename_i e; subst e; exact (h.s1.qst p).mono (by omega)
      · exact hs1
    · simp only; split
      · exact hpush i p j hj
      · exact hr j hj
  have hS : ∀ i, OkE k (enS E i) := fun i => by
    unfold enS
    refine ⟨?_, ?_, h.r⟩
    · simp only [upd]; split
      · rename_i e; subst e; exact h.s0.sst
      · exact h.s0
    · simp only [upd]; split
      · rename_i e; subst e; exact h.s1.sst
      · exact h.s1
  have hT : ∀ i t sn ne md x, OkE (k + 1) (enT (enS E i) t sn ne md x) := fun i t sn ne md x => by
    have g := hS i
    unfold enT
    refine ⟨?_, ?_, fun j hj => ?_⟩
    · simp only [upd]; split
      · rename_i e; subst e; exact g.s0.tst _ _ _ _
      · exact g.s0.mono (by omega)
    · simp only [upd]; split
      · rename_i e; subst e; exact g.s1.tst _ _ _ _
      · exact g.s1.mono (by omega)
    · simp only; split
      · exact hpush _ _ j hj
      · exact hr j hj
  have hM : ∀ f t, OkE (k + 1) (mvS E f t lost) := fun f t => by
    unfold mvS
    split
    · exact ⟨(hS f).s0.mono (by omega), (hS f).s1.mono (by omega), fun i hi => by have := (hS f).r i hi; omega⟩
    · exact hT _ _ _ _ _ _
  unfold Proofs.Ytobljnbpokijdaa.mv
  split
  · exact hq 0
  split
  · exact hq 1
  split
  · exact hM 0 1
  split
  · exact hM 1 0
  · exact ⟨hs0, hs1, hr⟩
end Go.Proofs.Ytobljnbpokijdaa
