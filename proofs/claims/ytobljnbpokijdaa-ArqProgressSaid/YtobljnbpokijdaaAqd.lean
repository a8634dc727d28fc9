/-
  The walk of own: a side in memory of its own. Its contract.
-/
import Derived.Test.YtobljnbpokijdaaAqc
namespace Go.Proofs.Ytobljnbpokijdaa
set_option linter.unusedVariables false
set_option linter.unusedSimpArgs false
open Go.RowKit

theorem sep_grow {w : World} {v v3 : Value} {qs : List Pk} (hP : ∀ q ∈ qs, Pay w q) (hS : Sep v qs) (hat : v3.ownBlock = v.ownBlock ∨ v3.ownBlock = some w.heap.size) : Sep v3 qs := by
  intro p hp h0 a ha
  rcases hat with h | h
  · rw [h]; exact hS p hp h0 a ha
  · rw [h]
    intro e
    injection e with e
    have := (hP p hp).lt h0 a ha
    omega
theorem pays_grow {w w3 : World} {v : Value} {qs : List Pk} (hP : ∀ q ∈ qs, Pay w q) (hS : Sep v qs) (hg : w.grownBy w3 v.ownBlock) : ∀ q ∈ qs, Pay w3 q :=
  fun q hq => (hP q hq).grown hg (hS q hq)
set_option maxHeartbeats 2000000 in
theorem mine_any (sn ne ack tak : Int) (op em : Bool) (Q : Option Addr) (m cap : Nat) (ps : List Pk) (w : World) (hQ : PRd w Q m ps) (hm : m ≤ 100000) :
    Calls Try.prog 26 #[.agg #[.int .i64 sn, .int .i64 ne, .slice Q m cap, .bool op, .bool em, .int .i64 ack, .int .i64 tak]] w fun e w' =>
      ∃ Q' cap' qs, e = .returned (.agg #[.int .i64 sn, .int .i64 ne, .slice Q' m cap', .bool op, .bool em, .int .i64 ack, .int .i64 tak]) ∧ w'.ownsRow w.heap.size 30 2 (.slice Q' m cap') m (pv qs) ∧ qs.map Pk.abs = ps.map Pk.abs ∧ (∀ q ∈ qs, Pay w' q) ∧ Sep (.slice Q' m cap') qs ∧ From w.heap.size qs ∧ m ≤ cap' ∧ Below w.heap.size w w' := by
  obtain ⟨i, hi, hz, hsize, hby⟩ := info_parts infoP
  have hB : Below w.heap.size w ((w.alloc (.cells #[.int .i64 sn, .int .i64 ne, .slice Q m cap, .bool op, .bool em, .int .i64 ack, .int .i64 tak] 26)).alloc (.cells #[.int .i64 0, .int .i64 0, .slice none 0 0, .bool false, .bool false, .int .i64 0, .int .i64 0] 26)) := ((Below.refl _ _).alloc (Nat.le_refl _) _).alloc (by simp) _
  have k1 : Blk ((w.alloc (.cells #[.int .i64 sn, .int .i64 ne, .slice Q m cap, .bool op, .bool em, .int .i64 ack, .int .i64 tak] 26)).alloc (.cells #[.int .i64 0, .int .i64 0, .slice none 0 0, .bool false, .bool false, .int .i64 0, .int .i64 0] 26)) w.heap.size 26 #[.int .i64 sn, .int .i64 ne, .slice Q m cap, .bool op, .bool em, .int .i64 ack, .int .i64 tak] := (Blk.new _ _ _).alloc _
  have k2 : Blk ((w.alloc (.cells #[.int .i64 sn, .int .i64 ne, .slice Q m cap, .bool op, .bool em, .int .i64 ack, .int .i64 tak] 26)).alloc (.cells #[.int .i64 0, .int .i64 0, .slice none 0 0, .bool false, .bool false, .int .i64 0, .int .i64 0] 26)) (w.heap.size + 1) 26 #[.int .i64 0, .int .i64 0, .slice none 0 0, .bool false, .bool false, .int .i64 0, .int .i64 0] := blk_new2 (by simp)
  obtain ⟨wm, hrun, hown0, hgm⟩ := run_make_own (P := Try.prog) ((w.alloc (.cells #[.int .i64 sn, .int .i64 ne, .slice Q m cap, .bool op, .bool em, .int .i64 ack, .int .i64 tak] 26)).alloc (.cells #[.int .i64 0, .int .i64 0, .slice none 0 0, .bool false, .bool false, .int .i64 0, .int .i64 0] 26)) (w.heap.size + 2) 24 30 i _ 2 underP hi hz hsize .i64 .i64 m (by rw [hby]; omega) (Nat.le_trans hm (by decide)) (by simp)
  have Bm : Below w.heap.size w wm := hB.grown hgm hB.size (fun k hk => by cases hk)
  have m1 := k1.grown hgm (by simp)
  have m2 := k2.grown hgm (by simp)
  have r0 := m1.cell 0
  have r1 := m1.cell 1
  have r2 := m1.cell 2
  have r3 := m1.cell 3
  have r4 := m1.cell 4
  have r5 := m1.cell 5
  have r6 := m1.cell 6
  simp only [List.getElem?_toArray, List.getElem?_cons_zero, List.getElem?_cons_succ] at r0 r1 r2 r3 r4 r5 r6
  clear hi hz hsize hby
  go_enter Try.func26, Try.ntmps26
  go_wp2_with fail
  go_loopw [3, 13] (fun v i wr => ∃ (k : Nat) (qs : List Pk), k ≤ m ∧ i = .int .i64 k ∧ wr.ownsRow (w.heap.size + 2) 30 2 v k (pv qs) ∧ qs.map Pk.abs = (ps.take k).map Pk.abs ∧ (∀ q ∈ qs, Pay wr q) ∧ Sep v qs ∧ From (w.heap.size + 2) qs ∧ Below w.heap.size w wr ∧ Blk wr w.heap.size 26 #[.int .i64 sn, .int .i64 ne, .slice Q m cap, .bool op, .bool em, .int .i64 ack, .int .i64 tak] ∧ Blk wr (w.heap.size + 1) 26 #[.int .i64 0, .int .i64 0, .slice none 0 0, .bool false, .bool false, .int .i64 0, .int .i64 0]) (fun _ i _ => m - (intOf i).toNat)
  case atStart => exact ⟨0, [], Nat.zero_le _, rfl, by simpa [pv] using hown0, rfl, (fun q hq => by cases hq), (fun q hq => by cases hq), (fun q hq => by cases hq), Bm, m1, m2⟩
  case round =>
    obtain ⟨k, qs, hk, rfl, hown, habs, hP, hS, hF, hbe, n1, n2⟩ := hrel
    by_cases hlt : k < m
    · obtain ⟨b, o, p, rfl, hbs, HX, c0, c1, hp⟩ := (hQ.below hbe).pk hlt
      have HA := hide habs
      have hsz : w.heap.size + 2 ≤ wr.heap.size := by have := n2.lt; omega
      have hpa := hp.alloc (.cells #[.int .i64 p.id, .slice p.A p.n p.c] 30)
      clear habs
      go_wp2_with fail
      refine (clone_any p.id p.A p.n p.c p.l _ hpa.1 hp.2.2.2).mono ?_
      rintro e w2 ⟨A1, c1', rfl, hown1, hc1, hb2⟩
      have hb12 : Below wr.heap.size wr w2 := ((Below.refl _ _).alloc (Nat.le_refl _) _).trans (hb2.mono (by simp))
      have hownw := own_below hown hb12
      obtain ⟨hpay, hpb⟩ := pay_own (id := p.id) hown1 hp.2.1 hc1 hp.2.2.2
      have hP2 : ∀ q ∈ qs ++ [⟨p.id, A1, p.n, c1', p.l⟩], Pay w2 q := by
        intro q hq
        rcases List.mem_append.1 hq with hq | hq
        · exact (hP q hq).below hb12
        · simp only [List.mem_singleton] at hq; subst hq; exact hpay
      have hS2 : Sep u3 (qs ++ [⟨p.id, A1, p.n, c1', p.l⟩]) := by
        intro q hq h0 a ha
        rcases List.mem_append.1 hq with hq | hq
        · exact hS q hq h0 a ha
        · simp only [List.mem_singleton] at hq
          subst hq
          intro e
          have h1 := (hown.lt _ e.symm).2
          have h2 := hpb h0 a ha
          simp at h2
          omega
      have hF2 : From (w.heap.size + 2) (qs ++ [⟨p.id, A1, p.n, c1', p.l⟩]) := by
        intro q hq h0 a ha
        rcases List.mem_append.1 hq with hq | hq
        · exact hF q hq h0 a ha
        · simp only [List.mem_singleton] at hq
          subst hq
          have h2 := hpb h0 a ha
          simp at h2
          omega
      have HF := hide hF2
      have B2 := hbe.trans (hb12.mono hbe.size)
      have hk1 := n1.below hb12 n1.lt
      have hk2 := n2.below hb12 n2.lt
      have hX := rd2_one w2 ⟨p.id, A1, p.n, c1', p.l⟩ 30 rfl
      have hsz2 : w.heap.size + 2 ≤ (w2.alloc (.cells #[.int .i64 p.id, .slice A1 p.n c1'] 30)).heap.size := by have := hb12.size; simp; omega
      have hne1 : some w.heap.size ≠ u3.ownBlock := fun e => by have := (hown.lt _ e.symm).1; omega
      have hne2 : some (w.heap.size + 1) ≠ u3.ownBlock := fun e => by have := (hown.lt _ e.symm).1; omega
      have hle : ∀ q, u3.ownBlock = some q → w.heap.size ≤ q := fun q hq => by have := (hown.lt _ hq).1; omega
      have HS := hide hS2
      have HP := hide hP2
      have HX2 := hide HX.out
      clear hS2 hP2 hF2 hpay hpb hown1 hS hP hF
      have tok1 : True := trivial
      go_wp2_with (at_builtin; have _t := tok1; refine wpList_append_rd _ rfl (.tmp 17) (.tmp 20) _ rfl (w.heap.size + 2) 30 (.agg #[.int .i64 0, .slice none 0 0]) 2 32 underP infoP rfl (by omega) u3 k (pv qs) rfl (hownw.alloc _) (some ⟨w2.heap.size, 0, none⟩) 1 1 (pv [⟨p.id, A1, p.n, c1', p.l⟩]) rfl hX (pv_one _) (by omega) (by omega) hsz2 ?_; intro v3 w3 hown3 hg3 hat3; clear tok1 _t)
      rw [← pv_append] at hown3
      go_wp2
      go_roundw
      case rel =>
        refine ⟨k + 1, qs ++ [⟨p.id, A1, p.n, c1', p.l⟩], by omega, by go_num, hown3, ?_, pays_grow (fun q hq => (HP.out q hq).alloc _) HS.out hg3, sep_grow (fun q hq => (HP.out q hq).alloc _) HS.out hat3, HF.out, (B2.alloc B2.size _).grown hg3 (B2.alloc B2.size _).size hle, (hk1.alloc _).grown hg3 hne1, (hk2.alloc _).grown hg3 hne2⟩
        rw [List.map_append, HA.out, take_snoc HX2.out, List.map_append]
        rfl
      case measure => simp [intOf]; omega
    · obtain rfl : k = m := by omega
      obtain ⟨Q', cap', hv, hcap, _, _⟩ := own_rdn hown
      rw [hv] at hown hS
      rw [hv]
      rw [List.take_of_length_le (by rw [hQ.len]; exact Nat.le_refl _)] at habs
      have HA := hide habs
      clear hv habs
      have hbase : ∀ q, (Value.slice Q' k cap').ownBlock = some q → w.heap.size + 2 ≤ q := fun q hq => (hown.lt q hq).1
      have e1 : (Value.slice Q' k cap').ownBlock ≠ some w.heap.size := fun e => by have := hbase _ e; omega
      have e2 : (Value.slice Q' k cap').ownBlock ≠ some (w.heap.size + 1) := fun e => by have := hbase _ e; omega
      have f2 := n1.frozen 2
      have x0 := n1.cell 0
      have y0 := n2.cell 0
      have z0 := n2.frozen 0
      have x1 := n1.cell 1
      have y1 := n2.cell 1
      have z1 := n2.frozen 1
      have x2 := n1.cell 2
      have y2 := n2.cell 2
      have z2 := n2.frozen 2
      have x3 := n1.cell 3
      have y3 := n2.cell 3
      have z3 := n2.frozen 3
      have x4 := n1.cell 4
      have y4 := n2.cell 4
      have z4 := n2.frozen 4
      have x5 := n1.cell 5
      have y5 := n2.cell 5
      have z5 := n2.frozen 5
      have x6 := n1.cell 6
      have y6 := n2.cell 6
      have z6 := n2.frozen 6
      simp only [List.getElem?_toArray, List.getElem?_cons_zero, List.getElem?_cons_succ] at x0 x1 x2 x3 x4 x5 x6 y0 y1 y2 y3 y4 y5 y6
      clear r0 r1 r2 r3 r4 r5 r6
      have HP := hide hP
      have HF := hide hF
      clear hP hF
      go_wp2
      have hf1 := blk_fills_far (g := w.heap.size) [(2, Value.slice Q' k cap')] (show w.heap.size + 1 ≠ w.heap.size by omega) n2
      have hf2 := blk_fills [(0, Value.int .i64 sn), (1, .int .i64 ne), (2, .slice Q' k cap'), (3, .bool op), (4, .bool em), (5, .int .i64 ack), (6, .int .i64 tak)] hf1
      have hf3 : Blk (fills (fills wr w.heap.size [(2, Value.slice Q' k cap')]) (w.heap.size + 1) [(0, Value.int .i64 sn), (1, .int .i64 ne), (2, .slice Q' k cap'), (3, .bool op), (4, .bool em), (5, .int .i64 ack), (6, .int .i64 tak)]) (w.heap.size + 1) 26 #[.int .i64 sn, .int .i64 ne, .slice Q' k cap', .bool op, .bool em, .int .i64 ack, .int .i64 tak] := by
        simpa using hf2
      have ho : (fills (fills wr w.heap.size [(2, Value.slice Q' k cap')]) (w.heap.size + 1) [(0, Value.int .i64 sn), (1, .int .i64 ne), (2, .slice Q' k cap'), (3, .bool op), (4, .bool em), (5, .int .i64 ack), (6, .int .i64 tak)]).ownsRow w.heap.size 30 2 (.slice Q' k cap') k (pv qs) := ownsRow_weak (own_fills _ e2 (own_fills _ e1 hown)) (by omega)
      have hp : ∀ q ∈ qs, Pay (fills (fills wr w.heap.size [(2, Value.slice Q' k cap')]) (w.heap.size + 1) [(0, Value.int .i64 sn), (1, .int .i64 ne), (2, .slice Q' k cap'), (3, .bool op), (4, .bool em), (5, .int .i64 ack), (6, .int .i64 tak)]) q := by
        intro q hq
        refine pay_fills _ (pay_fills _ (HP.out q hq) ?_) ?_
        · intro h0 a ha
          have := HF.out q hq h0 a ha
          omega
        · intro h0 a ha
          have := HF.out q hq h0 a ha
          omega
      have hb : Below w.heap.size w (fills (fills wr w.heap.size [(2, Value.slice Q' k cap')]) (w.heap.size + 1) [(0, Value.int .i64 sn), (1, .int .i64 ne), (2, .slice Q' k cap'), (3, .bool op), (4, .bool em), (5, .int .i64 ack), (6, .int .i64 tak)]) := below_fills _ (Nat.le_add_right _ 1) (below_fills _ (Nat.le_refl _) hbe)
      have hfr : From w.heap.size qs := fun q hq h0 a ha => by
        have := HF.out q hq h0 a ha
        omega
      change bodyPost _ _ _ _ _ (fills (fills wr w.heap.size [(2, Value.slice Q' k cap')]) (w.heap.size + 1) [(0, Value.int .i64 sn), (1, .int .i64 ne), (2, .slice Q' k cap'), (3, .bool op), (4, .bool em), (5, .int .i64 ack), (6, .int .i64 tak)])
      generalize (fills (fills wr w.heap.size [(2, Value.slice Q' k cap')]) (w.heap.size + 1) [(0, Value.int .i64 sn), (1, .int .i64 ne), (2, .slice Q' k cap'), (3, .bool op), (4, .bool em), (5, .int .i64 ack), (6, .int .i64 tak)]) = W at hf3 ho hp hb ⊢
      exact bodyPost_ret (run_res_one rfl rfl hf3 _ Try.underlying26 rfl (by kernel_rfl)) rfl ⟨_, _, qs, rfl, ho, HA.out, hp, hS, hfr, hcap, hb⟩
end Go.Proofs.Ytobljnbpokijdaa
