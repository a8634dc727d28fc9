/-
  The walks of add, recent, Remember, Accept. Each function's contract.
-/
import Derived.Test.YtajhfmioidmacaaRpd
import Derived.Deep.AppendLies
namespace Go.Proofs.Ytajhfmioidmacaa
set_option linter.unusedVariables false
set_option linter.unusedSimpArgs false
open Go.RowKit

theorem own_far {w : World} {base : Nat} {e : TypeId} {size : Nat} {v : Value} {n : Nat} {xs : List Value} (h : w.ownsRow base e size v n xs) {p : Addr} (hp : v.ownBlock ≠ some p.block) (u : Value) : (w.setCell p u).ownsRow base e size v n xs := by
  refine ⟨h.1, ?_⟩
  rcases h.2 with h | ⟨g, cap, cur, rfl, h2, h3, h4⟩
  · exact .inl h
  · exact .inr ⟨g, cap, cur, rfl, h2, (Below.heap_setCell w p u g (fun e => hp (by simp [Value.ownBlock, e]))).trans h3, h4⟩
/-- One result, a struct in a cell. -/
theorem run_res_one {P : Program} {w : World} {fn : Func} {tmps : Array Value} {i g : Nat} {t ty : TypeId} {cs : Array Value} (hf : fn.results = #[.cell i ty]) (hi : tmps.getD i undef = .pointer (some ⟨g, 0, none⟩)) (hB : Blk w g t cs)
    (d : TypeDesc) (hu : P.underlying ty = some d) (hd : (match d with | .struct _ | .array _ _ => true | _ => false) = true) (hs : (P.info? ty).map (·.size) = some cs.size) :
    (results fn tmps).run P w = .ok (.agg cs) w := by
  have hl := run_loadVar_row (P := P) w g t ty cs (0, 0) d hB hu hd hs
  have ha : ∀ w : World, (asAddr (.pointer (some ⟨g, 0, none⟩))).run P w = .ok ⟨g, 0, none⟩ w := fun w => by simp [asAddr, go_sem]
  unfold results
  rw [hf]
  simp only [List.mapM_toArray, List.mapM_cons, List.mapM_nil, map_eq_pure_bind, bind_assoc, pure_bind, Sem.run_bind, Sem.run_pure, Result.andThen_ok, hi, ha, hl]
  rfl
set_option maxHeartbeats 2000000 in
theorem adds_any (A : Option Addr) (n c : Nat) (most : Int) (l : List Msg) (x : Msg) (w : World) (hA : Rd w 3 A n (mv l)) (hn : n ≤ 1000000) :
    Calls Try.prog 22 #[.agg #[.slice A n c, .int .i64 most], .agg #[.int .u16 x.s, .int .u32 x.i, .int .u32 x.q]] w fun e w' => ∃ v, e = .returned (.agg #[v, .int .i64 most]) ∧ w'.ownsRow w.heap.size 26 3 v (n + 1) (mv (l ++ [x])) ∧ Below w.heap.size w w' := by
  have B0 : Below w.heap.size w ((((w.alloc (.cells #[.slice A n c, .int .i64 most] 42)).alloc (.cells #[.int .u16 x.s, .int .u32 x.i, .int .u32 x.q] 26)).alloc (.cells #[.slice none 0 0, .int .i64 0] 42))).drew := ((((Below.refl _ _).alloc (Nat.le_refl _) _).alloc (by simp) _).alloc (by simp; omega) _).drew
  have k2 : Blk ((((w.alloc (.cells #[.slice A n c, .int .i64 most] 42)).alloc (.cells #[.int .u16 x.s, .int .u32 x.i, .int .u32 x.q] 26)).alloc (.cells #[.slice none 0 0, .int .i64 0] 42))).drew w.heap.size 42 #[.slice A n c, .int .i64 most] := (((Blk.new w _ _).alloc _).alloc _).drew
  have k3 : Blk ((((w.alloc (.cells #[.slice A n c, .int .i64 most] 42)).alloc (.cells #[.int .u16 x.s, .int .u32 x.i, .int .u32 x.q] 26)).alloc (.cells #[.slice none 0 0, .int .i64 0] 42))).drew (w.heap.size + 1) 26 #[.int .u16 x.s, .int .u32 x.i, .int .u32 x.q] := ((blk_new2 (by simp)).alloc _).drew
  have k4 : Blk ((((w.alloc (.cells #[.slice A n c, .int .i64 most] 42)).alloc (.cells #[.int .u16 x.s, .int .u32 x.i, .int .u32 x.q] 26)).alloc (.cells #[.slice none 0 0, .int .i64 0] 42))).drew (w.heap.size + 2) 42 #[.slice none 0 0, .int .i64 0] := (blk_new2 (by simp)).drew
  have hA0 := hA.below B0
  have hx0 : Rd (((((w.alloc (.cells #[.slice A n c, .int .i64 most] 42)).alloc (.cells #[.int .u16 x.s, .int .u32 x.i, .int .u32 x.q] 26)).alloc (.cells #[.slice none 0 0, .int .i64 0] 42))).drew.alloc (.cells #[.int .u16 x.s, .int .u32 x.i, .int .u32 x.q] 26)) 3 (some ⟨w.heap.size + 3, 0, none⟩) 1 (mv [x]) := rd3_one2 _ x _ (by simp)
  have hA1 := hA0.alloc (.cells #[.int .u16 x.s, .int .u32 x.i, .int .u32 x.q] 26)
  have hz0 : ((((w.alloc (.cells #[.slice A n c, .int .i64 most] 42)).alloc (.cells #[.int .u16 x.s, .int .u32 x.i, .int .u32 x.q] 26)).alloc (.cells #[.slice none 0 0, .int .i64 0] 42))).drew.heap.size = w.heap.size + 3 := by simp
  go_enter Try.func22, Try.ntmps22
  go_wp2_with fail
  go_region_law (first
    | (go_simp; go_at_call 30; (refine (clones_any A n c l _ ?_ hn).mono ?_); (first | exact hA0 | exact hA1); rintro e w1 ⟨v1, rfl, hown1, hb1⟩; have B1 : Below w.heap.size w w1 := (by first | exact B0.trans (hb1.mono B0.size) | exact (B0.alloc B0.size _).trans (hb1.mono (B0.alloc B0.size _).size)); have m2 : Blk w1 w.heap.size 42 #[.slice A n c, .int .i64 most] := (by first | exact k2.below hb1 k2.lt | exact (k2.alloc _).below hb1 (k2.alloc _).lt); have m3 : Blk w1 (w.heap.size + 1) 26 #[.int .u16 x.s, .int .u32 x.i, .int .u32 x.q] := (by first | exact k3.below hb1 k3.lt | exact (k3.alloc _).below hb1 (k3.alloc _).lt); have m4 : Blk w1 (w.heap.size + 2) 42 #[.slice none 0 0, .int .i64 0] := (by first | exact k4.below hb1 k4.lt | exact (k4.alloc _).below hb1 (k4.alloc _).lt); have hbase : ∀ k, v1.ownBlock = some k → w.heap.size + 3 ≤ k := (by intro k hk; have h := (hown1.lt k hk).1; simp at h; omega); have hle : ∀ k, v1.ownBlock = some k → w.heap.size ≤ k := (fun k hk => Nat.le_trans (Nat.le_add_right _ 3) (hbase k hk)); have hne2 : some w.heap.size ≠ v1.ownBlock := (fun e => by have := hbase _ e.symm; omega); have hne4 : some (w.heap.size + 2) ≠ v1.ownBlock := (fun e => by have := hbase _ e.symm; omega); have hown1 := ownsRow_weak hown1 (show w.heap.size + 3 ≤ _ by simp); obtain ⟨q0, q1, q2⟩ := at3 m3)
    | (refine step_append_rd _ rfl (.tmp 7) (.tmp 9) _ rfl (w.heap.size + 3) 26 (.agg #[.int .u16 0, .int .u32 0, .int .u32 0]) 3 12 underS infoS rfl (by omega) v1 n (mv l) (by simp [Act.eval, Act.put]) (hown1.alloc _) (some ⟨w1.heap.size, 0, none⟩) 1 1 (mv [x]) (by simp [Act.eval, Act.put]) (rd3_one w1 x _) (mv_one [x]) (by omega) (by omega) (by have := hb1.size; simp at this ⊢; omega) ?_; intro v3 w3 hown3 hg3 _; have m2 := m2.alloc (.cells #[.int .u16 x.s, .int .u32 x.i, .int .u32 x.q] 26); have m4 := m4.alloc (.cells #[.int .u16 x.s, .int .u32 x.i, .int .u32 x.q] 26); have n2 := m2.grown hg3 hne2; have n4 := m4.grown hg3 hne4; have B3 : Below w.heap.size w w3 := (by first | exact B1.grown hg3 B1.size hle | exact (B1.alloc B1.size _).grown hg3 (B1.alloc B1.size _).size hle); have r0 := n2.cell 0; have r1 := n2.cell 1; have f0 := n2.frozen 0; have s0 := n4.cell 0; have s1 := n4.cell 1; have g0 := n4.frozen 0; have g1 := n4.frozen 1; simp only [List.getElem?_toArray, List.getElem?_cons_zero, List.getElem?_cons_succ] at r0 r1 s0 s1; obtain ⟨A3, c3, hv3, _, _, _⟩ := own_rdn hown3; rw [hv3] at hown3; rw [hv3])
    | (refine step_append_rd _ rfl (.tmp 7) (.tmp 9) _ rfl (w.heap.size + 3) 26 (.agg #[.int .u16 0, .int .u32 0, .int .u32 0]) 3 12 underS infoS rfl (by omega) v1 n (mv l) (by simp [Act.eval, Act.put]) hown1 (some ⟨w.heap.size + 3, 0, none⟩) 1 1 (mv [x]) (by simp [Act.eval, Act.put]) (hx0.below hb1) (mv_one [x]) (by omega) (by omega) (by have := hb1.size; simp at this ⊢; omega) ?_; intro v3 w3 hown3 hg3 _; have n2 := m2.grown hg3 hne2; have n4 := m4.grown hg3 hne4; have B3 : Below w.heap.size w w3 := (by first | exact B1.grown hg3 B1.size hle | exact (B1.alloc B1.size _).grown hg3 (B1.alloc B1.size _).size hle); have r0 := n2.cell 0; have r1 := n2.cell 1; have f0 := n2.frozen 0; have s0 := n4.cell 0; have s1 := n4.cell 1; have g0 := n4.frozen 0; have g1 := n4.frozen 1; simp only [List.getElem?_toArray, List.getElem?_cons_zero, List.getElem?_cons_succ] at r0 r1 s0 s1; obtain ⟨A3, c3, hv3, _, _, _⟩ := own_rdn hown3; rw [hv3] at hown3; rw [hv3]))
  all_goals
    have hle3 : w.heap.size + 3 ≤ w.heap.size + 3 := Nat.le_refl _
    have e2 : (Value.slice A3 (n + 1) c3).ownBlock ≠ some w.heap.size := fun e => by have := (hown3.lt _ e).1; omega
    have e4 : (Value.slice A3 (n + 1) c3).ownBlock ≠ some (w.heap.size + 2) := fun e => by have := (hown3.lt _ e).1; omega
    have h4 : Blk (((w3.setCell ⟨w.heap.size, 0, none⟩ (.slice A3 (n + 1) c3)).setCell ⟨w.heap.size + 2, 0, none⟩ (.slice A3 (n + 1) c3)).setCell ⟨w.heap.size + 2, 1, none⟩ (.int .i64 most)) (w.heap.size + 2) 42 #[.slice A3 (n + 1) c3, .int .i64 most] := by
      simpa using (((n4.far (p := ⟨w.heap.size, 0, none⟩) (by simp) (.slice A3 (n + 1) c3)).set_ 0 (.slice A3 (n + 1) c3)).set_ 1 (.int .i64 most))
    clear q0 q1 q2 hx0 hA0 hA1 k2 k3 k4 m2 m3 m4 hown1
    go_wp2
    refine bodyPost_ret (run_res_one rfl rfl h4 _ Try.underlying42 rfl (by kernel_rfl)) rfl ⟨_, rfl, ?_, ((B3.setCell (p := ⟨w.heap.size, 0, none⟩) (Nat.le_refl _) _).setCell (p := ⟨w.heap.size + 2, 0, none⟩) (by simp) _).setCell (p := ⟨w.heap.size + 2, 1, none⟩) (by simp) _⟩
    rw [mv_append]
    exact ownsRow_weak (own_far (own_far (own_far hown3 e2 _) e4 _) e4 _) (by omega)
set_option maxHeartbeats 2000000 in
theorem addr_any (A : Option Addr) (n c : Nat) (most : Int) (l : List Msg) (x : Msg) (w : World) (hA : Rd w 3 A n (mv l)) (hn : n ≤ 1000000) :
    Calls Try.prog 26 #[.agg #[.slice A n c, .int .i64 most], .agg #[.int .u16 x.s, .int .u32 x.i, .int .u32 x.q]] w fun e w' => ∃ v, e = .returned (.agg #[v, .int .i64 most]) ∧ w'.ownsRow w.heap.size 46 3 v (n + 1) (mv (l ++ [x])) ∧ Below w.heap.size w w' := by
  have B0 : Below w.heap.size w ((((w.alloc (.cells #[.slice A n c, .int .i64 most] 49)).alloc (.cells #[.int .u16 x.s, .int .u32 x.i, .int .u32 x.q] 46)).alloc (.cells #[.slice none 0 0, .int .i64 0] 49))).drew := ((((Below.refl _ _).alloc (Nat.le_refl _) _).alloc (by simp) _).alloc (by simp; omega) _).drew
  have k2 : Blk ((((w.alloc (.cells #[.slice A n c, .int .i64 most] 49)).alloc (.cells #[.int .u16 x.s, .int .u32 x.i, .int .u32 x.q] 46)).alloc (.cells #[.slice none 0 0, .int .i64 0] 49))).drew w.heap.size 49 #[.slice A n c, .int .i64 most] := (((Blk.new w _ _).alloc _).alloc _).drew
  have k3 : Blk ((((w.alloc (.cells #[.slice A n c, .int .i64 most] 49)).alloc (.cells #[.int .u16 x.s, .int .u32 x.i, .int .u32 x.q] 46)).alloc (.cells #[.slice none 0 0, .int .i64 0] 49))).drew (w.heap.size + 1) 46 #[.int .u16 x.s, .int .u32 x.i, .int .u32 x.q] := ((blk_new2 (by simp)).alloc _).drew
  have k4 : Blk ((((w.alloc (.cells #[.slice A n c, .int .i64 most] 49)).alloc (.cells #[.int .u16 x.s, .int .u32 x.i, .int .u32 x.q] 46)).alloc (.cells #[.slice none 0 0, .int .i64 0] 49))).drew (w.heap.size + 2) 49 #[.slice none 0 0, .int .i64 0] := (blk_new2 (by simp)).drew
  have hA0 := hA.below B0
  have hx0 : Rd (((((w.alloc (.cells #[.slice A n c, .int .i64 most] 49)).alloc (.cells #[.int .u16 x.s, .int .u32 x.i, .int .u32 x.q] 46)).alloc (.cells #[.slice none 0 0, .int .i64 0] 49))).drew.alloc (.cells #[.int .u16 x.s, .int .u32 x.i, .int .u32 x.q] 46)) 3 (some ⟨w.heap.size + 3, 0, none⟩) 1 (mv [x]) := rd3_one2 _ x _ (by simp)
  have hA1 := hA0.alloc (.cells #[.int .u16 x.s, .int .u32 x.i, .int .u32 x.q] 46)
  have hz0 : ((((w.alloc (.cells #[.slice A n c, .int .i64 most] 49)).alloc (.cells #[.int .u16 x.s, .int .u32 x.i, .int .u32 x.q] 46)).alloc (.cells #[.slice none 0 0, .int .i64 0] 49))).drew.heap.size = w.heap.size + 3 := by simp
  go_enter Try.func26, Try.ntmps26
  go_wp2_with fail
  go_region_law (first
    | (go_simp; go_at_call 24; (refine (cloner_any A n c l _ ?_ hn).mono ?_); (first | exact hA0 | exact hA1); rintro e w1 ⟨v1, rfl, hown1, hb1⟩; have B1 : Below w.heap.size w w1 := (by first | exact B0.trans (hb1.mono B0.size) | exact (B0.alloc B0.size _).trans (hb1.mono (B0.alloc B0.size _).size)); have m2 : Blk w1 w.heap.size 49 #[.slice A n c, .int .i64 most] := (by first | exact k2.below hb1 k2.lt | exact (k2.alloc _).below hb1 (k2.alloc _).lt); have m3 : Blk w1 (w.heap.size + 1) 46 #[.int .u16 x.s, .int .u32 x.i, .int .u32 x.q] := (by first | exact k3.below hb1 k3.lt | exact (k3.alloc _).below hb1 (k3.alloc _).lt); have m4 : Blk w1 (w.heap.size + 2) 49 #[.slice none 0 0, .int .i64 0] := (by first | exact k4.below hb1 k4.lt | exact (k4.alloc _).below hb1 (k4.alloc _).lt); have hbase : ∀ k, v1.ownBlock = some k → w.heap.size + 3 ≤ k := (by intro k hk; have h := (hown1.lt k hk).1; simp at h; omega); have hle : ∀ k, v1.ownBlock = some k → w.heap.size ≤ k := (fun k hk => Nat.le_trans (Nat.le_add_right _ 3) (hbase k hk)); have hne2 : some w.heap.size ≠ v1.ownBlock := (fun e => by have := hbase _ e.symm; omega); have hne4 : some (w.heap.size + 2) ≠ v1.ownBlock := (fun e => by have := hbase _ e.symm; omega); have hown1 := ownsRow_weak hown1 (show w.heap.size + 3 ≤ _ by simp); obtain ⟨q0, q1, q2⟩ := at3 m3)
    | (refine step_append_rd _ rfl (.tmp 7) (.tmp 9) _ rfl (w.heap.size + 3) 46 (.agg #[.int .u16 0, .int .u32 0, .int .u32 0]) 3 12 underR infoR rfl (by omega) v1 n (mv l) (by simp [Act.eval, Act.put]) (hown1.alloc _) (some ⟨w1.heap.size, 0, none⟩) 1 1 (mv [x]) (by simp [Act.eval, Act.put]) (rd3_one w1 x _) (mv_one [x]) (by omega) (by omega) (by have := hb1.size; simp at this ⊢; omega) ?_; intro v3 w3 hown3 hg3 _; have m2 := m2.alloc (.cells #[.int .u16 x.s, .int .u32 x.i, .int .u32 x.q] 46); have m4 := m4.alloc (.cells #[.int .u16 x.s, .int .u32 x.i, .int .u32 x.q] 46); have n2 := m2.grown hg3 hne2; have n4 := m4.grown hg3 hne4; have B3 : Below w.heap.size w w3 := (by first | exact B1.grown hg3 B1.size hle | exact (B1.alloc B1.size _).grown hg3 (B1.alloc B1.size _).size hle); have r0 := n2.cell 0; have r1 := n2.cell 1; have f0 := n2.frozen 0; have s0 := n4.cell 0; have s1 := n4.cell 1; have g0 := n4.frozen 0; have g1 := n4.frozen 1; simp only [List.getElem?_toArray, List.getElem?_cons_zero, List.getElem?_cons_succ] at r0 r1 s0 s1; obtain ⟨A3, c3, hv3, _, _, _⟩ := own_rdn hown3; rw [hv3] at hown3; rw [hv3])
    | (refine step_append_rd _ rfl (.tmp 7) (.tmp 9) _ rfl (w.heap.size + 3) 46 (.agg #[.int .u16 0, .int .u32 0, .int .u32 0]) 3 12 underR infoR rfl (by omega) v1 n (mv l) (by simp [Act.eval, Act.put]) hown1 (some ⟨w.heap.size + 3, 0, none⟩) 1 1 (mv [x]) (by simp [Act.eval, Act.put]) (hx0.below hb1) (mv_one [x]) (by omega) (by omega) (by have := hb1.size; simp at this ⊢; omega) ?_; intro v3 w3 hown3 hg3 _; have n2 := m2.grown hg3 hne2; have n4 := m4.grown hg3 hne4; have B3 : Below w.heap.size w w3 := (by first | exact B1.grown hg3 B1.size hle | exact (B1.alloc B1.size _).grown hg3 (B1.alloc B1.size _).size hle); have r0 := n2.cell 0; have r1 := n2.cell 1; have f0 := n2.frozen 0; have s0 := n4.cell 0; have s1 := n4.cell 1; have g0 := n4.frozen 0; have g1 := n4.frozen 1; simp only [List.getElem?_toArray, List.getElem?_cons_zero, List.getElem?_cons_succ] at r0 r1 s0 s1; obtain ⟨A3, c3, hv3, _, _, _⟩ := own_rdn hown3; rw [hv3] at hown3; rw [hv3]))
  all_goals
    have hle3 : w.heap.size + 3 ≤ w.heap.size + 3 := Nat.le_refl _
    have e2 : (Value.slice A3 (n + 1) c3).ownBlock ≠ some w.heap.size := fun e => by have := (hown3.lt _ e).1; omega
    have e4 : (Value.slice A3 (n + 1) c3).ownBlock ≠ some (w.heap.size + 2) := fun e => by have := (hown3.lt _ e).1; omega
    have h4 : Blk (((w3.setCell ⟨w.heap.size, 0, none⟩ (.slice A3 (n + 1) c3)).setCell ⟨w.heap.size + 2, 0, none⟩ (.slice A3 (n + 1) c3)).setCell ⟨w.heap.size + 2, 1, none⟩ (.int .i64 most)) (w.heap.size + 2) 49 #[.slice A3 (n + 1) c3, .int .i64 most] := by
      simpa using (((n4.far (p := ⟨w.heap.size, 0, none⟩) (by simp) (.slice A3 (n + 1) c3)).set_ 0 (.slice A3 (n + 1) c3)).set_ 1 (.int .i64 most))
    clear q0 q1 q2 hx0 hA0 hA1 k2 k3 k4 m2 m3 m4 hown1
    go_wp2
    refine bodyPost_ret (run_res_one rfl rfl h4 _ Try.underlying49 rfl (by kernel_rfl)) rfl ⟨_, rfl, ?_, ((B3.setCell (p := ⟨w.heap.size, 0, none⟩) (Nat.le_refl _) _).setCell (p := ⟨w.heap.size + 2, 0, none⟩) (by simp) _).setCell (p := ⟨w.heap.size + 2, 1, none⟩) (by simp) _⟩
    rw [mv_append]
    exact ownsRow_weak (own_far (own_far (own_far hown3 e2 _) e4 _) e4 _) (by omega)
end Go.Proofs.Ytajhfmioidmacaa
