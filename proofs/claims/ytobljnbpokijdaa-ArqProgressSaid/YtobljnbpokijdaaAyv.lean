/-
  The walk of ArqProgress: a round of its first loop (region 7).
-/
import Derived.Test.YtobljnbpokijdaaAyq

namespace Go.Proofs.Ytobljnbpokijdaa
set_option linter.unusedVariables false
set_option linter.unusedSimpArgs false
open Go.RowKit
noncomputable def pgCode (n : Nat) : Code := ((Try.f6.body.bind (regOf n)).getD .skip)
set_option maxRecDepth 100000 in
set_option maxHeartbeats 100000000 in
theorem pg_r7 (x1 x2 x5 x6 x7 x8 x9 x10 x11 x12 x13 x14 x15 x16 x17 x18 x19 x20 x21 x22 x23 x24 x25 x26 x27 x28 x29 x30 x31 x32 x33 x34 x35 x36 x37 x38 x39 x40 x41 x42 x43 x44 x45 x46 x47 x48 x49 x50 x51 x52 x53 x54 x55 x56 x57 x58 x59 x60 x61 x62 x63 : Value) (base : Nat) (w wc : World) (b o n c k g3 : Nat) (p : Pk) (E : En)
    (hR : OnRel base w g3 E wc)
    (hOk : OkE k E)
    (hlt : k < n)
    (hn : k < 64)
    (hbw : b < w.heap.size)
    (hbase : base = w.heap.size)
    (c0 : w.cell? ⟨b, o + k * 2, none⟩ = some (Value.int .i64 p.id))
    (c1 : w.cell? ⟨b, o + k * 2 + 1, none⟩ = some (Value.slice p.A p.n p.c))
    (hp : Pay w p)
    {J K' : Act → World → Prop} {Q0 : Exit → Act → World → Prop} (hJ : ∀ a' w', (∃ u13 u14 u15 u16 u17 u18 u19 u20 u21 u22 u23 u24 u25 u26 u27 u28 u29 : Value, (OnRel base w g3 (mv E 0 false p.abs) w') ∧ a' = ⟨#[Value.slice (some ⟨b, o, none⟩) n c, x1, x2, Value.pointer (some ⟨g3, 0, none⟩), Value.int .i64 (k : Int), x5, x6, x7, x8, x9, x10, x11, x12, u13, u14, u15, u16, u17, u18, u19, u20, u21, u22, u23, u24, u25, u26, u27, u28, u29, x30, x31, x32, x33, x34, x35, x36, x37, x38, x39, x40, x41, x42, x43, x44, x45, x46, x47, x48, x49, x50, x51, x52, x53, x54, x55, x56, x57, x58, x59, x60, x61, x62, x63], []⟩) → J a' w') (hM : ∀ a' w', Met J a' w' → K' a' w') (hQ0 : ∀ (c : List PanicEntry) (x : Act) (t : Option Tmp) (v : Value) (u : World), Q0 (.panic c) (x.put t v) u → Q0 (.panic c) x u) :
    Code.wp Try.prog (pgCode 7) (Exit.then K' Q0) ⟨#[Value.slice (some ⟨b, o, none⟩) n c, x1, x2, Value.pointer (some ⟨g3, 0, none⟩), Value.int .i64 (k : Int), x5, x6, x7, x8, x9, x10, x11, x12, x13, x14, x15, x16, x17, x18, x19, x20, x21, x22, x23, x24, x25, x26, x27, x28, x29, x30, x31, x32, x33, x34, x35, x36, x37, x38, x39, x40, x41, x42, x43, x44, x45, x46, x47, x48, x49, x50, x51, x52, x53, x54, x55, x56, x57, x58, x59, x60, x61, x62, x63], []⟩ wc := by
  conv => arg 2; whnf
  subst hbase
  have hkn : (k : Int) < (n : Int) := by omega
  have S_ : ∀ {u : World}, Below w.heap.size w u → u.cell? ⟨b, o + k * 2, none⟩ = some (Value.int .i64 p.id) ∧ u.cell? ⟨b, o + k * 2 + 1, none⟩ = some (Value.slice p.A p.n p.c) := fun h => ⟨(h.cell (p := ⟨b, o + k * 2, none⟩) hbw).trans c0, (h.cell (p := ⟨b, o + k * 2 + 1, none⟩) hbw).trans c1⟩
  have hR2 := hR.keep (Below.refl _ _).drew
  obtain ⟨M, hE, kx, hg3, hbe⟩ := hR2
  have hps : ∀ b ∈ foot p.A p.n, b < w.heap.size := pay_lt hp
  have hpw := hp.below hbe
  have hsz := hbe.size
  have HX := hide (show wc.drew.heap[g3]? = some (.cells (enCells E M) 52 (0, 0)) from kx)
  have hzr : ∀ z ∈ [g3], w.heap.size ≤ z ∧ z < wc.drew.heap.size := fun z hz => by simp only [List.mem_singleton] at hz; subst hz; exact ⟨hg3, kx.lt⟩
  have hrn : ∀ i, i < 4 → (M.r i).n ≤ 100000 := fun i hi => by rw [hE.row hi]; have := hOk.r i hi; omega
  have HM := moved_any [g3] E M ⟨0, false, p⟩ w.heap.size k wc.drew hsz hE hzr hpw hps (by omega) hOk.s0 hOk.s1 hrn
  have HS := @S_
  clear c0 c1 hR S_ hzr hrn hE
  refine wp_region_held_drew (S := (fun w' => w'.cell? ⟨b, o + k * 2, none⟩ = some (Value.int .i64 p.id) ∧ w'.cell? ⟨b, o + k * 2 + 1, none⟩ = some (Value.slice p.A p.n p.c))) (by kernel_rfl) (HS hbe) (fun hHeld => ?_)
  refine' wpAnyH_take (i := 1) ?hih1 ?hsh1 ?hfh1 ?hrh1 ?hQh1 ?hyh1 ?hSh1 ?resth1
  case hih1 =>
    simp only [List.getElem?_toArray, List.getElem?_cons_succ, List.getElem?_cons_zero]
    all_goals rfl
  case hsh1 => kernel_rfl
  case hfh1 => kernel_rfl
  case hrh1 => kernel_rfl
  case hQh1 => exact fun c x u h => hQ0 c x _ _ u h
  case hSh1 => assumption
  case hyh1 =>
    refine Or.inl ⟨by rfl, ?_⟩
    intro w hSw
    try dsimp only at hSw
    go_simp
    all_goals with_reducible rfl
  try simp only [Act.put, List.setIfInBounds_toArray, List.set_cons_zero, List.set_cons_succ]
  refine' wpAnyH_take (i := 2) ?hih2 ?hsh2 ?hfh2 ?hrh2 ?hQh2 ?hyh2 ?hSh2 ?resth2
  case hih2 =>
    simp only [List.getElem?_toArray, List.getElem?_cons_succ, List.getElem?_cons_zero]
    all_goals rfl
  case hsh2 => kernel_rfl
  case hfh2 => kernel_rfl
  case hrh2 => kernel_rfl
  case hQh2 => exact fun c x u h => hQ0 c x _ _ u h
  case hSh2 => assumption
  case hyh2 =>
    refine Or.inl ⟨by rfl, ?_⟩
    intro w hSw
    try dsimp only at hSw
    go_simp
    all_goals with_reducible rfl
  try simp only [Act.put, List.setIfInBounds_toArray, List.set_cons_zero, List.set_cons_succ]
  refine' wpAnyH_take (i := 3) ?hih3 ?hsh3 ?hfh3 ?hrh3 ?hQh3 ?hyh3 ?hSh3 ?resth3
  case hih3 =>
    simp only [List.getElem?_toArray, List.getElem?_cons_succ, List.getElem?_cons_zero]
    all_goals rfl
  case hsh3 => kernel_rfl
  case hfh3 => kernel_rfl
  case hrh3 => kernel_rfl
  case hQh3 => exact fun c x u h => hQ0 c x _ _ u h
  case hSh3 => assumption
  case hyh3 =>
    refine Or.inl ⟨by rfl, ?_⟩
    intro w hSw
    try dsimp only at hSw
    go_simp
    all_goals with_reducible rfl
  try simp only [Act.put, List.setIfInBounds_toArray, List.set_cons_zero, List.set_cons_succ]
  refine' wpAnyH_take (i := 4) ?hih4 ?hsh4 ?hfh4 ?hrh4 ?hQh4 ?hyh4 ?hSh4 ?resth4
  case hih4 =>
    simp only [List.getElem?_toArray, List.getElem?_cons_succ, List.getElem?_cons_zero]
    all_goals rfl
  case hsh4 => kernel_rfl
  case hfh4 => kernel_rfl
  case hrh4 => kernel_rfl
  case hQh4 => exact fun c x u h => hQ0 c x _ _ u h
  case hSh4 => assumption
  case hyh4 =>
    refine Or.inl ⟨by rfl, ?_⟩
    intro w hSw
    try dsimp only at hSw
    go_simp
    all_goals with_reducible rfl
  try simp only [Act.put, List.setIfInBounds_toArray, List.set_cons_zero, List.set_cons_succ]
  refine' wpAnyH_take (i := 5) ?hih5 ?hsh5 ?hfh5 ?hrh5 ?hQh5 ?hyh5 ?hSh5 ?resth5
  case hih5 =>
    simp only [List.getElem?_toArray, List.getElem?_cons_succ, List.getElem?_cons_zero]
    all_goals rfl
  case hsh5 => kernel_rfl
  case hfh5 => kernel_rfl
  case hrh5 => kernel_rfl
  case hQh5 => exact fun c x u h => hQ0 c x _ _ u h
  case hSh5 => assumption
  case hyh5 =>
    refine Or.inl ⟨by rfl, ?_⟩
    intro w hSw
    try dsimp only at hSw
    go_simp
    all_goals with_reducible rfl
  try simp only [Act.put, List.setIfInBounds_toArray, List.set_cons_zero, List.set_cons_succ]
  refine wpAnyH_ready (rs := [0]) (by kernel_rfl) (by simp) ?_
  refine AllReadyH.cons rfl (fun K hK => ?_) AllReadyH.nil
  refine step_load_row rfl _ (.tmp 3) rfl g3 rfl _ _ _ _ HX.out Try.underlying52 rfl (by kernel_rfl) ?_
  try go_wp2_with fail
  refine hK.out _ _ ?_ (fun hHeld => ?_)
  · exact hHeld
  clear hK K
  try simp only [Act.put, List.setIfInBounds_toArray, List.set_cons_zero, List.set_cons_succ]
  refine wpAnyH_ready (rs := [6]) (by kernel_rfl) (by simp) ?_
  refine AllReadyH.cons rfl (fun K hK => ?_) AllReadyH.nil
  go_simp
  refine HM.mono ?_
  rintro e v1 ⟨M', rfl, hE', hb1, hz1⟩
  have hON := onRel_set kx hg3 hbe hE' hb1 hz1
  have HO := hide hON.1
  have HN := hide hON.2
  have H1 := hide (enCells_one hE')
  clear hON HX
  try go_wp2_with fail
  refine hK.out _ _ ?_ (fun hHeld => ?_)
  · exact HS (hbe.trans hb1)
  clear hK K
  try simp only [Act.put, List.setIfInBounds_toArray, List.set_cons_zero, List.set_cons_succ]
  refine wpAnyH_ready (rs := [7]) (by kernel_rfl) (by simp) ?_
  refine AllReadyH.cons rfl (fun K hK => ?_) AllReadyH.nil
  refine step_store_row rfl _ (.tmp 3) (.tmp 29) rfl g3 _ rfl rfl _ _ HO.out (by kernel_rfl) rfl H1.out ?_
  try go_wp2_with fail
  refine hK.out _ _ ?_ (fun hHeld => ?_)
  · exact HS (HN.out.choose_spec.2.2.2)
  clear hK K
  try simp only [Act.put, List.setIfInBounds_toArray, List.set_cons_zero, List.set_cons_succ]
  refine wpAnyH_done (by kernel_rfl) ?_ _
  go_wp2
  go_meet
  case rel => exact HN.out
end Go.Proofs.Ytobljnbpokijdaa
