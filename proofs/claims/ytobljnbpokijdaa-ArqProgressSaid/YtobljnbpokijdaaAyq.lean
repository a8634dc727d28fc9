/-
  A step of the laws' loops, put back into its box (ArqOnce, region 9).
-/
import Derived.Test.YtobljnbpokijdaaAym
import Derived.Test.YtobljnbpokijdaaAyn
import Derived.Test.YtobljnbpokijdaaAyo
import Derived.Test.YtobljnbpokijdaaAyp
import Derived.Test.YtobljnbpokijdaaAqt
import Derived.Deep.RegionHeld3
import Derived.Deep.LoopGhost
import Derived.Deep.CutBlock

namespace Go.Proofs.Ytobljnbpokijdaa
set_option linter.unusedVariables false
set_option linter.unusedSimpArgs false
open Go.RowKit
/-- A whole row is loaded, or stored, as one step of a region that draws its order. -/
theorem step_load_row {P : Program} {ops : Array Oper} {o : Oper} {a : Act} {w : World} {K : Act → World → Prop} {Q : Exit → Act → World → Prop} {E : Prop} (hgd : o.guard = none) (ty : TypeId) (x : Operand) (ho : o.op = .load ty x)
    (g : Nat) (hx : a.eval x = .pointer (some ⟨g, 0, none⟩)) (t : TypeId) (cs : Array Value) (fr : Nat × Nat) (d : TypeDesc) (hg : w.heap[g]? = some (.cells cs t fr))
    (hu : P.underlying ty = some d) (hd : (match d with | .struct _ | .array _ _ => true | _ => false) = true) (hi : (P.info? ty).map (·.size) = some cs.size)
    (h : K (a.put o.dst (.agg cs)) w) : if Region.wanted o (yielded ops a.tmps) = true then Oper.wp P o a w K Q else E := by
  rw [if_pos (by simp [Region.wanted, hgd])]
  exact wp_load_row ty x ho g hx t cs fr d hg hu hd hi h
theorem step_store_row {P : Program} {ops : Array Oper} {o : Oper} {a : Act} {w : World} {K : Act → World → Prop} {Q : Exit → Act → World → Prop} {E : Prop} (hgd : o.guard = none) (ty : TypeId) (x y : Operand) (ho : o.op = .store ty x y)
    (g : Nat) (cells : Array Value) (hx : a.eval x = .pointer (some ⟨g, 0, none⟩)) (hy : a.eval y = .agg cells)
    (t : TypeId) (old : Array Value) (hg : w.heap[g]? = some (.cells old t (0, 0))) (hi : (P.info? ty).map (·.size) = some cells.size)
    (hold : old.size = cells.size) (h1 : cells.all (·.oneCell') = true)
    (h : K (a.put o.dst undef) (w.setRow g cells)) : if Region.wanted o (yielded ops a.tmps) = true then Oper.wp P o a w K Q else E := by
  rw [if_pos (by simp [Region.wanted, hgd])]
  exact wp_store_row ty x y ho g cells hx hy t old hg hi hold h1 h
theorem wpList_load_row_w {P : Program} {ops : Array Oper} {rest : List Oper} {o : Oper} {a : Act} {w : World} {Q : Exit → Act → World → Prop} (hw : Region.wanted o (yielded ops a.tmps) = true) (ty : TypeId) (x : Operand) (ho : o.op = .load ty x)
    (g : Nat) (hx : a.eval x = .pointer (some ⟨g, 0, none⟩)) (t : TypeId) (cs : Array Value) (fr : Nat × Nat) (d : TypeDesc) (hg : w.heap[g]? = some (.cells cs t fr))
    (hu : P.underlying ty = some d) (hd : (match d with | .struct _ | .array _ _ => true | _ => false) = true) (hi : (P.info? ty).map (·.size) = some cs.size)
    (h : wpList P ops Q rest (a.put o.dst (.agg cs)) w) : wpList P ops Q (o :: rest) a w :=
  wpList_step fun K hK => by rw [if_pos hw]; exact wp_load_row ty x ho g hx t cs fr d hg hu hd hi (hK _ _ h)
/-- Both ends at the beginning. -/
def E0 : En := ⟨fun _ => ⟨0, 0, [], false, false, 0, 0⟩, fun _ => []⟩
def M0 : Mm := ⟨fun _ => ⟨none, 0, 0, []⟩, fun _ => ⟨.slice none 0 0, 0, [], none⟩⟩
theorem OkE.start : OkE 0 E0 := ⟨Ok.start, Ok.start, fun _ _ => Nat.le_refl _⟩
theorem Emem.start (base : Nat) (Z : List Nat) (w : World) : Emem base Z w E0 M0 :=
  ⟨fun _ _ => ⟨PRd.nil _ _, rfl, Nat.le_refl _⟩, fun _ _ => OwnG.empty _ _ _ _ _, fun _ _ q hq => by (cases hq), fun _ _ => rfl, fun _ _ g hg => by (cases hg), fun _ _ g hg => by (cases hg), fun _ _ g hg => by (cases hg), fun _ _ g hg => by (cases hg), fun _ _ _ _ h => by (simp [M0, Qm.feet, feetQ, foot, feetP] at h), fun _ _ _ _ h => by (simp [M0, feetP] at h)⟩
/-- The state of the laws' loops: both ends in the box g3. -/
def OnRel (base : Nat) (w : World) (g3 : Nat) (E : En) (wr : World) : Prop := ∃ M, Emem base [g3] wr E M ∧ Blk wr g3 52 (enCells E M) ∧ base ≤ g3 ∧ Below base w wr
theorem OkE.mono {k j : Nat} {E : En} (h : OkE k E) (hk : k ≤ j) : OkE j E := ⟨h.s0.mono hk, h.s1.mono hk, fun i hi => Nat.le_trans (h.r i hi) hk⟩
theorem OnRel.keep {base : Nat} {w : World} {g3 : Nat} {E : En} {wr w' : World} (h : OnRel base w g3 E wr) (hb : Below wr.heap.size wr w') : OnRel base w g3 E w' := by
  obtain ⟨M, h1, h2, h3, h4⟩ := h
  exact ⟨M, h1.keep (.of_below hb), h2.below hb h2.lt, h3, h4.trans (hb.mono (Nat.le_trans h3 (Nat.le_of_lt h2.lt)))⟩
/-- A step is taken and put back into the box. -/
theorem onRel_set {base : Nat} {w : World} {g3 : Nat} {E E' : En} {M M' : Mm} {wc v1 : World} (h2 : Blk wc g3 52 (enCells E M)) (h3 : base ≤ g3) (h4 : Below base w wc)
    (hE : Emem base [g3] v1 E' M') (hb : Below base wc v1) (hz : ∀ z ∈ [g3], v1.heap[z]? = wc.heap[z]?) : v1.heap[g3]? = some (.cells (enCells E M) 52 (0, 0)) ∧ OnRel base w g3 E' (v1.setRow g3 (enCells E' M')) := by
  have hg : v1.heap[g3]? = some (.cells (enCells E M) 52 (0, 0)) := (hz g3 (by simp)).trans h2
  exact ⟨hg, M', hE.keep ((Keeps.refl _ _).setRow (by simp) _), setRow_heap _ _ _ _ _ _ hg, h3, below_setRow (h4.trans hb) h3 _⟩
noncomputable def onCode (n : Nat) : Code := ((Try.f4.body.bind (regOf n)).getD .skip)
set_option maxRecDepth 100000 in
set_option maxHeartbeats 100000000 in
theorem on_r9 (x1 x2 x5 x6 x7 x8 x9 x10 x11 x12 x13 x14 x15 x16 x17 x18 x19 x20 x21 x22 x23 x24 x25 x26 x27 x28 x29 x30 x31 x32 x33 : Value) (base : Nat) (w wc : World) (b o n c k g3 : Nat) (x : Stp) (E : En)
    (hR : OnRel base w g3 E wc)
    (hOk : OkE k E)
    (hlt : k < n)
    (hn : n ≤ 100)
    (hbw : b < w.heap.size)
    (hbase : base = w.heap.size)
    (c0 : w.cell? ⟨b, o + k * 4, none⟩ = some (Value.int .i64 x.d))
    (c1 : w.cell? ⟨b, o + k * 4 + 1, none⟩ = some (Value.bool x.lost))
    (c2 : w.cell? ⟨b, o + k * 4 + 2, none⟩ = some (Value.int .i64 x.p.id))
    (c3 : w.cell? ⟨b, o + k * 4 + 3, none⟩ = some (Value.slice x.p.A x.p.n x.p.c))
    (hp : Pay w x.p)
    {J K' : Act → World → Prop} {Q0 : Exit → Act → World → Prop} (hJ : ∀ a' w', (∃ u14 u15 u16 u17 u18 u19 u20 u21 u22 u23 u24 u25 u26 u27 u28 u29 u30 u31 u32 u33 : Value, (OnRel base w g3 (mv E x.d x.lost x.p.abs) w') ∧ a' = ⟨#[Value.slice (some ⟨b, o, none⟩) n c, x1, x2, Value.pointer (some ⟨g3, 0, none⟩), Value.int .i64 (k : Int), x5, x6, x7, x8, x9, x10, x11, x12, x13, u14, u15, u16, u17, u18, u19, u20, u21, u22, u23, u24, u25, u26, u27, u28, u29, u30, u31, u32, u33], []⟩) → J a' w') (hM : ∀ a' w', Met J a' w' → K' a' w') (hQ0 : ∀ (c : List PanicEntry) (x : Act) (t : Option Tmp) (v : Value) (u : World), Q0 (.panic c) (x.put t v) u → Q0 (.panic c) x u) :
    Code.wp Try.prog (onCode 9) (Exit.then K' Q0) ⟨#[Value.slice (some ⟨b, o, none⟩) n c, x1, x2, Value.pointer (some ⟨g3, 0, none⟩), Value.int .i64 (k : Int), x5, x6, x7, x8, x9, x10, x11, x12, x13, x14, x15, x16, x17, x18, x19, x20, x21, x22, x23, x24, x25, x26, x27, x28, x29, x30, x31, x32, x33], []⟩ wc := by
  conv => arg 2; whnf
  subst hbase
  have hkn : (k : Int) < (n : Int) := by omega
  have S_ : ∀ {u : World}, Below w.heap.size w u → u.cell? ⟨b, o + k * 4, none⟩ = some (Value.int .i64 x.d) ∧ u.cell? ⟨b, o + k * 4 + 1, none⟩ = some (Value.bool x.lost) ∧ u.cell? ⟨b, o + k * 4 + 2, none⟩ = some (Value.int .i64 x.p.id) ∧ u.cell? ⟨b, o + k * 4 + 3, none⟩ = some (Value.slice x.p.A x.p.n x.p.c) := fun h => ⟨(h.cell (p := ⟨b, o + k * 4, none⟩) hbw).trans c0, (h.cell (p := ⟨b, o + k * 4 + 1, none⟩) hbw).trans c1, (h.cell (p := ⟨b, o + k * 4 + 2, none⟩) hbw).trans c2, (h.cell (p := ⟨b, o + k * 4 + 3, none⟩) hbw).trans c3⟩
  have hR2 := hR.keep (Below.refl _ _).drew
  obtain ⟨M, hE, kx, hg3, hbe⟩ := hR2
  have hps : ∀ b ∈ foot x.p.A x.p.n, b < w.heap.size := pay_lt hp
  have hpw := hp.below hbe
  have hsz := hbe.size
  have HX := hide (show wc.drew.heap[g3]? = some (.cells (enCells E M) 52 (0, 0)) from kx)
  have hzr : ∀ z ∈ [g3], w.heap.size ≤ z ∧ z < wc.drew.heap.size := fun z hz => by simp only [List.mem_singleton] at hz; subst hz; exact ⟨hg3, kx.lt⟩
  have hrn : ∀ i, i < 4 → (M.r i).n ≤ 100000 := fun i hi => by rw [hE.row hi]; have := hOk.r i hi; omega
  have HM := moved_any [g3] E M x w.heap.size k wc.drew hsz hE hzr hpw hps (by omega) hOk.s0 hOk.s1 hrn
  have HS := @S_
  clear c0 c1 c2 c3 hR S_ hzr hrn hE
  refine wp_region_held_drew (S := (fun w' => w'.cell? ⟨b, o + k * 4, none⟩ = some (Value.int .i64 x.d) ∧ w'.cell? ⟨b, o + k * 4 + 1, none⟩ = some (Value.bool x.lost) ∧ w'.cell? ⟨b, o + k * 4 + 2, none⟩ = some (Value.int .i64 x.p.id) ∧ w'.cell? ⟨b, o + k * 4 + 3, none⟩ = some (Value.slice x.p.A x.p.n x.p.c))) (by kernel_rfl) (HS hbe) (fun hHeld => ?_)
  refine' wpAnyH_take (i := 1) ?hih1 ?hsh1 ?hfh1 ?hrh1 ?hQh1 ?hyh1 ?hSh1 ?resth1
  case hih1 =>
    simp only [List.getElem?_toArray, List.getElem?_cons_succ, List.getElem?_cons_zero]
    all_goals rfl
  case hsh1 => kernel_rfl
  case hfh1 => kernel_rfl
  case hrh1 => kernel_rfl
  case hQh1 => exact fun c x u h => hQ0 c x _ _ u h
  case hSh1 => assumption
  case hyh1 =>
    refine Or.inl ⟨by rfl, ?_⟩
    intro w hSw
    try dsimp only at hSw
    go_simp
    all_goals with_reducible rfl
  try simp only [Act.put, List.setIfInBounds_toArray, List.set_cons_zero, List.set_cons_succ]
  refine' wpAnyH_take (i := 2) ?hih2 ?hsh2 ?hfh2 ?hrh2 ?hQh2 ?hyh2 ?hSh2 ?resth2
  case hih2 =>
    simp only [List.getElem?_toArray, List.getElem?_cons_succ, List.getElem?_cons_zero]
    all_goals rfl
  case hsh2 => kernel_rfl
  case hfh2 => kernel_rfl
  case hrh2 => kernel_rfl
  case hQh2 => exact fun c x u h => hQ0 c x _ _ u h
  case hSh2 => assumption
  case hyh2 =>
    refine Or.inl ⟨by rfl, ?_⟩
    intro w hSw
    try dsimp only at hSw
    go_simp
    all_goals with_reducible rfl
  try simp only [Act.put, List.setIfInBounds_toArray, List.set_cons_zero, List.set_cons_succ]
  refine' wpAnyH_take (i := 3) ?hih3 ?hsh3 ?hfh3 ?hrh3 ?hQh3 ?hyh3 ?hSh3 ?resth3
  case hih3 =>
    simp only [List.getElem?_toArray, List.getElem?_cons_succ, List.getElem?_cons_zero]
    all_goals rfl
  case hsh3 => kernel_rfl
  case hfh3 => kernel_rfl
  case hrh3 => kernel_rfl
  case hQh3 => exact fun c x u h => hQ0 c x _ _ u h
  case hSh3 => assumption
  case hyh3 =>
    refine Or.inl ⟨by rfl, ?_⟩
    intro w hSw
    try dsimp only at hSw
    go_simp
    all_goals with_reducible rfl
  try simp only [Act.put, List.setIfInBounds_toArray, List.set_cons_zero, List.set_cons_succ]
  refine' wpAnyH_take (i := 4) ?hih4 ?hsh4 ?hfh4 ?hrh4 ?hQh4 ?hyh4 ?hSh4 ?resth4
  case hih4 =>
    simp only [List.getElem?_toArray, List.getElem?_cons_succ, List.getElem?_cons_zero]
    all_goals rfl
  case hsh4 => kernel_rfl
  case hfh4 => kernel_rfl
  case hrh4 => kernel_rfl
  case hQh4 => exact fun c x u h => hQ0 c x _ _ u h
  case hSh4 => assumption
  case hyh4 =>
    refine Or.inl ⟨by rfl, ?_⟩
    intro w hSw
    try dsimp only at hSw
    go_simp
    all_goals with_reducible rfl
  try simp only [Act.put, List.setIfInBounds_toArray, List.set_cons_zero, List.set_cons_succ]
  refine wpAnyH_ready (rs := [0]) (by kernel_rfl) (by simp) ?_
  refine AllReadyH.cons rfl (fun K hK => ?_) AllReadyH.nil
  refine step_load_row rfl _ (.tmp 3) rfl g3 rfl _ _ _ _ HX.out Try.underlying52 rfl (by kernel_rfl) ?_
  try go_wp2_with fail
  refine hK.out _ _ ?_ (fun hHeld => ?_)
  · exact hHeld
  clear hK K
  try simp only [Act.put, List.setIfInBounds_toArray, List.set_cons_zero, List.set_cons_succ]
  refine wpAnyH_ready (rs := [5]) (by kernel_rfl) (by simp) ?_
  refine AllReadyH.cons rfl (fun K hK => ?_) AllReadyH.nil
  go_simp
  refine HM.mono ?_
  rintro e v1 ⟨M', rfl, hE', hb1, hz1⟩
  have hON := onRel_set kx hg3 hbe hE' hb1 hz1
  have HO := hide hON.1
  have HN := hide hON.2
  have H1 := hide (enCells_one hE')
  clear hON HX
  try go_wp2_with fail
  refine hK.out _ _ ?_ (fun hHeld => ?_)
  · exact HS (hbe.trans hb1)
  clear hK K
  try simp only [Act.put, List.setIfInBounds_toArray, List.set_cons_zero, List.set_cons_succ]
  refine wpAnyH_ready (rs := [6]) (by kernel_rfl) (by simp) ?_
  refine AllReadyH.cons rfl (fun K hK => ?_) AllReadyH.nil
  refine step_store_row rfl _ (.tmp 3) (.tmp 25) rfl g3 _ rfl rfl _ _ HO.out (by kernel_rfl) rfl H1.out ?_
  try go_wp2_with fail
  refine hK.out _ _ ?_ (fun hHeld => ?_)
  · exact HS (HN.out.choose_spec.2.2.2)
  clear hK K
  try simp only [Act.put, List.setIfInBounds_toArray, List.set_cons_zero, List.set_cons_succ]
  refine wpAnyH_done (by kernel_rfl) ?_ _
  go_wp2
  go_meet
  case rel => exact HN.out
end Go.Proofs.Ytobljnbpokijdaa
