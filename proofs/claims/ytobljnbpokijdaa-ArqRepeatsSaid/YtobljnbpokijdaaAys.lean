/-
  The walk of ArqRepeats: the rounds of its loops (regions 9 and 14).
-/
import Derived.Test.YtobljnbpokijdaaAyq
import Derived.Test.YtobljnbpokijdaaAqv

namespace Go.Proofs.Ytobljnbpokijdaa
set_option linter.unusedVariables false
set_option linter.unusedSimpArgs false
open Go.RowKit
noncomputable def rpCode (n : Nat) : Code := ((Try.f5.body.bind (regOf n)).getD .skip)
set_option maxRecDepth 100000 in
set_option maxHeartbeats 100000000 in
theorem rp_r9 (x1 x2 x3 x4 x7 x8 x9 x10 x11 x12 x13 x14 x15 x16 x17 x18 x19 x20 x21 x22 x23 x24 x25 x26 x27 x28 x29 x30 x31 x32 x33 x34 x35 x36 x37 x38 x39 x40 x41 x42 x43 x44 x45 x46 x47 x48 x49 x50 x51 x52 x53 x54 x55 x56 x57 x58 x59 x60 x61 x62 x63 x64 x65 x66 x67 x68 x69 x70 x71 x72 x73 x74 x75 x76 x77 x78 x79 x80 x81 x82 x83 x84 x85 x86 x87 x88 x89 x90 x91 : Value) (base : Nat) (w wc : World) (b o n c k g3 : Nat) (x : Stp) (E : En)
    (hR : OnRel base w g3 E wc)
    (hOk : OkE k E)
    (hlt : k < n)
    (hn : n ≤ 100)
    (hbw : b < w.heap.size)
    (hbase : base = w.heap.size)
    (c0 : w.cell? ⟨b, o + k * 4, none⟩ = some (Value.int .i64 x.d))
    (c1 : w.cell? ⟨b, o + k * 4 + 1, none⟩ = some (Value.bool x.lost))
    (c2 : w.cell? ⟨b, o + k * 4 + 2, none⟩ = some (Value.int .i64 x.p.id))
    (c3 : w.cell? ⟨b, o + k * 4 + 3, none⟩ = some (Value.slice x.p.A x.p.n x.p.c))
    (hp : Pay w x.p)
    {J K' : Act → World → Prop} {Q0 : Exit → Act → World → Prop} (hJ : ∀ a' w', (∃ u26 u27 u28 u29 u30 u31 u32 u33 u34 u35 u36 u37 : Value, (OnRel base w g3 (mv E x.d x.lost x.p.abs) w') ∧ a' = ⟨#[Value.slice (some ⟨b, o, none⟩) n c, x1, x2, x3, x4, Value.pointer (some ⟨g3, 0, none⟩), Value.int .i64 (k : Int), x7, x8, x9, x10, x11, x12, x13, x14, x15, x16, x17, x18, x19, x20, x21, x22, x23, x24, x25, u26, u27, u28, u29, u30, u31, u32, u33, u34, u35, u36, u37, x38, x39, x40, x41, x42, x43, x44, x45, x46, x47, x48, x49, x50, x51, x52, x53, x54, x55, x56, x57, x58, x59, x60, x61, x62, x63, x64, x65, x66, x67, x68, x69, x70, x71, x72, x73, x74, x75, x76, x77, x78, x79, x80, x81, x82, x83, x84, x85, x86, x87, x88, x89, x90, x91], []⟩) → J a' w') (hM : ∀ a' w', Met J a' w' → K' a' w') (hQ0 : ∀ (c : List PanicEntry) (x : Act) (t : Option Tmp) (v : Value) (u : World), Q0 (.panic c) (x.put t v) u → Q0 (.panic c) x u) :
    Code.wp Try.prog (rpCode 9) (Exit.then K' Q0) ⟨#[Value.slice (some ⟨b, o, none⟩) n c, x1, x2, x3, x4, Value.pointer (some ⟨g3, 0, none⟩), Value.int .i64 (k : Int), x7, x8, x9, x10, x11, x12, x13, x14, x15, x16, x17, x18, x19, x20, x21, x22, x23, x24, x25, x26, x27, x28, x29, x30, x31, x32, x33, x34, x35, x36, x37, x38, x39, x40, x41, x42, x43, x44, x45, x46, x47, x48, x49, x50, x51, x52, x53, x54, x55, x56, x57, x58, x59, x60, x61, x62, x63, x64, x65, x66, x67, x68, x69, x70, x71, x72, x73, x74, x75, x76, x77, x78, x79, x80, x81, x82, x83, x84, x85, x86, x87, x88, x89, x90, x91], []⟩ wc := by
  conv => arg 2; whnf
  subst hbase
  have hkn : (k : Int) < (n : Int) := by omega
  have S_ : ∀ {u : World}, Below w.heap.size w u → u.cell? ⟨b, o + k * 4, none⟩ = some (Value.int .i64 x.d) ∧ u.cell? ⟨b, o + k * 4 + 1, none⟩ = some (Value.bool x.lost) ∧ u.cell? ⟨b, o + k * 4 + 2, none⟩ = some (Value.int .i64 x.p.id) ∧ u.cell? ⟨b, o + k * 4 + 3, none⟩ = some (Value.slice x.p.A x.p.n x.p.c) := fun h => ⟨(h.cell (p := ⟨b, o + k * 4, none⟩) hbw).trans c0, (h.cell (p := ⟨b, o + k * 4 + 1, none⟩) hbw).trans c1, (h.cell (p := ⟨b, o + k * 4 + 2, none⟩) hbw).trans c2, (h.cell (p := ⟨b, o + k * 4 + 3, none⟩) hbw).trans c3⟩
  have hR2 := hR.keep (Below.refl _ _).drew
  obtain ⟨M, hE, kx, hg3, hbe⟩ := hR2
  have hps : ∀ b ∈ foot x.p.A x.p.n, b < w.heap.size := pay_lt hp
  have hpw := hp.below hbe
  have hsz := hbe.size
  have HX := hide (show wc.drew.heap[g3]? = some (.cells (enCells E M) 52 (0, 0)) from kx)
  have hzr : ∀ z ∈ [g3], w.heap.size ≤ z ∧ z < wc.drew.heap.size := fun z hz => by simp only [List.mem_singleton] at hz; subst hz; exact ⟨hg3, kx.lt⟩
  have hrn : ∀ i, i < 4 → (M.r i).n ≤ 100000 := fun i hi => by rw [hE.row hi]; have := hOk.r i hi; omega
  have HM := moved_any [g3] E M x w.heap.size k wc.drew hsz hE hzr hpw hps (by omega) hOk.s0 hOk.s1 hrn
  have HS := @S_
  clear c0 c1 c2 c3 hR S_ hzr hrn hE
  refine wp_region_held_drew (S := (fun w' => w'.cell? ⟨b, o + k * 4, none⟩ = some (Value.int .i64 x.d) ∧ w'.cell? ⟨b, o + k * 4 + 1, none⟩ = some (Value.bool x.lost) ∧ w'.cell? ⟨b, o + k * 4 + 2, none⟩ = some (Value.int .i64 x.p.id) ∧ w'.cell? ⟨b, o + k * 4 + 3, none⟩ = some (Value.slice x.p.A x.p.n x.p.c))) (by kernel_rfl) (HS hbe) (fun hHeld => ?_)
  refine' wpAnyH_take (i := 1) ?hih8 ?hsh8 ?hfh8 ?hrh8 ?hQh8 ?hyh8 ?hSh8 ?resth8
  case hih8 =>
    simp only [List.getElem?_toArray, List.getElem?_cons_succ, List.getElem?_cons_zero]
    all_goals rfl
  case hsh8 => kernel_rfl
  case hfh8 => kernel_rfl
  case hrh8 => kernel_rfl
  case hQh8 => exact fun c x u h => hQ0 c x _ _ u h
  case hSh8 => assumption
  case hyh8 =>
    refine Or.inl ⟨by rfl, ?_⟩
    intro w hSw
    try dsimp only at hSw
    go_simp
    all_goals with_reducible rfl
  try simp only [Act.put, List.setIfInBounds_toArray, List.set_cons_zero, List.set_cons_succ]
  refine' wpAnyH_take (i := 2) ?hih9 ?hsh9 ?hfh9 ?hrh9 ?hQh9 ?hyh9 ?hSh9 ?resth9
  case hih9 =>
    simp only [List.getElem?_toArray, List.getElem?_cons_succ, List.getElem?_cons_zero]
    all_goals rfl
  case hsh9 => kernel_rfl
  case hfh9 => kernel_rfl
  case hrh9 => kernel_rfl
  case hQh9 => exact fun c x u h => hQ0 c x _ _ u h
  case hSh9 => assumption
  case hyh9 =>
    refine Or.inl ⟨by rfl, ?_⟩
    intro w hSw
    try dsimp only at hSw
    go_simp
    all_goals with_reducible rfl
  try simp only [Act.put, List.setIfInBounds_toArray, List.set_cons_zero, List.set_cons_succ]
  refine' wpAnyH_take (i := 3) ?hih10 ?hsh10 ?hfh10 ?hrh10 ?hQh10 ?hyh10 ?hSh10 ?resth10
  case hih10 =>
    simp only [List.getElem?_toArray, List.getElem?_cons_succ, List.getElem?_cons_zero]
    all_goals rfl
  case hsh10 => kernel_rfl
  case hfh10 => kernel_rfl
  case hrh10 => kernel_rfl
  case hQh10 => exact fun c x u h => hQ0 c x _ _ u h
  case hSh10 => assumption
  case hyh10 =>
    refine Or.inl ⟨by rfl, ?_⟩
    intro w hSw
    try dsimp only at hSw
    go_simp
    all_goals with_reducible rfl
  try simp only [Act.put, List.setIfInBounds_toArray, List.set_cons_zero, List.set_cons_succ]
  refine' wpAnyH_take (i := 4) ?hih11 ?hsh11 ?hfh11 ?hrh11 ?hQh11 ?hyh11 ?hSh11 ?resth11
  case hih11 =>
    simp only [List.getElem?_toArray, List.getElem?_cons_succ, List.getElem?_cons_zero]
    all_goals rfl
  case hsh11 => kernel_rfl
  case hfh11 => kernel_rfl
  case hrh11 => kernel_rfl
  case hQh11 => exact fun c x u h => hQ0 c x _ _ u h
  case hSh11 => assumption
  case hyh11 =>
    refine Or.inl ⟨by rfl, ?_⟩
    intro w hSw
    try dsimp only at hSw
    go_simp
    all_goals with_reducible rfl
  try simp only [Act.put, List.setIfInBounds_toArray, List.set_cons_zero, List.set_cons_succ]
  refine wpAnyH_ready (rs := [0]) (by kernel_rfl) (by simp) ?_
  refine AllReadyH.cons rfl (fun K hK => ?_) AllReadyH.nil
  refine step_load_row rfl _ (.tmp 5) rfl g3 rfl _ _ _ _ HX.out Try.underlying52 rfl (by kernel_rfl) ?_
  try go_wp2_with fail
  refine hK.out _ _ ?_ (fun hHeld => ?_)
  · exact hHeld
  clear hK K
  try simp only [Act.put, List.setIfInBounds_toArray, List.set_cons_zero, List.set_cons_succ]
  refine wpAnyH_ready (rs := [5]) (by kernel_rfl) (by simp) ?_
  refine AllReadyH.cons rfl (fun K hK => ?_) AllReadyH.nil
  go_simp
  refine HM.mono ?_
  rintro e v1 ⟨M', rfl, hE', hb1, hz1⟩
  have hON := onRel_set kx hg3 hbe hE' hb1 hz1
  have HO := hide hON.1
  have HN := hide hON.2
  have H1 := hide (enCells_one hE')
  clear hON HX
  try go_wp2_with fail
  refine hK.out _ _ ?_ (fun hHeld => ?_)
  · exact HS (hbe.trans hb1)
  clear hK K
  try simp only [Act.put, List.setIfInBounds_toArray, List.set_cons_zero, List.set_cons_succ]
  refine wpAnyH_ready (rs := [6]) (by kernel_rfl) (by simp) ?_
  refine AllReadyH.cons rfl (fun K hK => ?_) AllReadyH.nil
  refine step_store_row rfl _ (.tmp 5) (.tmp 37) rfl g3 _ rfl rfl _ _ HO.out (by kernel_rfl) rfl H1.out ?_
  try go_wp2_with fail
  refine hK.out _ _ ?_ (fun hHeld => ?_)
  · exact HS (HN.out.choose_spec.2.2.2)
  clear hK K
  try simp only [Act.put, List.setIfInBounds_toArray, List.set_cons_zero, List.set_cons_succ]
  refine wpAnyH_done (by kernel_rfl) ?_ _
  go_wp2
  go_meet
  case rel => exact HN.out
set_option maxRecDepth 100000 in
set_option maxHeartbeats 100000000 in
theorem rp_r14 (x0 x2 x3 x4 x5 x6 x8 x10 x11 x12 x13 x14 x15 x16 x17 x18 x19 x20 x21 x22 x23 x24 x25 x26 x27 x28 x29 x30 x31 x32 x33 x34 x35 x36 x37 x38 x39 x40 x41 x42 x43 x44 x45 x46 x47 x48 x49 x50 x51 x52 x53 x54 x55 x56 x57 x58 x59 x60 x61 x62 x63 x64 x65 x66 x67 x68 x69 x70 x71 x72 x73 x74 x75 x76 x77 x78 x79 x80 x81 x82 x83 x84 x85 x86 x87 x88 x89 x90 x91 : Value) (w wc : World) (b o n2 c2 j g7 : Nat) (s : St) (Q : Option Addr) (m c : Nat) (qs : List Pk) (p : Pk)
    (h7 : Side wc g7 s Q m c)
    (hH : Has wc Q m c qs s.q)
    (hol : s.q.length ≤ 64)
    (hbe : Below w.heap.size w wc)
    (hg7 : w.heap.size ≤ g7)
    (hbw : b < w.heap.size)
    (hlt : j < n2)
    (hn2 : n2 ≤ 100)
    (c0 : w.cell? ⟨b, o + j * 2, none⟩ = some (Value.int .i64 p.id))
    (c1 : w.cell? ⟨b, o + j * 2 + 1, none⟩ = some (Value.slice p.A p.n p.c))
    (hp : Pay w p)
    {J K' : Act → World → Prop} {Q0 : Exit → Act → World → Prop} (hJ : ∀ a' w', (∃ u45 u46 u47 u48 u49 u50 u51 u52 u53 u54 u55 u56 u57 u58 u59 u60 : Value, (Keeps [g7] wc w' ∧ Below w.heap.size w w' ∧ ∃ Q m c qs, Side w' g7 (qst s p.abs) Q m c ∧ Has w' Q m c qs (qst s p.abs).q) ∧ a' = ⟨#[x0, Value.slice (some ⟨b, o, none⟩) n2 c2, x2, x3, x4, x5, x6, Value.pointer (some ⟨g7, 0, none⟩), x8, Value.int .i64 (j : Int), x10, x11, x12, x13, x14, x15, x16, x17, x18, x19, x20, x21, x22, x23, x24, x25, x26, x27, x28, x29, x30, x31, x32, x33, x34, x35, x36, x37, x38, x39, x40, x41, x42, x43, x44, u45, u46, u47, u48, u49, u50, u51, u52, u53, u54, u55, u56, u57, u58, u59, u60, x61, x62, x63, x64, x65, x66, x67, x68, x69, x70, x71, x72, x73, x74, x75, x76, x77, x78, x79, x80, x81, x82, x83, x84, x85, x86, x87, x88, x89, x90, x91], []⟩) → J a' w') (hM : ∀ a' w', Met J a' w' → K' a' w') (hQ0 : ∀ (c : List PanicEntry) (x : Act) (t : Option Tmp) (v : Value) (u : World), Q0 (.panic c) (x.put t v) u → Q0 (.panic c) x u) :
    Code.wp Try.prog (rpCode 14) (Exit.then K' Q0) ⟨#[x0, Value.slice (some ⟨b, o, none⟩) n2 c2, x2, x3, x4, x5, x6, Value.pointer (some ⟨g7, 0, none⟩), x8, Value.int .i64 (j : Int), x10, x11, x12, x13, x14, x15, x16, x17, x18, x19, x20, x21, x22, x23, x24, x25, x26, x27, x28, x29, x30, x31, x32, x33, x34, x35, x36, x37, x38, x39, x40, x41, x42, x43, x44, x45, x46, x47, x48, x49, x50, x51, x52, x53, x54, x55, x56, x57, x58, x59, x60, x61, x62, x63, x64, x65, x66, x67, x68, x69, x70, x71, x72, x73, x74, x75, x76, x77, x78, x79, x80, x81, x82, x83, x84, x85, x86, x87, x88, x89, x90, x91], []⟩ wc := by
  conv => arg 2; whnf
  have hkn : (j : Int) < (n2 : Int) := by omega
  have S_ : ∀ {u : World}, Below w.heap.size w u → u.cell? ⟨b, o + j * 2, none⟩ = some (Value.int .i64 p.id) ∧ u.cell? ⟨b, o + j * 2 + 1, none⟩ = some (Value.slice p.A p.n p.c) := fun h => ⟨(h.cell (p := ⟨b, o + j * 2, none⟩) hbw).trans c0, (h.cell (p := ⟨b, o + j * 2 + 1, none⟩) hbw).trans c1⟩
  have HS := @S_
  clear c0 c1 S_
  have k0 : Blk wc.drew g7 26 #[.int .i64 s.sn, .int .i64 s.ne, .slice Q m c, .bool s.op, .bool s.em, .int .i64 s.ack, .int .i64 s.tak] := (h7.blk).drew
  have hb0 : Below w.heap.size w wc.drew := hbe.drew
  have hH0 := hH.drew
  have hp0 := hp.below hb0
  have hg7l : g7 < wc.drew.heap.size := k0.lt
  have KK : Keeps [g7] wc wc.drew := Keeps.refl _ _
  have hpo := fun q hq => pay_off h7 (hH.pays q hq)
  clear h7 hH hbe hp
  refine wp_region_held_drew (S := (fun w' => w'.cell? ⟨b, o + j * 2, none⟩ = some (Value.int .i64 p.id) ∧ w'.cell? ⟨b, o + j * 2 + 1, none⟩ = some (Value.slice p.A p.n p.c))) (by kernel_rfl) (HS hb0) (fun hHeld => ?_)
  generalize wc.drew = w2 at *
  refine' wpAnyH_take (i := 1) ?hih15 ?hsh15 ?hfh15 ?hrh15 ?hQh15 ?hyh15 ?hSh15 ?resth15
  case hih15 =>
    simp only [List.getElem?_toArray, List.getElem?_cons_succ, List.getElem?_cons_zero]
    all_goals rfl
  case hsh15 => kernel_rfl
  case hfh15 => kernel_rfl
  case hrh15 => kernel_rfl
  case hQh15 => exact fun c x u h => hQ0 c x _ _ u h
  case hSh15 => assumption
  case hyh15 =>
    refine Or.inl ⟨by rfl, ?_⟩
    intro w hSw
    try dsimp only at hSw
    go_simp
    all_goals with_reducible rfl
  try simp only [Act.put, List.setIfInBounds_toArray, List.set_cons_zero, List.set_cons_succ]
  refine' wpAnyH_take (i := 2) ?hih16 ?hsh16 ?hfh16 ?hrh16 ?hQh16 ?hyh16 ?hSh16 ?resth16
  case hih16 =>
    simp only [List.getElem?_toArray, List.getElem?_cons_succ, List.getElem?_cons_zero]
    all_goals rfl
  case hsh16 => kernel_rfl
  case hfh16 => kernel_rfl
  case hrh16 => kernel_rfl
  case hQh16 => exact fun c x u h => hQ0 c x _ _ u h
  case hSh16 => assumption
  case hyh16 =>
    refine Or.inl ⟨by rfl, ?_⟩
    intro w hSw
    try dsimp only at hSw
    go_simp
    all_goals with_reducible rfl
  try simp only [Act.put, List.setIfInBounds_toArray, List.set_cons_zero, List.set_cons_succ]
  refine' wpAnyH_take (i := 3) ?hih17 ?hsh17 ?hfh17 ?hrh17 ?hQh17 ?hyh17 ?hSh17 ?resth17
  case hih17 =>
    simp only [List.getElem?_toArray, List.getElem?_cons_succ, List.getElem?_cons_zero]
    all_goals rfl
  case hsh17 => kernel_rfl
  case hfh17 => kernel_rfl
  case hrh17 => kernel_rfl
  case hQh17 => exact fun c x u h => hQ0 c x _ _ u h
  case hSh17 => assumption
  case hyh17 =>
    refine Or.inl ⟨by rfl, ?_⟩
    intro w hSw
    try dsimp only at hSw
    go_simp
    all_goals with_reducible rfl
  try simp only [Act.put, List.setIfInBounds_toArray, List.set_cons_zero, List.set_cons_succ]
  refine' wpAnyH_take (i := 4) ?hih18 ?hsh18 ?hfh18 ?hrh18 ?hQh18 ?hyh18 ?hSh18 ?resth18
  case hih18 =>
    simp only [List.getElem?_toArray, List.getElem?_cons_succ, List.getElem?_cons_zero]
    all_goals rfl
  case hsh18 => kernel_rfl
  case hfh18 => kernel_rfl
  case hrh18 => kernel_rfl
  case hQh18 => exact fun c x u h => hQ0 c x _ _ u h
  case hSh18 => assumption
  case hyh18 =>
    refine Or.inl ⟨by rfl, ?_⟩
    intro w hSw
    try dsimp only at hSw
    go_simp
    all_goals with_reducible rfl
  try simp only [Act.put, List.setIfInBounds_toArray, List.set_cons_zero, List.set_cons_succ]
  refine wpAnyH_ready (rs := [0, 5]) (by kernel_rfl) (by simp) ?_
  refine AllReadyH.cons rfl (fun K hK => ?_) ?_
  · obtain ⟨r0, r1, r2, r3, r4, r5, r6⟩ := at7 k0
    go_simp
    try go_wp2_with fail
    refine hK.out _ _ ?_ (fun hHeld => ?_)
    · exact hHeld
    clear hK K
    try simp only [Act.put, List.setIfInBounds_toArray, List.set_cons_zero, List.set_cons_succ]
    refine wpAnyH_ready (rs := [5]) (by kernel_rfl) (by simp) ?_
    refine AllReadyH.cons rfl (fun K hK => ?_) AllReadyH.nil
    clear r0 r1 r2 r3 r4 r5 r6
    go_simp
    refine (copiedp_any p.id p.A p.n p.c p.l _ hp0.1 hp0.2.2.2).mono ?_
    rintro e v1 ⟨A4, c4, rfl, hown4, hc4, hb1⟩
    have hpy := (pay_own (id := p.id) hown4 hp0.2.1 hc4 hp0.2.2.2).1
    have k1 := k0.below hb1 hg7l
    have hb1' := bseq hb0 hb1
    have hH1 := hH0.below hb1
    have hg7m : g7 < v1.heap.size := k1.lt
    clear hown4
    try go_wp2_with fail
    refine hK.out _ _ ?_ (fun hHeld => ?_)
    · exact HS hb1'
    clear hK K
    try simp only [Act.put, List.setIfInBounds_toArray, List.set_cons_zero, List.set_cons_succ]
    refine wpAnyH_ready (rs := [6]) (by kernel_rfl) (by simp) ?_
    refine AllReadyH.cons rfl (fun K hK => ?_) AllReadyH.nil
    go_simp
    refine (queueA s Q m c qs _ ⟨p.id, A4, p.n, c4, p.l⟩ p.abs rfl hH1 hol hpy).mono ?_
    rintro e v2 ⟨Q2, m2, c2', q2, rfl, hF2, hb2⟩
    have k2 := k1.below hb2 hg7m
    have hb2' := bseq hb1' hb2
    obtain ⟨y0, y1, y2, y3, y4, y5, y6⟩ := at7 k2
    obtain ⟨f0, f1, f2, f3, f4, f5, f6⟩ := fr7 k2
    try go_wp2_with fail
    refine hK.out _ _ ?_ (fun hHeld => ?_)
    · exact HS hb2'
    clear hK K
    try simp only [Act.put, List.setIfInBounds_toArray, List.set_cons_zero, List.set_cons_succ]
    refine' wpAnyH_take (i := 7) ?hih22 ?hsh22 ?hfh22 ?hrh22 ?hQh22 ?hyh22 ?hSh22 ?resth22
    case hih22 =>
      simp only [List.getElem?_toArray, List.getElem?_cons_succ, List.getElem?_cons_zero]
      all_goals rfl
    case hsh22 => kernel_rfl
    case hfh22 => kernel_rfl
    case hrh22 => kernel_rfl
    case hQh22 => exact fun c x u h => hQ0 c x _ _ u h
    case hSh22 => assumption
    case hyh22 =>
      refine Or.inl ⟨by rfl, ?_⟩
      intro w hSw
      try dsimp only at hSw
      go_simp
      all_goals with_reducible rfl
    try simp only [Act.put, List.setIfInBounds_toArray, List.set_cons_zero, List.set_cons_succ]
    refine' wpAnyH_take (i := 8) ?hih23 ?hsh23 ?hfh23 ?hrh23 ?hQh23 ?hyh23 ?hSh23 ?resth23
    case hih23 =>
      simp only [List.getElem?_toArray, List.getElem?_cons_succ, List.getElem?_cons_zero]
      all_goals rfl
    case hsh23 => kernel_rfl
    case hfh23 => kernel_rfl
    case hrh23 => kernel_rfl
    case hQh23 => exact fun c x u h => hQ0 c x _ _ u h
    case hSh23 => assumption
    case hyh23 =>
      refine Or.inl ⟨by rfl, ?_⟩
      intro w hSw
      try dsimp only at hSw
      go_simp
      all_goals with_reducible rfl
    try simp only [Act.put, List.setIfInBounds_toArray, List.set_cons_zero, List.set_cons_succ]
    refine' wpAnyH_take (i := 9) ?hih24 ?hsh24 ?hfh24 ?hrh24 ?hQh24 ?hyh24 ?hSh24 ?resth24
    case hih24 =>
      simp only [List.getElem?_toArray, List.getElem?_cons_succ, List.getElem?_cons_zero]
      all_goals rfl
    case hsh24 => kernel_rfl
    case hfh24 => kernel_rfl
    case hrh24 => kernel_rfl
    case hQh24 => exact fun c x u h => hQ0 c x _ _ u h
    case hSh24 => assumption
    case hyh24 =>
      refine Or.inl ⟨by rfl, ?_⟩
      intro w hSw
      try dsimp only at hSw
      go_simp
      all_goals with_reducible rfl
    try simp only [Act.put, List.setIfInBounds_toArray, List.set_cons_zero, List.set_cons_succ]
    refine wpAnyH_ready (rs := [10]) (by kernel_rfl) (by simp) ?_
    refine AllReadyH.cons rfl (fun K hK => ?_) AllReadyH.nil
    go_simp
    try go_wp2_with fail
    refine hK.out _ _ ?_ (fun hHeld => ?_)
    · exact HS (below_put7 hb2' hg7)
    clear hK K
    try simp only [Act.put, List.setIfInBounds_toArray, List.set_cons_zero, List.set_cons_succ]
    refine wpAnyH_done (by kernel_rfl) ?_ _
    go_wp2
    go_meet
    case rel =>
      refine ⟨?_, below_put7 hb2' hg7, Q2, m2, c2', q2, blk_put7 k2, (hF2.put7 hg7m).has⟩
      have K1 : Keeps [g7] wc v2 := (KK.trans (.of_below hb1)).trans (.of_below hb2)
      exact ((((((K1.set (by simp) _).set (by simp) _).set (by simp) _).set (by simp) _).set (by simp) _).set (by simp) _).set (by simp) _
  refine AllReadyH.cons rfl (fun K hK => ?_) ?_
  · go_simp
    refine (copiedp_any p.id p.A p.n p.c p.l _ hp0.1 hp0.2.2.2).mono ?_
    rintro e v1 ⟨A4, c4, rfl, hown4, hc4, hb1⟩
    have hpy := (pay_own (id := p.id) hown4 hp0.2.1 hc4 hp0.2.2.2).1
    have k1 := k0.below hb1 hg7l
    have hb1' := bseq hb0 hb1
    have hH1 := hH0.below hb1
    have hg7m : g7 < v1.heap.size := k1.lt
    clear hown4
    try go_wp2_with fail
    refine hK.out _ _ ?_ (fun hHeld => ?_)
    · exact HS hb1'
    clear hK K
    try simp only [Act.put, List.setIfInBounds_toArray, List.set_cons_zero, List.set_cons_succ]
    refine wpAnyH_ready (rs := [0]) (by kernel_rfl) (by simp) ?_
    refine AllReadyH.cons rfl (fun K hK => ?_) AllReadyH.nil
    obtain ⟨r0, r1, r2, r3, r4, r5, r6⟩ := at7 k1
    go_simp
    try go_wp2_with fail
    refine hK.out _ _ ?_ (fun hHeld => ?_)
    · exact HS hb1'
    clear hK K
    try simp only [Act.put, List.setIfInBounds_toArray, List.set_cons_zero, List.set_cons_succ]
    refine wpAnyH_ready (rs := [6]) (by kernel_rfl) (by simp) ?_
    refine AllReadyH.cons rfl (fun K hK => ?_) AllReadyH.nil
    clear r0 r1 r2 r3 r4 r5 r6
    go_simp
    refine (queueA s Q m c qs _ ⟨p.id, A4, p.n, c4, p.l⟩ p.abs rfl hH1 hol hpy).mono ?_
    rintro e v2 ⟨Q2, m2, c2', q2, rfl, hF2, hb2⟩
    have k2 := k1.below hb2 hg7m
    have hb2' := bseq hb1' hb2
    obtain ⟨y0, y1, y2, y3, y4, y5, y6⟩ := at7 k2
    obtain ⟨f0, f1, f2, f3, f4, f5, f6⟩ := fr7 k2
    try go_wp2_with fail
    refine hK.out _ _ ?_ (fun hHeld => ?_)
    · exact HS hb2'
    clear hK K
    try simp only [Act.put, List.setIfInBounds_toArray, List.set_cons_zero, List.set_cons_succ]
    refine' wpAnyH_take (i := 7) ?hih28 ?hsh28 ?hfh28 ?hrh28 ?hQh28 ?hyh28 ?hSh28 ?resth28
    case hih28 =>
      simp only [List.getElem?_toArray, List.getElem?_cons_succ, List.getElem?_cons_zero]
      all_goals rfl
    case hsh28 => kernel_rfl
    case hfh28 => kernel_rfl
    case hrh28 => kernel_rfl
    case hQh28 => exact fun c x u h => hQ0 c x _ _ u h
    case hSh28 => assumption
    case hyh28 =>
      refine Or.inl ⟨by rfl, ?_⟩
      intro w hSw
      try dsimp only at hSw
      go_simp
      all_goals with_reducible rfl
    try simp only [Act.put, List.setIfInBounds_toArray, List.set_cons_zero, List.set_cons_succ]
    refine' wpAnyH_take (i := 8) ?hih29 ?hsh29 ?hfh29 ?hrh29 ?hQh29 ?hyh29 ?hSh29 ?resth29
    case hih29 =>
      simp only [List.getElem?_toArray, List.getElem?_cons_succ, List.getElem?_cons_zero]
      all_goals rfl
    case hsh29 => kernel_rfl
    case hfh29 => kernel_rfl
    case hrh29 => kernel_rfl
    case hQh29 => exact fun c x u h => hQ0 c x _ _ u h
    case hSh29 => assumption
    case hyh29 =>
      refine Or.inl ⟨by rfl, ?_⟩
      intro w hSw
      try dsimp only at hSw
      go_simp
      all_goals with_reducible rfl
    try simp only [Act.put, List.setIfInBounds_toArray, List.set_cons_zero, List.set_cons_succ]
    refine' wpAnyH_take (i := 9) ?hih30 ?hsh30 ?hfh30 ?hrh30 ?hQh30 ?hyh30 ?hSh30 ?resth30
    case hih30 =>
      simp only [List.getElem?_toArray, List.getElem?_cons_succ, List.getElem?_cons_zero]
      all_goals rfl
    case hsh30 => kernel_rfl
    case hfh30 => kernel_rfl
    case hrh30 => kernel_rfl
    case hQh30 => exact fun c x u h => hQ0 c x _ _ u h
    case hSh30 => assumption
    case hyh30 =>
      refine Or.inl ⟨by rfl, ?_⟩
      intro w hSw
      try dsimp only at hSw
      go_simp
      all_goals with_reducible rfl
    try simp only [Act.put, List.setIfInBounds_toArray, List.set_cons_zero, List.set_cons_succ]
    refine wpAnyH_ready (rs := [10]) (by kernel_rfl) (by simp) ?_
    refine AllReadyH.cons rfl (fun K hK => ?_) AllReadyH.nil
    go_simp
    try go_wp2_with fail
    refine hK.out _ _ ?_ (fun hHeld => ?_)
    · exact HS (below_put7 hb2' hg7)
    clear hK K
    try simp only [Act.put, List.setIfInBounds_toArray, List.set_cons_zero, List.set_cons_succ]
    refine wpAnyH_done (by kernel_rfl) ?_ _
    go_wp2
    go_meet
    case rel =>
      refine ⟨?_, below_put7 hb2' hg7, Q2, m2, c2', q2, blk_put7 k2, (hF2.put7 hg7m).has⟩
      have K1 : Keeps [g7] wc v2 := (KK.trans (.of_below hb1)).trans (.of_below hb2)
      exact ((((((K1.set (by simp) _).set (by simp) _).set (by simp) _).set (by simp) _).set (by simp) _).set (by simp) _).set (by simp) _
  exact AllReadyH.nil
end Go.Proofs.Ytobljnbpokijdaa
