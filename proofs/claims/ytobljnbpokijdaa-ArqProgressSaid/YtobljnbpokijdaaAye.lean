/-
  The walk of moved: the queued list grows (region 5).
-/
import Derived.Test.YtobljnbpokijdaaAyb
import Derived.Deep.RegionHeld3

namespace Go.Proofs.Ytobljnbpokijdaa
set_option linter.unusedVariables false
set_option linter.unusedSimpArgs false
open Go.RowKit
set_option maxRecDepth 100000 in
set_option maxHeartbeats 100000000 in
theorem mv_r5_0 (x0 x1 x5 x6 x7 x8 x9 x10 x11 x12 x13 x14 x15 x16 x17 x18 x19 x20 x21 x22 x23 x24 x25 x26 x27 x28 x29 x30 x31 x32 x33 x34 x35 x36 x37 x38 x39 x40 x41 x42 x43 x44 x45 x46 x47 x48 x49 x50 x51 x52 x53 x54 x55 x56 x57 x58 x59 x60 x61 x62 x63 x64 x65 x66 x67 x68 x69 x70 x71 x72 x73 x74 x75 x76 x77 x78 x79 x80 x81 x82 x83 x84 x85 x86 x87 x88 x89 x90 x91 x92 x93 x94 x95 x96 x97 x98 x99 x100 x101 x102 x103 x104 x105 x106 x107 x108 x109 x110 : Value) (Z : List Nat) (W wc : World) (base : Nat) (lost : Bool) (p : Pk) (E : En) (M : Mm)
    (hB : Bx Z W base ⟨0, lost, p⟩ E M wc)
    (hbase : base ≤ W.heap.size)
    (hn : (M.r 0).n ≤ 100000)
    {J K' : Act → World → Prop} {Q0 : Exit → Act → World → Prop} (hJ : ∀ a' w', (∃ u15 u16 u17 u18 u19 u20 u21 u22 u23 u24 u25 u26 u27 u28 u29 u30 u31 u32 u33 u34 u35 u36 u37 u38 u39 u40 u41 u42 u43 u44 u45 u46 u47 u48 u49 u50 u51 u52 u53 u54 u55 u56 u57 u58 u59 u60 u61 u62 u63 u64 u65 u66 u67 u68 u69 u70 u71 u72 u73 u74 u75 u76 u77 u78 u79 u80 u81 u82 u83 u84 u85 u86 u87 u88 u89 u90 u91 u92 u93 u94 u95 u96 u97 u98 u99 u100 u101 u102 u103 u104 u105 u106 u107 u108 u109 u110 : Value, (∃ v' g', Bx Z W base ⟨0, lost, p⟩ ⟨E.s, upd E.r 0 (E.r 0 ++ [p.abs])⟩ ⟨M.q, upd M.r 0 ⟨v', (M.r 0).n + 1, (M.r 0).qs ++ [p], g'⟩⟩ w') ∧ a' = ⟨#[x0, x1, Value.pointer (some ⟨W.heap.size, 0, none⟩), Value.pointer (some ⟨W.heap.size + 1, 0, none⟩), Value.pointer (some ⟨W.heap.size + 2, 0, none⟩), x5, x6, x7, x8, x9, x10, x11, x12, x13, x14, u15, u16, u17, u18, u19, u20, u21, u22, u23, u24, u25, u26, u27, u28, u29, u30, u31, u32, u33, u34, u35, u36, u37, u38, u39, u40, u41, u42, u43, u44, u45, u46, u47, u48, u49, u50, u51, u52, u53, u54, u55, u56, u57, u58, u59, u60, u61, u62, u63, u64, u65, u66, u67, u68, u69, u70, u71, u72, u73, u74, u75, u76, u77, u78, u79, u80, u81, u82, u83, u84, u85, u86, u87, u88, u89, u90, u91, u92, u93, u94, u95, u96, u97, u98, u99, u100, u101, u102, u103, u104, u105, u106, u107, u108, u109, u110], []⟩) → J a' w') (hM : ∀ a' w', Met J a' w' → K' a' w') (hQ0 : ∀ (c : List PanicEntry) (x : Act) (t : Option Tmp) (v : Value) (u : World), Q0 (.panic c) (x.put t v) u → Q0 (.panic c) x u) :
    Code.wp Try.prog (mvCode 5) (Exit.then K' Q0) ⟨#[x0, x1, Value.pointer (some ⟨W.heap.size, 0, none⟩), Value.pointer (some ⟨W.heap.size + 1, 0, none⟩), Value.pointer (some ⟨W.heap.size + 2, 0, none⟩), x5, x6, x7, x8, x9, x10, x11, x12, x13, x14, x15, x16, x17, x18, x19, x20, x21, x22, x23, x24, x25, x26, x27, x28, x29, x30, x31, x32, x33, x34, x35, x36, x37, x38, x39, x40, x41, x42, x43, x44, x45, x46, x47, x48, x49, x50, x51, x52, x53, x54, x55, x56, x57, x58, x59, x60, x61, x62, x63, x64, x65, x66, x67, x68, x69, x70, x71, x72, x73, x74, x75, x76, x77, x78, x79, x80, x81, x82, x83, x84, x85, x86, x87, x88, x89, x90, x91, x92, x93, x94, x95, x96, x97, x98, x99, x100, x101, x102, x103, x104, x105, x106, x107, x108, x109, x110], []⟩ wc := by
  conv => arg 2; whnf
  have hB2 := hB.below hbase (Below.refl _ _).drew
  clear hB
  have hp : Pay wc.drew p := hB2.pay
  obtain ⟨t0, t1, t2, t3⟩ := hB2.ct
  have hpr : ∀ b ∈ foot p.A p.n, ∀ j, j < 4 → (M.r j).g ≠ some b := fun b hb j hj e => by have h1 := ((hB2.mem.own j hj).lt b e).1; have h2 := hB2.psep b hb; omega
  have hpz : ∀ b ∈ foot p.A p.n, b ∉ Zs Z W := fun b hb hz => by have h2 := hB2.psep b hb; simp only [Zs, List.mem_cons] at hz; rcases hz with hz | hz | hz | hz; omega; omega; omega; (have := (hB2.zr b hz).1; omega)
  refine wp_region_held_drew (S := (fun w' => w'.cell? ⟨W.heap.size + 1, 0, none⟩ = some (Value.int .i64 0) ∧ w'.cell? ⟨W.heap.size + 1, 2, none⟩ = some (Value.int .i64 p.id) ∧ w'.cell? ⟨W.heap.size + 1, 3, none⟩ = some (Value.slice p.A p.n p.c))) (by kernel_rfl) ⟨t0, t2, t3⟩ (fun hHeld => ?_)
  generalize wc.drew = w2 at *
  have hB3 := hB2.below hbase ((Below.refl _ _).alloc (Nat.le_refl _) (.cells #[.int .i64 p.id, .slice p.A p.n p.c] 30))
  have hz3 : base ≤ (w2.alloc (.cells #[.int .i64 p.id, .slice p.A p.n p.c] 30)).heap.size := by have := hB2.x.lt; simp; omega
  have hown3 := hB3.mem.own 0 (by decide)
  have cc : w2.cell? ⟨W.heap.size, 14, none⟩ = some (M.r 0).v := hB2.x.cell 14
  have cd : (w2.alloc (.cells #[.int .i64 p.id, .slice p.A p.n p.c] 30)).cell? ⟨W.heap.size, 14, none⟩ = some (M.r 0).v := hB3.x.cell 14
  refine' wpAnyH_take (i := 0) ?hih1 ?hsh1 ?hfh1 ?hrh1 ?hQh1 ?hyh1 ?hSh1 ?resth1
  case hih1 =>
    simp only [List.getElem?_toArray, List.getElem?_cons_succ, List.getElem?_cons_zero]
    all_goals rfl
  case hsh1 => kernel_rfl
  case hfh1 => kernel_rfl
  case hrh1 => kernel_rfl
  case hQh1 => exact fun c x u h => hQ0 c x _ _ u h
  case hSh1 => assumption
  case hyh1 =>
    refine Or.inl ⟨by rfl, ?_⟩
    intro w hSw
    try dsimp only at hSw
    go_simp
    all_goals with_reducible rfl
  try simp only [Act.put, List.setIfInBounds_toArray, List.set_cons_zero, List.set_cons_succ]
  refine' wpAnyH_take (i := 1) ?hih2 ?hsh2 ?hfh2 ?hrh2 ?hQh2 ?hyh2 ?hSh2 ?resth2
  case hih2 =>
    simp only [List.getElem?_toArray, List.getElem?_cons_succ, List.getElem?_cons_zero]
    all_goals rfl
  case hsh2 => kernel_rfl
  case hfh2 => kernel_rfl
  case hrh2 => kernel_rfl
  case hQh2 => exact fun c x u h => hQ0 c x _ _ u h
  case hSh2 => assumption
  case hyh2 =>
    refine Or.inl ⟨by rfl, ?_⟩
    intro w hSw
    try dsimp only at hSw
    go_simp
    all_goals with_reducible rfl
  try simp only [Act.put, List.setIfInBounds_toArray, List.set_cons_zero, List.set_cons_succ]
  refine' wpAnyH_take (i := 2) ?hih3 ?hsh3 ?hfh3 ?hrh3 ?hQh3 ?hyh3 ?hSh3 ?resth3
  case hih3 =>
    simp only [List.getElem?_toArray, List.getElem?_cons_succ, List.getElem?_cons_zero]
    all_goals rfl
  case hsh3 => kernel_rfl
  case hfh3 => kernel_rfl
  case hrh3 => kernel_rfl
  case hQh3 => exact fun c x u h => hQ0 c x _ _ u h
  case hSh3 => assumption
  case hyh3 =>
    refine Or.inl ⟨by rfl, ?_⟩
    intro w hSw
    try dsimp only at hSw
    go_simp
    all_goals with_reducible rfl
  try simp only [Act.put, List.setIfInBounds_toArray, List.set_cons_zero, List.set_cons_succ]
  refine' wpAnyH_take (i := 3) ?hih4 ?hsh4 ?hfh4 ?hrh4 ?hQh4 ?hyh4 ?hSh4 ?resth4
  case hih4 =>
    simp only [List.getElem?_toArray, List.getElem?_cons_succ, List.getElem?_cons_zero]
    all_goals rfl
  case hsh4 => kernel_rfl
  case hfh4 => kernel_rfl
  case hrh4 => kernel_rfl
  case hQh4 => exact fun c x u h => hQ0 c x _ _ u h
  case hSh4 => assumption
  case hyh4 =>
    refine Or.inl ⟨by rfl, ?_⟩
    intro w hSw
    try dsimp only at hSw
    go_simp
    all_goals with_reducible rfl
  try simp only [Act.put, List.setIfInBounds_toArray, List.set_cons_zero, List.set_cons_succ]
  refine' wpAnyH_take (i := 4) ?hih5 ?hsh5 ?hfh5 ?hrh5 ?hQh5 ?hyh5 ?hSh5 ?resth5
  case hih5 =>
    simp only [List.getElem?_toArray, List.getElem?_cons_succ, List.getElem?_cons_zero]
    all_goals rfl
  case hsh5 => kernel_rfl
  case hfh5 => kernel_rfl
  case hrh5 => kernel_rfl
  case hQh5 => exact fun c x u h => hQ0 c x _ _ u h
  case hSh5 => assumption
  case hyh5 =>
    refine Or.inl ⟨by rfl, ?_⟩
    intro w hSw
    try dsimp only at hSw
    go_simp
    all_goals with_reducible rfl
  try simp only [Act.put, List.setIfInBounds_toArray, List.set_cons_zero, List.set_cons_succ]
  refine' wpAnyH_take (i := 5) ?hih6 ?hsh6 ?hfh6 ?hrh6 ?hQh6 ?hyh6 ?hSh6 ?resth6
  case hih6 =>
    simp only [List.getElem?_toArray, List.getElem?_cons_succ, List.getElem?_cons_zero]
    all_goals rfl
  case hsh6 => kernel_rfl
  case hfh6 => kernel_rfl
  case hrh6 => kernel_rfl
  case hQh6 => exact fun c x u h => hQ0 c x _ _ u h
  case hSh6 => assumption
  case hyh6 =>
    refine Or.inl ⟨by rfl, ?_⟩
    intro w hSw
    try dsimp only at hSw
    go_simp
    all_goals with_reducible rfl
  try simp only [Act.put, List.setIfInBounds_toArray, List.set_cons_zero, List.set_cons_succ]
  refine' wpAnyH_take (i := 7) ?hih7 ?hsh7 ?hfh7 ?hrh7 ?hQh7 ?hyh7 ?hSh7 ?resth7
  case hih7 =>
    simp only [List.getElem?_toArray, List.getElem?_cons_succ, List.getElem?_cons_zero]
    all_goals rfl
  case hsh7 => kernel_rfl
  case hfh7 => kernel_rfl
  case hrh7 => kernel_rfl
  case hQh7 => exact fun c x u h => hQ0 c x _ _ u h
  case hSh7 => assumption
  case hyh7 =>
    refine Or.inl ⟨by rfl, ?_⟩
    intro w hSw
    try dsimp only at hSw
    go_simp
    all_goals with_reducible rfl
  try simp only [Act.put, List.setIfInBounds_toArray, List.set_cons_zero, List.set_cons_succ]
  refine' wpAnyH_take (i := 8) ?hih8 ?hsh8 ?hfh8 ?hrh8 ?hQh8 ?hyh8 ?hSh8 ?resth8
  case hih8 =>
    simp only [List.getElem?_toArray, List.getElem?_cons_succ, List.getElem?_cons_zero]
    all_goals rfl
  case hsh8 => kernel_rfl
  case hfh8 => kernel_rfl
  case hrh8 => kernel_rfl
  case hQh8 => exact fun c x u h => hQ0 c x _ _ u h
  case hSh8 => assumption
  case hyh8 =>
    refine Or.inl ⟨by rfl, ?_⟩
    intro w hSw
    try dsimp only at hSw
    go_simp
    all_goals with_reducible rfl
  try simp only [Act.put, List.setIfInBounds_toArray, List.set_cons_zero, List.set_cons_succ]
  refine' wpAnyH_take (i := 11) ?hih9 ?hsh9 ?hfh9 ?hrh9 ?hQh9 ?hyh9 ?hSh9 ?resth9
  case hih9 =>
    simp only [List.getElem?_toArray, List.getElem?_cons_succ, List.getElem?_cons_zero]
    all_goals rfl
  case hsh9 => kernel_rfl
  case hfh9 => kernel_rfl
  case hrh9 => kernel_rfl
  case hQh9 => exact fun c x u h => hQ0 c x _ _ u h
  case hSh9 => assumption
  case hyh9 =>
    refine Or.inl ⟨by rfl, ?_⟩
    intro w hSw
    try dsimp only at hSw
    go_simp
    all_goals with_reducible rfl
  try simp only [Act.put, List.setIfInBounds_toArray, List.set_cons_zero, List.set_cons_succ]
  refine wpAnyH_ready (rs := [6, 9]) (by kernel_rfl) (by simp) ?_
  refine AllReadyH.cons rfl (fun K hK => ?_) ?_
  · go_simp
    try go_wp2_with fail
    refine hK.out _ _ ?_ (fun hHeld => ?_)
    · exact hHeld
    clear hK K
    try simp only [Act.put, List.setIfInBounds_toArray, List.set_cons_zero, List.set_cons_succ]
    refine wpAnyH_ready (rs := [9]) (by kernel_rfl) (by simp) ?_
    refine AllReadyH.cons rfl (fun K hK => ?_) AllReadyH.nil
    go_simp
    try go_wp2_with fail
    refine hK.out _ _ ?_ (fun hHeld => ?_)
    · exact ⟨hB3.t.cell 0, hB3.t.cell 2, hB3.t.cell 3⟩
    clear hK K
    try simp only [Act.put, List.setIfInBounds_toArray, List.set_cons_zero, List.set_cons_succ]
    refine wpAnyH_ready (rs := [10]) (by kernel_rfl) (by simp) ?_
    refine AllReadyH.cons rfl (fun K hK => ?_) AllReadyH.nil
    refine step_append_g _ rfl (.tmp 48) (.tmp 51) _ rfl base 30 (.agg #[.int .i64 0, .slice none 0 0]) 2 32 underP infoP rfl (by omega) (M.r 0).v (M.r 0).n (pv (M.r 0).qs) (M.r 0).g rfl hown3 (some ⟨w2.heap.size, 0, none⟩) 1 1 (pv [p]) rfl (rd2_one w2 p 30 rfl) (by decide) (pv_one _) (by omega) (by omega) hz3 ?_
    intro v3 w3 g3 hown4 hg3 hat3
    obtain ⟨A5, k5, hv5, _, _⟩ := hown4.rd
    rw [hv5] at hown4
    rw [hv5]
    have hG := hB3.grown (i := 0) (by decide) hg3
    have s0 : w3.cell? ⟨W.heap.size, 14, none⟩ = some (M.r 0).v := hG.1.cell 14
    have f0 := hG.1.frozen 14
    try go_wp2_with fail
    refine hK.out _ _ ?_ (fun hHeld => ?_)
    · exact ⟨hG.2.1.cell 0, hG.2.1.cell 2, hG.2.1.cell 3⟩
    clear hK K
    try simp only [Act.put, List.setIfInBounds_toArray, List.set_cons_zero, List.set_cons_succ]
    refine' wpAnyH_take (i := 12) ?hih13 ?hsh13 ?hfh13 ?hrh13 ?hQh13 ?hyh13 ?hSh13 ?resth13
    case hih13 =>
      simp only [List.getElem?_toArray, List.getElem?_cons_succ, List.getElem?_cons_zero]
      all_goals rfl
    case hsh13 => kernel_rfl
    case hfh13 => kernel_rfl
    case hrh13 => kernel_rfl
    case hQh13 => exact fun c x u h => hQ0 c x _ _ u h
    case hSh13 => assumption
    case hyh13 =>
      refine Or.inl ⟨by rfl, ?_⟩
      intro w hSw
      try dsimp only at hSw
      go_simp
      all_goals with_reducible rfl
    try simp only [Act.put, List.setIfInBounds_toArray, List.set_cons_zero, List.set_cons_succ]
    refine wpAnyH_ready (rs := [13]) (by kernel_rfl) (by simp) ?_
    refine AllReadyH.cons rfl (fun K hK => ?_) AllReadyH.nil
    go_simp
    try go_wp2_with fail
    refine hK.out _ _ ?_ (fun hHeld => ?_)
    · exact ⟨(hG.2.1.far (by simp) _).cell 0, (hG.2.1.far (by simp) _).cell 2, (hG.2.1.far (by simp) _).cell 3⟩
    clear hK K
    try simp only [Act.put, List.setIfInBounds_toArray, List.set_cons_zero, List.set_cons_succ]
    refine wpAnyH_done (by kernel_rfl) ?_ _
    go_wp2
    go_meet
    case rel => exact ⟨_, g3, hB3.push hbase (by decide) hown4 hg3 hat3 (hp.alloc _) hpr hpz⟩
  refine AllReadyH.cons rfl (fun K hK => ?_) ?_
  · go_simp
    try go_wp2_with fail
    refine hK.out _ _ ?_ (fun hHeld => ?_)
    · exact ⟨hB3.t.cell 0, hB3.t.cell 2, hB3.t.cell 3⟩
    clear hK K
    try simp only [Act.put, List.setIfInBounds_toArray, List.set_cons_zero, List.set_cons_succ]
    refine wpAnyH_ready (rs := [6]) (by kernel_rfl) (by simp) ?_
    refine AllReadyH.cons rfl (fun K hK => ?_) AllReadyH.nil
    go_simp
    try go_wp2_with fail
    refine hK.out _ _ ?_ (fun hHeld => ?_)
    · exact hHeld
    clear hK K
    try simp only [Act.put, List.setIfInBounds_toArray, List.set_cons_zero, List.set_cons_succ]
    refine wpAnyH_ready (rs := [10]) (by kernel_rfl) (by simp) ?_
    refine AllReadyH.cons rfl (fun K hK => ?_) AllReadyH.nil
    refine step_append_g _ rfl (.tmp 48) (.tmp 51) _ rfl base 30 (.agg #[.int .i64 0, .slice none 0 0]) 2 32 underP infoP rfl (by omega) (M.r 0).v (M.r 0).n (pv (M.r 0).qs) (M.r 0).g rfl hown3 (some ⟨w2.heap.size, 0, none⟩) 1 1 (pv [p]) rfl (rd2_one w2 p 30 rfl) (by decide) (pv_one _) (by omega) (by omega) hz3 ?_
    intro v3 w3 g3 hown4 hg3 hat3
    obtain ⟨A5, k5, hv5, _, _⟩ := hown4.rd
    rw [hv5] at hown4
    rw [hv5]
    have hG := hB3.grown (i := 0) (by decide) hg3
    have s0 : w3.cell? ⟨W.heap.size, 14, none⟩ = some (M.r 0).v := hG.1.cell 14
    have f0 := hG.1.frozen 14
    try go_wp2_with fail
    refine hK.out _ _ ?_ (fun hHeld => ?_)
    · exact ⟨hG.2.1.cell 0, hG.2.1.cell 2, hG.2.1.cell 3⟩
    clear hK K
    try simp only [Act.put, List.setIfInBounds_toArray, List.set_cons_zero, List.set_cons_succ]
    refine' wpAnyH_take (i := 12) ?hih17 ?hsh17 ?hfh17 ?hrh17 ?hQh17 ?hyh17 ?hSh17 ?resth17
    case hih17 =>
      simp only [List.getElem?_toArray, List.getElem?_cons_succ, List.getElem?_cons_zero]
      all_goals rfl
    case hsh17 => kernel_rfl
    case hfh17 => kernel_rfl
    case hrh17 => kernel_rfl
    case hQh17 => exact fun c x u h => hQ0 c x _ _ u h
    case hSh17 => assumption
    case hyh17 =>
      refine Or.inl ⟨by rfl, ?_⟩
      intro w hSw
      try dsimp only at hSw
      go_simp
      all_goals with_reducible rfl
    try simp only [Act.put, List.setIfInBounds_toArray, List.set_cons_zero, List.set_cons_succ]
    refine wpAnyH_ready (rs := [13]) (by kernel_rfl) (by simp) ?_
    refine AllReadyH.cons rfl (fun K hK => ?_) AllReadyH.nil
    go_simp
    try go_wp2_with fail
    refine hK.out _ _ ?_ (fun hHeld => ?_)
    · exact ⟨(hG.2.1.far (by simp) _).cell 0, (hG.2.1.far (by simp) _).cell 2, (hG.2.1.far (by simp) _).cell 3⟩
    clear hK K
    try simp only [Act.put, List.setIfInBounds_toArray, List.set_cons_zero, List.set_cons_succ]
    refine wpAnyH_done (by kernel_rfl) ?_ _
    go_wp2
    go_meet
    case rel => exact ⟨_, g3, hB3.push hbase (by decide) hown4 hg3 hat3 (hp.alloc _) hpr hpz⟩
  exact AllReadyH.nil
set_option maxRecDepth 100000 in
set_option maxHeartbeats 100000000 in
theorem mv_r5_1 (x0 x1 x5 x6 x7 x8 x9 x10 x11 x12 x13 x14 x15 x16 x17 x18 x19 x20 x21 x22 x23 x24 x25 x26 x27 x28 x29 x30 x31 x32 x33 x34 x35 x36 x37 x38 x39 x40 x41 x42 x43 x44 x45 x46 x47 x48 x49 x50 x51 x52 x53 x54 x55 x56 x57 x58 x59 x60 x61 x62 x63 x64 x65 x66 x67 x68 x69 x70 x71 x72 x73 x74 x75 x76 x77 x78 x79 x80 x81 x82 x83 x84 x85 x86 x87 x88 x89 x90 x91 x92 x93 x94 x95 x96 x97 x98 x99 x100 x101 x102 x103 x104 x105 x106 x107 x108 x109 x110 : Value) (Z : List Nat) (W wc : World) (base : Nat) (lost : Bool) (p : Pk) (E : En) (M : Mm)
    (hB : Bx Z W base ⟨1, lost, p⟩ E M wc)
    (hbase : base ≤ W.heap.size)
    (hn : (M.r 1).n ≤ 100000)
    {J K' : Act → World → Prop} {Q0 : Exit → Act → World → Prop} (hJ : ∀ a' w', (∃ u15 u16 u17 u18 u19 u20 u21 u22 u23 u24 u25 u26 u27 u28 u29 u30 u31 u32 u33 u34 u35 u36 u37 u38 u39 u40 u41 u42 u43 u44 u45 u46 u47 u48 u49 u50 u51 u52 u53 u54 u55 u56 u57 u58 u59 u60 u61 u62 u63 u64 u65 u66 u67 u68 u69 u70 u71 u72 u73 u74 u75 u76 u77 u78 u79 u80 u81 u82 u83 u84 u85 u86 u87 u88 u89 u90 u91 u92 u93 u94 u95 u96 u97 u98 u99 u100 u101 u102 u103 u104 u105 u106 u107 u108 u109 u110 : Value, (∃ v' g', Bx Z W base ⟨1, lost, p⟩ ⟨E.s, upd E.r 1 (E.r 1 ++ [p.abs])⟩ ⟨M.q, upd M.r 1 ⟨v', (M.r 1).n + 1, (M.r 1).qs ++ [p], g'⟩⟩ w') ∧ a' = ⟨#[x0, x1, Value.pointer (some ⟨W.heap.size, 0, none⟩), Value.pointer (some ⟨W.heap.size + 1, 0, none⟩), Value.pointer (some ⟨W.heap.size + 2, 0, none⟩), x5, x6, x7, x8, x9, x10, x11, x12, x13, x14, u15, u16, u17, u18, u19, u20, u21, u22, u23, u24, u25, u26, u27, u28, u29, u30, u31, u32, u33, u34, u35, u36, u37, u38, u39, u40, u41, u42, u43, u44, u45, u46, u47, u48, u49, u50, u51, u52, u53, u54, u55, u56, u57, u58, u59, u60, u61, u62, u63, u64, u65, u66, u67, u68, u69, u70, u71, u72, u73, u74, u75, u76, u77, u78, u79, u80, u81, u82, u83, u84, u85, u86, u87, u88, u89, u90, u91, u92, u93, u94, u95, u96, u97, u98, u99, u100, u101, u102, u103, u104, u105, u106, u107, u108, u109, u110], []⟩) → J a' w') (hM : ∀ a' w', Met J a' w' → K' a' w') (hQ0 : ∀ (c : List PanicEntry) (x : Act) (t : Option Tmp) (v : Value) (u : World), Q0 (.panic c) (x.put t v) u → Q0 (.panic c) x u) :
    Code.wp Try.prog (mvCode 5) (Exit.then K' Q0) ⟨#[x0, x1, Value.pointer (some ⟨W.heap.size, 0, none⟩), Value.pointer (some ⟨W.heap.size + 1, 0, none⟩), Value.pointer (some ⟨W.heap.size + 2, 0, none⟩), x5, x6, x7, x8, x9, x10, x11, x12, x13, x14, x15, x16, x17, x18, x19, x20, x21, x22, x23, x24, x25, x26, x27, x28, x29, x30, x31, x32, x33, x34, x35, x36, x37, x38, x39, x40, x41, x42, x43, x44, x45, x46, x47, x48, x49, x50, x51, x52, x53, x54, x55, x56, x57, x58, x59, x60, x61, x62, x63, x64, x65, x66, x67, x68, x69, x70, x71, x72, x73, x74, x75, x76, x77, x78, x79, x80, x81, x82, x83, x84, x85, x86, x87, x88, x89, x90, x91, x92, x93, x94, x95, x96, x97, x98, x99, x100, x101, x102, x103, x104, x105, x106, x107, x108, x109, x110], []⟩ wc := by
  conv => arg 2; whnf
  have hB2 := hB.below hbase (Below.refl _ _).drew
  clear hB
  have hp : Pay wc.drew p := hB2.pay
  obtain ⟨t0, t1, t2, t3⟩ := hB2.ct
  have hpr : ∀ b ∈ foot p.A p.n, ∀ j, j < 4 → (M.r j).g ≠ some b := fun b hb j hj e => by have h1 := ((hB2.mem.own j hj).lt b e).1; have h2 := hB2.psep b hb; omega
  have hpz : ∀ b ∈ foot p.A p.n, b ∉ Zs Z W := fun b hb hz => by have h2 := hB2.psep b hb; simp only [Zs, List.mem_cons] at hz; rcases hz with hz | hz | hz | hz; omega; omega; omega; (have := (hB2.zr b hz).1; omega)
  refine wp_region_held_drew (S := (fun w' => w'.cell? ⟨W.heap.size + 1, 0, none⟩ = some (Value.int .i64 1) ∧ w'.cell? ⟨W.heap.size + 1, 2, none⟩ = some (Value.int .i64 p.id) ∧ w'.cell? ⟨W.heap.size + 1, 3, none⟩ = some (Value.slice p.A p.n p.c))) (by kernel_rfl) ⟨t0, t2, t3⟩ (fun hHeld => ?_)
  generalize wc.drew = w2 at *
  have hB3 := hB2.below hbase ((Below.refl _ _).alloc (Nat.le_refl _) (.cells #[.int .i64 p.id, .slice p.A p.n p.c] 30))
  have hz3 : base ≤ (w2.alloc (.cells #[.int .i64 p.id, .slice p.A p.n p.c] 30)).heap.size := by have := hB2.x.lt; simp; omega
  have hown3 := hB3.mem.own 1 (by decide)
  have cc : w2.cell? ⟨W.heap.size, 15, none⟩ = some (M.r 1).v := hB2.x.cell 15
  have cd : (w2.alloc (.cells #[.int .i64 p.id, .slice p.A p.n p.c] 30)).cell? ⟨W.heap.size, 15, none⟩ = some (M.r 1).v := hB3.x.cell 15
  refine' wpAnyH_take (i := 0) ?hih19 ?hsh19 ?hfh19 ?hrh19 ?hQh19 ?hyh19 ?hSh19 ?resth19
  case hih19 =>
    simp only [List.getElem?_toArray, List.getElem?_cons_succ, List.getElem?_cons_zero]
    all_goals rfl
  case hsh19 => kernel_rfl
  case hfh19 => kernel_rfl
  case hrh19 => kernel_rfl
  case hQh19 => exact fun c x u h => hQ0 c x _ _ u h
  case hSh19 => assumption
  case hyh19 =>
    refine Or.inl ⟨by rfl, ?_⟩
    intro w hSw
    try dsimp only at hSw
    go_simp
    all_goals with_reducible rfl
  try simp only [Act.put, List.setIfInBounds_toArray, List.set_cons_zero, List.set_cons_succ]
  refine' wpAnyH_take (i := 1) ?hih20 ?hsh20 ?hfh20 ?hrh20 ?hQh20 ?hyh20 ?hSh20 ?resth20
  case hih20 =>
    simp only [List.getElem?_toArray, List.getElem?_cons_succ, List.getElem?_cons_zero]
    all_goals rfl
  case hsh20 => kernel_rfl
  case hfh20 => kernel_rfl
  case hrh20 => kernel_rfl
  case hQh20 => exact fun c x u h => hQ0 c x _ _ u h
  case hSh20 => assumption
  case hyh20 =>
    refine Or.inl ⟨by rfl, ?_⟩
    intro w hSw
    try dsimp only at hSw
    go_simp
    all_goals with_reducible rfl
  try simp only [Act.put, List.setIfInBounds_toArray, List.set_cons_zero, List.set_cons_succ]
  refine' wpAnyH_take (i := 2) ?hih21 ?hsh21 ?hfh21 ?hrh21 ?hQh21 ?hyh21 ?hSh21 ?resth21
  case hih21 =>
    simp only [List.getElem?_toArray, List.getElem?_cons_succ, List.getElem?_cons_zero]
    all_goals rfl
  case hsh21 => kernel_rfl
  case hfh21 => kernel_rfl
  case hrh21 => kernel_rfl
  case hQh21 => exact fun c x u h => hQ0 c x _ _ u h
  case hSh21 => assumption
  case hyh21 =>
    refine Or.inl ⟨by rfl, ?_⟩
    intro w hSw
    try dsimp only at hSw
    go_simp
    all_goals with_reducible rfl
  try simp only [Act.put, List.setIfInBounds_toArray, List.set_cons_zero, List.set_cons_succ]
  refine' wpAnyH_take (i := 3) ?hih22 ?hsh22 ?hfh22 ?hrh22 ?hQh22 ?hyh22 ?hSh22 ?resth22
  case hih22 =>
    simp only [List.getElem?_toArray, List.getElem?_cons_succ, List.getElem?_cons_zero]
    all_goals rfl
  case hsh22 => kernel_rfl
  case hfh22 => kernel_rfl
  case hrh22 => kernel_rfl
  case hQh22 => exact fun c x u h => hQ0 c x _ _ u h
  case hSh22 => assumption
  case hyh22 =>
    refine Or.inl ⟨by rfl, ?_⟩
    intro w hSw
    try dsimp only at hSw
    go_simp
    all_goals with_reducible rfl
  try simp only [Act.put, List.setIfInBounds_toArray, List.set_cons_zero, List.set_cons_succ]
  refine' wpAnyH_take (i := 4) ?hih23 ?hsh23 ?hfh23 ?hrh23 ?hQh23 ?hyh23 ?hSh23 ?resth23
  case hih23 =>
    simp only [List.getElem?_toArray, List.getElem?_cons_succ, List.getElem?_cons_zero]
    all_goals rfl
  case hsh23 => kernel_rfl
  case hfh23 => kernel_rfl
  case hrh23 => kernel_rfl
  case hQh23 => exact fun c x u h => hQ0 c x _ _ u h
  case hSh23 => assumption
  case hyh23 =>
    refine Or.inl ⟨by rfl, ?_⟩
    intro w hSw
    try dsimp only at hSw
    go_simp
    all_goals with_reducible rfl
  try simp only [Act.put, List.setIfInBounds_toArray, List.set_cons_zero, List.set_cons_succ]
  refine' wpAnyH_take (i := 5) ?hih24 ?hsh24 ?hfh24 ?hrh24 ?hQh24 ?hyh24 ?hSh24 ?resth24
  case hih24 =>
    simp only [List.getElem?_toArray, List.getElem?_cons_succ, List.getElem?_cons_zero]
    all_goals rfl
  case hsh24 => kernel_rfl
  case hfh24 => kernel_rfl
  case hrh24 => kernel_rfl
  case hQh24 => exact fun c x u h => hQ0 c x _ _ u h
  case hSh24 => assumption
  case hyh24 =>
    refine Or.inl ⟨by rfl, ?_⟩
    intro w hSw
    try dsimp only at hSw
    go_simp
    all_goals with_reducible rfl
  try simp only [Act.put, List.setIfInBounds_toArray, List.set_cons_zero, List.set_cons_succ]
  refine' wpAnyH_take (i := 7) ?hih25 ?hsh25 ?hfh25 ?hrh25 ?hQh25 ?hyh25 ?hSh25 ?resth25
  case hih25 =>
    simp only [List.getElem?_toArray, List.getElem?_cons_succ, List.getElem?_cons_zero]
    all_goals rfl
  case hsh25 => kernel_rfl
  case hfh25 => kernel_rfl
  case hrh25 => kernel_rfl
  case hQh25 => exact fun c x u h => hQ0 c x _ _ u h
  case hSh25 => assumption
  case hyh25 =>
    refine Or.inl ⟨by rfl, ?_⟩
    intro w hSw
    try dsimp only at hSw
    go_simp
    all_goals with_reducible rfl
  try simp only [Act.put, List.setIfInBounds_toArray, List.set_cons_zero, List.set_cons_succ]
  refine' wpAnyH_take (i := 8) ?hih26 ?hsh26 ?hfh26 ?hrh26 ?hQh26 ?hyh26 ?hSh26 ?resth26
  case hih26 =>
    simp only [List.getElem?_toArray, List.getElem?_cons_succ, List.getElem?_cons_zero]
    all_goals rfl
  case hsh26 => kernel_rfl
  case hfh26 => kernel_rfl
  case hrh26 => kernel_rfl
  case hQh26 => exact fun c x u h => hQ0 c x _ _ u h
  case hSh26 => assumption
  case hyh26 =>
    refine Or.inl ⟨by rfl, ?_⟩
    intro w hSw
    try dsimp only at hSw
    go_simp
    all_goals with_reducible rfl
  try simp only [Act.put, List.setIfInBounds_toArray, List.set_cons_zero, List.set_cons_succ]
  refine' wpAnyH_take (i := 11) ?hih27 ?hsh27 ?hfh27 ?hrh27 ?hQh27 ?hyh27 ?hSh27 ?resth27
  case hih27 =>
    simp only [List.getElem?_toArray, List.getElem?_cons_succ, List.getElem?_cons_zero]
    all_goals rfl
  case hsh27 => kernel_rfl
  case hfh27 => kernel_rfl
  case hrh27 => kernel_rfl
  case hQh27 => exact fun c x u h => hQ0 c x _ _ u h
  case hSh27 => assumption
  case hyh27 =>
    refine Or.inl ⟨by rfl, ?_⟩
    intro w hSw
    try dsimp only at hSw
    go_simp
    all_goals with_reducible rfl
  try simp only [Act.put, List.setIfInBounds_toArray, List.set_cons_zero, List.set_cons_succ]
  refine wpAnyH_ready (rs := [6, 9]) (by kernel_rfl) (by simp) ?_
  refine AllReadyH.cons rfl (fun K hK => ?_) ?_
  · go_simp
    try go_wp2_with fail
    refine hK.out _ _ ?_ (fun hHeld => ?_)
    · exact hHeld
    clear hK K
    try simp only [Act.put, List.setIfInBounds_toArray, List.set_cons_zero, List.set_cons_succ]
    refine wpAnyH_ready (rs := [9]) (by kernel_rfl) (by simp) ?_
    refine AllReadyH.cons rfl (fun K hK => ?_) AllReadyH.nil
    go_simp
    try go_wp2_with fail
    refine hK.out _ _ ?_ (fun hHeld => ?_)
    · exact ⟨hB3.t.cell 0, hB3.t.cell 2, hB3.t.cell 3⟩
    clear hK K
    try simp only [Act.put, List.setIfInBounds_toArray, List.set_cons_zero, List.set_cons_succ]
    refine wpAnyH_ready (rs := [10]) (by kernel_rfl) (by simp) ?_
    refine AllReadyH.cons rfl (fun K hK => ?_) AllReadyH.nil
    refine step_append_g _ rfl (.tmp 48) (.tmp 51) _ rfl base 30 (.agg #[.int .i64 0, .slice none 0 0]) 2 32 underP infoP rfl (by omega) (M.r 1).v (M.r 1).n (pv (M.r 1).qs) (M.r 1).g rfl hown3 (some ⟨w2.heap.size, 0, none⟩) 1 1 (pv [p]) rfl (rd2_one w2 p 30 rfl) (by decide) (pv_one _) (by omega) (by omega) hz3 ?_
    intro v3 w3 g3 hown4 hg3 hat3
    obtain ⟨A5, k5, hv5, _, _⟩ := hown4.rd
    rw [hv5] at hown4
    rw [hv5]
    have hG := hB3.grown (i := 1) (by decide) hg3
    have s0 : w3.cell? ⟨W.heap.size, 15, none⟩ = some (M.r 1).v := hG.1.cell 15
    have f0 := hG.1.frozen 15
    try go_wp2_with fail
    refine hK.out _ _ ?_ (fun hHeld => ?_)
    · exact ⟨hG.2.1.cell 0, hG.2.1.cell 2, hG.2.1.cell 3⟩
    clear hK K
    try simp only [Act.put, List.setIfInBounds_toArray, List.set_cons_zero, List.set_cons_succ]
    refine' wpAnyH_take (i := 12) ?hih31 ?hsh31 ?hfh31 ?hrh31 ?hQh31 ?hyh31 ?hSh31 ?resth31
    case hih31 =>
      simp only [List.getElem?_toArray, List.getElem?_cons_succ, List.getElem?_cons_zero]
      all_goals rfl
    case hsh31 => kernel_rfl
    case hfh31 => kernel_rfl
    case hrh31 => kernel_rfl
    case hQh31 => exact fun c x u h => hQ0 c x _ _ u h
    case hSh31 => assumption
    case hyh31 =>
      refine Or.inl ⟨by rfl, ?_⟩
      intro w hSw
      try dsimp only at hSw
      go_simp
      all_goals with_reducible rfl
    try simp only [Act.put, List.setIfInBounds_toArray, List.set_cons_zero, List.set_cons_succ]
    refine wpAnyH_ready (rs := [13]) (by kernel_rfl) (by simp) ?_
    refine AllReadyH.cons rfl (fun K hK => ?_) AllReadyH.nil
    go_simp
    try go_wp2_with fail
    refine hK.out _ _ ?_ (fun hHeld => ?_)
    · exact ⟨(hG.2.1.far (by simp) _).cell 0, (hG.2.1.far (by simp) _).cell 2, (hG.2.1.far (by simp) _).cell 3⟩
    clear hK K
    try simp only [Act.put, List.setIfInBounds_toArray, List.set_cons_zero, List.set_cons_succ]
    refine wpAnyH_done (by kernel_rfl) ?_ _
    go_wp2
    go_meet
    case rel => exact ⟨_, g3, hB3.push hbase (by decide) hown4 hg3 hat3 (hp.alloc _) hpr hpz⟩
  refine AllReadyH.cons rfl (fun K hK => ?_) ?_
  · go_simp
    try go_wp2_with fail
    refine hK.out _ _ ?_ (fun hHeld => ?_)
    · exact ⟨hB3.t.cell 0, hB3.t.cell 2, hB3.t.cell 3⟩
    clear hK K
    try simp only [Act.put, List.setIfInBounds_toArray, List.set_cons_zero, List.set_cons_succ]
    refine wpAnyH_ready (rs := [6]) (by kernel_rfl) (by simp) ?_
    refine AllReadyH.cons rfl (fun K hK => ?_) AllReadyH.nil
    go_simp
    try go_wp2_with fail
    refine hK.out _ _ ?_ (fun hHeld => ?_)
    · exact hHeld
    clear hK K
    try simp only [Act.put, List.setIfInBounds_toArray, List.set_cons_zero, List.set_cons_succ]
    refine wpAnyH_ready (rs := [10]) (by kernel_rfl) (by simp) ?_
    refine AllReadyH.cons rfl (fun K hK => ?_) AllReadyH.nil
    refine step_append_g _ rfl (.tmp 48) (.tmp 51) _ rfl base 30 (.agg #[.int .i64 0, .slice none 0 0]) 2 32 underP infoP rfl (by omega) (M.r 1).v (M.r 1).n (pv (M.r 1).qs) (M.r 1).g rfl hown3 (some ⟨w2.heap.size, 0, none⟩) 1 1 (pv [p]) rfl (rd2_one w2 p 30 rfl) (by decide) (pv_one _) (by omega) (by omega) hz3 ?_
    intro v3 w3 g3 hown4 hg3 hat3
    obtain ⟨A5, k5, hv5, _, _⟩ := hown4.rd
    rw [hv5] at hown4
    rw [hv5]
    have hG := hB3.grown (i := 1) (by decide) hg3
    have s0 : w3.cell? ⟨W.heap.size, 15, none⟩ = some (M.r 1).v := hG.1.cell 15
    have f0 := hG.1.frozen 15
    try go_wp2_with fail
    refine hK.out _ _ ?_ (fun hHeld => ?_)
    · exact ⟨hG.2.1.cell 0, hG.2.1.cell 2, hG.2.1.cell 3⟩
    clear hK K
    try simp only [Act.put, List.setIfInBounds_toArray, List.set_cons_zero, List.set_cons_succ]
    refine' wpAnyH_take (i := 12) ?hih35 ?hsh35 ?hfh35 ?hrh35 ?hQh35 ?hyh35 ?hSh35 ?resth35
    case hih35 =>
      simp only [List.getElem?_toArray, List.getElem?_cons_succ, List.getElem?_cons_zero]
      all_goals rfl
    case hsh35 => kernel_rfl
    case hfh35 => kernel_rfl
    case hrh35 => kernel_rfl
    case hQh35 => exact fun c x u h => hQ0 c x _ _ u h
    case hSh35 => assumption
    case hyh35 =>
      refine Or.inl ⟨by rfl, ?_⟩
      intro w hSw
      try dsimp only at hSw
      go_simp
      all_goals with_reducible rfl
    try simp only [Act.put, List.setIfInBounds_toArray, List.set_cons_zero, List.set_cons_succ]
    refine wpAnyH_ready (rs := [13]) (by kernel_rfl) (by simp) ?_
    refine AllReadyH.cons rfl (fun K hK => ?_) AllReadyH.nil
    go_simp
    try go_wp2_with fail
    refine hK.out _ _ ?_ (fun hHeld => ?_)
    · exact ⟨(hG.2.1.far (by simp) _).cell 0, (hG.2.1.far (by simp) _).cell 2, (hG.2.1.far (by simp) _).cell 3⟩
    clear hK K
    try simp only [Act.put, List.setIfInBounds_toArray, List.set_cons_zero, List.set_cons_succ]
    refine wpAnyH_done (by kernel_rfl) ?_ _
    go_wp2
    go_meet
    case rel => exact ⟨_, g3, hB3.push hbase (by decide) hown4 hg3 hat3 (hp.alloc _) hpr hpz⟩
  exact AllReadyH.nil
end Go.Proofs.Ytobljnbpokijdaa
