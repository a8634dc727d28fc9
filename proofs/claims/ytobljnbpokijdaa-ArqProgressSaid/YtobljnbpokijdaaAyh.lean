/-
  The walk of moved: the list of what was got grows (region 14).
-/
import Derived.Test.YtobljnbpokijdaaAyb
import Derived.Deep.RegionHeld3

namespace Go.Proofs.Ytobljnbpokijdaa
set_option linter.unusedVariables false
set_option linter.unusedSimpArgs false
open Go.RowKit
set_option maxRecDepth 100000 in
set_option maxHeartbeats 100000000 in
theorem mv_r14_0 (x0 x1 x5 x6 x7 x9 x10 x11 x13 x14 x15 x16 x17 x18 x19 x20 x21 x22 x23 x24 x25 x26 x27 x28 x29 x30 x31 x32 x33 x34 x35 x36 x37 x38 x39 x40 x41 x42 x43 x44 x45 x46 x47 x48 x49 x50 x51 x52 x53 x54 x55 x56 x57 x58 x59 x60 x61 x62 x63 x64 x65 x66 x67 x68 x69 x70 x71 x72 x73 x74 x75 x76 x77 x78 x79 x80 x81 x82 x83 x84 x85 x86 x87 x88 x89 x90 x91 x92 x93 x94 x95 x96 x97 x98 x99 x100 x101 x102 x103 x104 x105 x106 x107 x108 x109 x110 : Value) (Z : List Nat) (W wc : World) (base g12 : Nat) (s : Stp) (g : Pk) (E : En) (M : Mm)
    (hB : Bx Z W base s E M wc)
    (hbase : base ≤ W.heap.size)
    (hn : (M.r 2).n ≤ 100000)
    (kg : Blk wc g12 30 #[.int .i64 g.id, .slice g.A g.n g.c])
    (hp0 : Pay wc g)
    (hgz : g12 ∉ Zs Z W)
    (hgr : ∀ j, j < 4 → (M.r j).g ≠ some g12)
    (hpo : ∀ b ∈ foot g.A g.n, b ∉ Zs Z W ∧ ∀ j, j < 4 → (M.r j).g ≠ some b)
    {J K' : Act → World → Prop} {Q0 : Exit → Act → World → Prop} (hJ : ∀ a' w', (∃ u15 u16 u17 u18 u19 u20 u21 u22 u23 u24 u25 u26 u27 u28 u29 u30 u31 u32 u33 u34 u35 u36 u37 u38 u39 u40 u41 u42 u43 u44 u45 u46 u47 u48 u49 u50 u51 u52 u53 u54 u55 u56 u57 u58 u59 u60 u61 u62 u63 u64 u65 u66 u67 u68 u69 u70 u71 u72 u73 u74 u75 u76 u77 u78 u79 u80 u81 u82 u83 u84 u85 u86 u87 u88 u89 u90 u91 u92 u93 u94 u95 u96 u97 u98 u99 u100 u101 u102 u103 u104 u105 u106 u107 u108 u109 u110 : Value, (∃ v' g', Bx Z W base s ⟨E.s, upd E.r 2 (E.r 2 ++ [g.abs])⟩ ⟨M.q, upd M.r 2 ⟨v', (M.r 2).n + 1, (M.r 2).qs ++ [g], g'⟩⟩ w') ∧ a' = ⟨#[x0, x1, Value.pointer (some ⟨W.heap.size, 0, none⟩), Value.pointer (some ⟨W.heap.size + 1, 0, none⟩), Value.pointer (some ⟨W.heap.size + 2, 0, none⟩), x5, x6, x7, Value.int .i64 0, x9, x10, x11, Value.pointer (some ⟨g12, 0, none⟩), x13, x14, u15, u16, u17, u18, u19, u20, u21, u22, u23, u24, u25, u26, u27, u28, u29, u30, u31, u32, u33, u34, u35, u36, u37, u38, u39, u40, u41, u42, u43, u44, u45, u46, u47, u48, u49, u50, u51, u52, u53, u54, u55, u56, u57, u58, u59, u60, u61, u62, u63, u64, u65, u66, u67, u68, u69, u70, u71, u72, u73, u74, u75, u76, u77, u78, u79, u80, u81, u82, u83, u84, u85, u86, u87, u88, u89, u90, u91, u92, u93, u94, u95, u96, u97, u98, u99, u100, u101, u102, u103, u104, u105, u106, u107, u108, u109, u110], []⟩) → J a' w') (hM : ∀ a' w', Met J a' w' → K' a' w') (hQ0 : ∀ (c : List PanicEntry) (x : Act) (t : Option Tmp) (v : Value) (u : World), Q0 (.panic c) (x.put t v) u → Q0 (.panic c) x u) :
    Code.wp Try.prog (mvCode 14) (Exit.then K' Q0) ⟨#[x0, x1, Value.pointer (some ⟨W.heap.size, 0, none⟩), Value.pointer (some ⟨W.heap.size + 1, 0, none⟩), Value.pointer (some ⟨W.heap.size + 2, 0, none⟩), x5, x6, x7, Value.int .i64 0, x9, x10, x11, Value.pointer (some ⟨g12, 0, none⟩), x13, x14, x15, x16, x17, x18, x19, x20, x21, x22, x23, x24, x25, x26, x27, x28, x29, x30, x31, x32, x33, x34, x35, x36, x37, x38, x39, x40, x41, x42, x43, x44, x45, x46, x47, x48, x49, x50, x51, x52, x53, x54, x55, x56, x57, x58, x59, x60, x61, x62, x63, x64, x65, x66, x67, x68, x69, x70, x71, x72, x73, x74, x75, x76, x77, x78, x79, x80, x81, x82, x83, x84, x85, x86, x87, x88, x89, x90, x91, x92, x93, x94, x95, x96, x97, x98, x99, x100, x101, x102, x103, x104, x105, x106, x107, x108, x109, x110], []⟩ wc := by
  conv => arg 2; whnf
  have hB2 := hB.below hbase (Below.refl _ _).drew
  clear hB
  have hp : Pay wc.drew g := hp0.drew
  have kg2 : Blk wc.drew g12 30 #[.int .i64 g.id, .slice g.A g.n g.c] := kg.drew
  clear kg hp0
  obtain ⟨t0, t1⟩ := at2 kg2
  have hpr : ∀ b ∈ foot g.A g.n, ∀ j, j < 4 → (M.r j).g ≠ some b := fun b hb => (hpo b hb).2
  have hpz : ∀ b ∈ foot g.A g.n, b ∉ Zs Z W := fun b hb => (hpo b hb).1
  have hne : g12 ≠ W.heap.size := fun e => hgz (by rw [e]; simp [Zs])
  have HR := hide hgr
  clear hgr hpo
  refine wp_region_held_drew (S := (fun w' => w'.cell? ⟨g12, 0, none⟩ = some (Value.int .i64 g.id) ∧ w'.cell? ⟨g12, 1, none⟩ = some (Value.slice g.A g.n g.c))) (by kernel_rfl) ⟨t0, t1⟩ (fun hHeld => ?_)
  generalize wc.drew = w2 at *
  have hB3 := hB2.below hbase ((Below.refl _ _).alloc (Nat.le_refl _) (.cells #[.int .i64 g.id, .slice g.A g.n g.c] 30))
  have hz3 : base ≤ (w2.alloc (.cells #[.int .i64 g.id, .slice g.A g.n g.c] 30)).heap.size := by have := hB2.x.lt; simp; omega
  have hown3 := hB3.mem.own 2 (by decide)
  have cc : w2.cell? ⟨W.heap.size, 16, none⟩ = some (M.r 2).v := hB2.x.cell 16
  have cd : (w2.alloc (.cells #[.int .i64 g.id, .slice g.A g.n g.c] 30)).cell? ⟨W.heap.size, 16, none⟩ = some (M.r 2).v := hB3.x.cell 16
  refine' wpAnyH_take (i := 0) ?hih37 ?hsh37 ?hfh37 ?hrh37 ?hQh37 ?hyh37 ?hSh37 ?resth37
  case hih37 =>
    simp only [List.getElem?_toArray, List.getElem?_cons_succ, List.getElem?_cons_zero]
    all_goals rfl
  case hsh37 => kernel_rfl
  case hfh37 => kernel_rfl
  case hrh37 => kernel_rfl
  case hQh37 => exact fun c x u h => hQ0 c x _ _ u h
  case hSh37 => assumption
  case hyh37 =>
    refine Or.inl ⟨by rfl, ?_⟩
    intro w hSw
    try dsimp only at hSw
    go_simp
    all_goals with_reducible rfl
  try simp only [Act.put, List.setIfInBounds_toArray, List.set_cons_zero, List.set_cons_succ]
  refine' wpAnyH_take (i := 1) ?hih38 ?hsh38 ?hfh38 ?hrh38 ?hQh38 ?hyh38 ?hSh38 ?resth38
  case hih38 =>
    simp only [List.getElem?_toArray, List.getElem?_cons_succ, List.getElem?_cons_zero]
    all_goals rfl
  case hsh38 => kernel_rfl
  case hfh38 => kernel_rfl
  case hrh38 => kernel_rfl
  case hQh38 => exact fun c x u h => hQ0 c x _ _ u h
  case hSh38 => assumption
  case hyh38 =>
    refine Or.inl ⟨by rfl, ?_⟩
    intro w hSw
    try dsimp only at hSw
    go_simp
    all_goals with_reducible rfl
  try simp only [Act.put, List.setIfInBounds_toArray, List.set_cons_zero, List.set_cons_succ]
  refine' wpAnyH_take (i := 2) ?hih39 ?hsh39 ?hfh39 ?hrh39 ?hQh39 ?hyh39 ?hSh39 ?resth39
  case hih39 =>
    simp only [List.getElem?_toArray, List.getElem?_cons_succ, List.getElem?_cons_zero]
    all_goals rfl
  case hsh39 => kernel_rfl
  case hfh39 => kernel_rfl
  case hrh39 => kernel_rfl
  case hQh39 => exact fun c x u h => hQ0 c x _ _ u h
  case hSh39 => assumption
  case hyh39 =>
    refine Or.inl ⟨by rfl, ?_⟩
    intro w hSw
    try dsimp only at hSw
    go_simp
    all_goals with_reducible rfl
  try simp only [Act.put, List.setIfInBounds_toArray, List.set_cons_zero, List.set_cons_succ]
  refine' wpAnyH_take (i := 3) ?hih40 ?hsh40 ?hfh40 ?hrh40 ?hQh40 ?hyh40 ?hSh40 ?resth40
  case hih40 =>
    simp only [List.getElem?_toArray, List.getElem?_cons_succ, List.getElem?_cons_zero]
    all_goals rfl
  case hsh40 => kernel_rfl
  case hfh40 => kernel_rfl
  case hrh40 => kernel_rfl
  case hQh40 => exact fun c x u h => hQ0 c x _ _ u h
  case hSh40 => assumption
  case hyh40 =>
    refine Or.inl ⟨by rfl, ?_⟩
    intro w hSw
    try dsimp only at hSw
    go_simp
    all_goals with_reducible rfl
  try simp only [Act.put, List.setIfInBounds_toArray, List.set_cons_zero, List.set_cons_succ]
  refine' wpAnyH_take (i := 5) ?hih41 ?hsh41 ?hfh41 ?hrh41 ?hQh41 ?hyh41 ?hSh41 ?resth41
  case hih41 =>
    simp only [List.getElem?_toArray, List.getElem?_cons_succ, List.getElem?_cons_zero]
    all_goals rfl
  case hsh41 => kernel_rfl
  case hfh41 => kernel_rfl
  case hrh41 => kernel_rfl
  case hQh41 => exact fun c x u h => hQ0 c x _ _ u h
  case hSh41 => assumption
  case hyh41 =>
    refine Or.inl ⟨by rfl, ?_⟩
    intro w hSw
    try dsimp only at hSw
    go_simp
    all_goals with_reducible rfl
  try simp only [Act.put, List.setIfInBounds_toArray, List.set_cons_zero, List.set_cons_succ]
  refine' wpAnyH_take (i := 8) ?hih42 ?hsh42 ?hfh42 ?hrh42 ?hQh42 ?hyh42 ?hSh42 ?resth42
  case hih42 =>
    simp only [List.getElem?_toArray, List.getElem?_cons_succ, List.getElem?_cons_zero]
    all_goals rfl
  case hsh42 => kernel_rfl
  case hfh42 => kernel_rfl
  case hrh42 => kernel_rfl
  case hQh42 => exact fun c x u h => hQ0 c x _ _ u h
  case hSh42 => assumption
  case hyh42 =>
    refine Or.inl ⟨by rfl, ?_⟩
    intro w hSw
    try dsimp only at hSw
    go_simp
    all_goals with_reducible rfl
  try simp only [Act.put, List.setIfInBounds_toArray, List.set_cons_zero, List.set_cons_succ]
  refine wpAnyH_ready (rs := [4, 6]) (by kernel_rfl) (by simp) ?_
  refine AllReadyH.cons rfl (fun K hK => ?_) ?_
  · go_simp
    try go_wp2_with fail
    refine hK.out _ _ ?_ (fun hHeld => ?_)
    · exact hHeld
    clear hK K
    try simp only [Act.put, List.setIfInBounds_toArray, List.set_cons_zero, List.set_cons_succ]
    refine wpAnyH_ready (rs := [6]) (by kernel_rfl) (by simp) ?_
    refine AllReadyH.cons rfl (fun K hK => ?_) AllReadyH.nil
    go_simp
    try go_wp2_with fail
    refine hK.out _ _ ?_ (fun hHeld => ?_)
    · exact ⟨(kg2.alloc _).cell 0, (kg2.alloc _).cell 1⟩
    clear hK K
    try simp only [Act.put, List.setIfInBounds_toArray, List.set_cons_zero, List.set_cons_succ]
    refine wpAnyH_ready (rs := [7]) (by kernel_rfl) (by simp) ?_
    refine AllReadyH.cons rfl (fun K hK => ?_) AllReadyH.nil
    refine step_append_g _ rfl (.tmp 104) (.tmp 106) _ rfl base 30 (.agg #[.int .i64 0, .slice none 0 0]) 2 32 underP infoP rfl (by omega) (M.r 2).v (M.r 2).n (pv (M.r 2).qs) (M.r 2).g rfl hown3 (some ⟨w2.heap.size, 0, none⟩) 1 1 (pv [g]) rfl (rd2_one w2 g 30 rfl) (by decide) (pv_one _) (by omega) (by omega) hz3 ?_
    intro v3 w3 g3 hown4 hg3 hat3
    obtain ⟨A5, k5, hv5, _, _⟩ := hown4.rd
    rw [hv5] at hown4
    rw [hv5]
    have hG := hB3.grown (i := 2) (by decide) hg3
    have s0 : w3.cell? ⟨W.heap.size, 16, none⟩ = some (M.r 2).v := hG.1.cell 16
    have f0 := hG.1.frozen 16
    try go_wp2_with fail
    refine hK.out _ _ ?_ (fun hHeld => ?_)
    · exact ⟨((kg2.alloc (.cells #[.int .i64 g.id, .slice g.A g.n g.c] 30)).grown hg3 (fun e => HR.out 2 (by decide) e.symm)).cell 0, ((kg2.alloc (.cells #[.int .i64 g.id, .slice g.A g.n g.c] 30)).grown hg3 (fun e => HR.out 2 (by decide) e.symm)).cell 1⟩
    clear hK K
    try simp only [Act.put, List.setIfInBounds_toArray, List.set_cons_zero, List.set_cons_succ]
    refine' wpAnyH_take (i := 9) ?hih46 ?hsh46 ?hfh46 ?hrh46 ?hQh46 ?hyh46 ?hSh46 ?resth46
    case hih46 =>
      simp only [List.getElem?_toArray, List.getElem?_cons_succ, List.getElem?_cons_zero]
      all_goals rfl
    case hsh46 => kernel_rfl
    case hfh46 => kernel_rfl
    case hrh46 => kernel_rfl
    case hQh46 => exact fun c x u h => hQ0 c x _ _ u h
    case hSh46 => assumption
    case hyh46 =>
      refine Or.inl ⟨by rfl, ?_⟩
      intro w hSw
      try dsimp only at hSw
      go_simp
      all_goals with_reducible rfl
    try simp only [Act.put, List.setIfInBounds_toArray, List.set_cons_zero, List.set_cons_succ]
    refine wpAnyH_ready (rs := [10]) (by kernel_rfl) (by simp) ?_
    refine AllReadyH.cons rfl (fun K hK => ?_) AllReadyH.nil
    go_simp
    try go_wp2_with fail
    refine hK.out _ _ ?_ (fun hHeld => ?_)
    · exact ⟨(((kg2.alloc (.cells #[.int .i64 g.id, .slice g.A g.n g.c] 30)).grown hg3 (fun e => HR.out 2 (by decide) e.symm)).far hne _).cell 0, (((kg2.alloc (.cells #[.int .i64 g.id, .slice g.A g.n g.c] 30)).grown hg3 (fun e => HR.out 2 (by decide) e.symm)).far hne _).cell 1⟩
    clear hK K
    try simp only [Act.put, List.setIfInBounds_toArray, List.set_cons_zero, List.set_cons_succ]
    refine wpAnyH_done (by kernel_rfl) ?_ _
    go_wp2
    go_meet
    case rel => exact ⟨_, g3, hB3.push hbase (by decide) hown4 hg3 hat3 (hp.alloc _) hpr hpz⟩
  refine AllReadyH.cons rfl (fun K hK => ?_) ?_
  · go_simp
    try go_wp2_with fail
    refine hK.out _ _ ?_ (fun hHeld => ?_)
    · exact ⟨(kg2.alloc _).cell 0, (kg2.alloc _).cell 1⟩
    clear hK K
    try simp only [Act.put, List.setIfInBounds_toArray, List.set_cons_zero, List.set_cons_succ]
    refine wpAnyH_ready (rs := [4]) (by kernel_rfl) (by simp) ?_
    refine AllReadyH.cons rfl (fun K hK => ?_) AllReadyH.nil
    go_simp
    try go_wp2_with fail
    refine hK.out _ _ ?_ (fun hHeld => ?_)
    · exact hHeld
    clear hK K
    try simp only [Act.put, List.setIfInBounds_toArray, List.set_cons_zero, List.set_cons_succ]
    refine wpAnyH_ready (rs := [7]) (by kernel_rfl) (by simp) ?_
    refine AllReadyH.cons rfl (fun K hK => ?_) AllReadyH.nil
    refine step_append_g _ rfl (.tmp 104) (.tmp 106) _ rfl base 30 (.agg #[.int .i64 0, .slice none 0 0]) 2 32 underP infoP rfl (by omega) (M.r 2).v (M.r 2).n (pv (M.r 2).qs) (M.r 2).g rfl hown3 (some ⟨w2.heap.size, 0, none⟩) 1 1 (pv [g]) rfl (rd2_one w2 g 30 rfl) (by decide) (pv_one _) (by omega) (by omega) hz3 ?_
    intro v3 w3 g3 hown4 hg3 hat3
    obtain ⟨A5, k5, hv5, _, _⟩ := hown4.rd
    rw [hv5] at hown4
    rw [hv5]
    have hG := hB3.grown (i := 2) (by decide) hg3
    have s0 : w3.cell? ⟨W.heap.size, 16, none⟩ = some (M.r 2).v := hG.1.cell 16
    have f0 := hG.1.frozen 16
    try go_wp2_with fail
    refine hK.out _ _ ?_ (fun hHeld => ?_)
    · exact ⟨((kg2.alloc (.cells #[.int .i64 g.id, .slice g.A g.n g.c] 30)).grown hg3 (fun e => HR.out 2 (by decide) e.symm)).cell 0, ((kg2.alloc (.cells #[.int .i64 g.id, .slice g.A g.n g.c] 30)).grown hg3 (fun e => HR.out 2 (by decide) e.symm)).cell 1⟩
    clear hK K
    try simp only [Act.put, List.setIfInBounds_toArray, List.set_cons_zero, List.set_cons_succ]
    refine' wpAnyH_take (i := 9) ?hih50 ?hsh50 ?hfh50 ?hrh50 ?hQh50 ?hyh50 ?hSh50 ?resth50
    case hih50 =>
      simp only [List.getElem?_toArray, List.getElem?_cons_succ, List.getElem?_cons_zero]
      all_goals rfl
    case hsh50 => kernel_rfl
    case hfh50 => kernel_rfl
    case hrh50 => kernel_rfl
    case hQh50 => exact fun c x u h => hQ0 c x _ _ u h
    case hSh50 => assumption
    case hyh50 =>
      refine Or.inl ⟨by rfl, ?_⟩
      intro w hSw
      try dsimp only at hSw
      go_simp
      all_goals with_reducible rfl
    try simp only [Act.put, List.setIfInBounds_toArray, List.set_cons_zero, List.set_cons_succ]
    refine wpAnyH_ready (rs := [10]) (by kernel_rfl) (by simp) ?_
    refine AllReadyH.cons rfl (fun K hK => ?_) AllReadyH.nil
    go_simp
    try go_wp2_with fail
    refine hK.out _ _ ?_ (fun hHeld => ?_)
    · exact ⟨(((kg2.alloc (.cells #[.int .i64 g.id, .slice g.A g.n g.c] 30)).grown hg3 (fun e => HR.out 2 (by decide) e.symm)).far hne _).cell 0, (((kg2.alloc (.cells #[.int .i64 g.id, .slice g.A g.n g.c] 30)).grown hg3 (fun e => HR.out 2 (by decide) e.symm)).far hne _).cell 1⟩
    clear hK K
    try simp only [Act.put, List.setIfInBounds_toArray, List.set_cons_zero, List.set_cons_succ]
    refine wpAnyH_done (by kernel_rfl) ?_ _
    go_wp2
    go_meet
    case rel => exact ⟨_, g3, hB3.push hbase (by decide) hown4 hg3 hat3 (hp.alloc _) hpr hpz⟩
  exact AllReadyH.nil
set_option maxRecDepth 100000 in
set_option maxHeartbeats 100000000 in
theorem mv_r14_1 (x0 x1 x5 x6 x7 x9 x10 x11 x13 x14 x15 x16 x17 x18 x19 x20 x21 x22 x23 x24 x25 x26 x27 x28 x29 x30 x31 x32 x33 x34 x35 x36 x37 x38 x39 x40 x41 x42 x43 x44 x45 x46 x47 x48 x49 x50 x51 x52 x53 x54 x55 x56 x57 x58 x59 x60 x61 x62 x63 x64 x65 x66 x67 x68 x69 x70 x71 x72 x73 x74 x75 x76 x77 x78 x79 x80 x81 x82 x83 x84 x85 x86 x87 x88 x89 x90 x91 x92 x93 x94 x95 x96 x97 x98 x99 x100 x101 x102 x103 x104 x105 x106 x107 x108 x109 x110 : Value) (Z : List Nat) (W wc : World) (base g12 : Nat) (s : Stp) (g : Pk) (E : En) (M : Mm)
    (hB : Bx Z W base s E M wc)
    (hbase : base ≤ W.heap.size)
    (hn : (M.r 3).n ≤ 100000)
    (kg : Blk wc g12 30 #[.int .i64 g.id, .slice g.A g.n g.c])
    (hp0 : Pay wc g)
    (hgz : g12 ∉ Zs Z W)
    (hgr : ∀ j, j < 4 → (M.r j).g ≠ some g12)
    (hpo : ∀ b ∈ foot g.A g.n, b ∉ Zs Z W ∧ ∀ j, j < 4 → (M.r j).g ≠ some b)
    {J K' : Act → World → Prop} {Q0 : Exit → Act → World → Prop} (hJ : ∀ a' w', (∃ u15 u16 u17 u18 u19 u20 u21 u22 u23 u24 u25 u26 u27 u28 u29 u30 u31 u32 u33 u34 u35 u36 u37 u38 u39 u40 u41 u42 u43 u44 u45 u46 u47 u48 u49 u50 u51 u52 u53 u54 u55 u56 u57 u58 u59 u60 u61 u62 u63 u64 u65 u66 u67 u68 u69 u70 u71 u72 u73 u74 u75 u76 u77 u78 u79 u80 u81 u82 u83 u84 u85 u86 u87 u88 u89 u90 u91 u92 u93 u94 u95 u96 u97 u98 u99 u100 u101 u102 u103 u104 u105 u106 u107 u108 u109 u110 : Value, (∃ v' g', Bx Z W base s ⟨E.s, upd E.r 3 (E.r 3 ++ [g.abs])⟩ ⟨M.q, upd M.r 3 ⟨v', (M.r 3).n + 1, (M.r 3).qs ++ [g], g'⟩⟩ w') ∧ a' = ⟨#[x0, x1, Value.pointer (some ⟨W.heap.size, 0, none⟩), Value.pointer (some ⟨W.heap.size + 1, 0, none⟩), Value.pointer (some ⟨W.heap.size + 2, 0, none⟩), x5, x6, x7, Value.int .i64 1, x9, x10, x11, Value.pointer (some ⟨g12, 0, none⟩), x13, x14, u15, u16, u17, u18, u19, u20, u21, u22, u23, u24, u25, u26, u27, u28, u29, u30, u31, u32, u33, u34, u35, u36, u37, u38, u39, u40, u41, u42, u43, u44, u45, u46, u47, u48, u49, u50, u51, u52, u53, u54, u55, u56, u57, u58, u59, u60, u61, u62, u63, u64, u65, u66, u67, u68, u69, u70, u71, u72, u73, u74, u75, u76, u77, u78, u79, u80, u81, u82, u83, u84, u85, u86, u87, u88, u89, u90, u91, u92, u93, u94, u95, u96, u97, u98, u99, u100, u101, u102, u103, u104, u105, u106, u107, u108, u109, u110], []⟩) → J a' w') (hM : ∀ a' w', Met J a' w' → K' a' w') (hQ0 : ∀ (c : List PanicEntry) (x : Act) (t : Option Tmp) (v : Value) (u : World), Q0 (.panic c) (x.put t v) u → Q0 (.panic c) x u) :
    Code.wp Try.prog (mvCode 14) (Exit.then K' Q0) ⟨#[x0, x1, Value.pointer (some ⟨W.heap.size, 0, none⟩), Value.pointer (some ⟨W.heap.size + 1, 0, none⟩), Value.pointer (some ⟨W.heap.size + 2, 0, none⟩), x5, x6, x7, Value.int .i64 1, x9, x10, x11, Value.pointer (some ⟨g12, 0, none⟩), x13, x14, x15, x16, x17, x18, x19, x20, x21, x22, x23, x24, x25, x26, x27, x28, x29, x30, x31, x32, x33, x34, x35, x36, x37, x38, x39, x40, x41, x42, x43, x44, x45, x46, x47, x48, x49, x50, x51, x52, x53, x54, x55, x56, x57, x58, x59, x60, x61, x62, x63, x64, x65, x66, x67, x68, x69, x70, x71, x72, x73, x74, x75, x76, x77, x78, x79, x80, x81, x82, x83, x84, x85, x86, x87, x88, x89, x90, x91, x92, x93, x94, x95, x96, x97, x98, x99, x100, x101, x102, x103, x104, x105, x106, x107, x108, x109, x110], []⟩ wc := by
  conv => arg 2; whnf
  have hB2 := hB.below hbase (Below.refl _ _).drew
  clear hB
  have hp : Pay wc.drew g := hp0.drew
  have kg2 : Blk wc.drew g12 30 #[.int .i64 g.id, .slice g.A g.n g.c] := kg.drew
  clear kg hp0
  obtain ⟨t0, t1⟩ := at2 kg2
  have hpr : ∀ b ∈ foot g.A g.n, ∀ j, j < 4 → (M.r j).g ≠ some b := fun b hb => (hpo b hb).2
  have hpz : ∀ b ∈ foot g.A g.n, b ∉ Zs Z W := fun b hb => (hpo b hb).1
  have hne : g12 ≠ W.heap.size := fun e => hgz (by rw [e]; simp [Zs])
  have HR := hide hgr
  clear hgr hpo
  refine wp_region_held_drew (S := (fun w' => w'.cell? ⟨g12, 0, none⟩ = some (Value.int .i64 g.id) ∧ w'.cell? ⟨g12, 1, none⟩ = some (Value.slice g.A g.n g.c))) (by kernel_rfl) ⟨t0, t1⟩ (fun hHeld => ?_)
  generalize wc.drew = w2 at *
  have hB3 := hB2.below hbase ((Below.refl _ _).alloc (Nat.le_refl _) (.cells #[.int .i64 g.id, .slice g.A g.n g.c] 30))
  have hz3 : base ≤ (w2.alloc (.cells #[.int .i64 g.id, .slice g.A g.n g.c] 30)).heap.size := by have := hB2.x.lt; simp; omega
  have hown3 := hB3.mem.own 3 (by decide)
  have cc : w2.cell? ⟨W.heap.size, 17, none⟩ = some (M.r 3).v := hB2.x.cell 17
  have cd : (w2.alloc (.cells #[.int .i64 g.id, .slice g.A g.n g.c] 30)).cell? ⟨W.heap.size, 17, none⟩ = some (M.r 3).v := hB3.x.cell 17
  refine' wpAnyH_take (i := 0) ?hih52 ?hsh52 ?hfh52 ?hrh52 ?hQh52 ?hyh52 ?hSh52 ?resth52
  case hih52 =>
    simp only [List.getElem?_toArray, List.getElem?_cons_succ, List.getElem?_cons_zero]
    all_goals rfl
  case hsh52 => kernel_rfl
  case hfh52 => kernel_rfl
  case hrh52 => kernel_rfl
  case hQh52 => exact fun c x u h => hQ0 c x _ _ u h
  case hSh52 => assumption
  case hyh52 =>
    refine Or.inl ⟨by rfl, ?_⟩
    intro w hSw
    try dsimp only at hSw
    go_simp
    all_goals with_reducible rfl
  try simp only [Act.put, List.setIfInBounds_toArray, List.set_cons_zero, List.set_cons_succ]
  refine' wpAnyH_take (i := 1) ?hih53 ?hsh53 ?hfh53 ?hrh53 ?hQh53 ?hyh53 ?hSh53 ?resth53
  case hih53 =>
    simp only [List.getElem?_toArray, List.getElem?_cons_succ, List.getElem?_cons_zero]
    all_goals rfl
  case hsh53 => kernel_rfl
  case hfh53 => kernel_rfl
  case hrh53 => kernel_rfl
  case hQh53 => exact fun c x u h => hQ0 c x _ _ u h
  case hSh53 => assumption
  case hyh53 =>
    refine Or.inl ⟨by rfl, ?_⟩
    intro w hSw
    try dsimp only at hSw
    go_simp
    all_goals with_reducible rfl
  try simp only [Act.put, List.setIfInBounds_toArray, List.set_cons_zero, List.set_cons_succ]
  refine' wpAnyH_take (i := 2) ?hih54 ?hsh54 ?hfh54 ?hrh54 ?hQh54 ?hyh54 ?hSh54 ?resth54
  case hih54 =>
    simp only [List.getElem?_toArray, List.getElem?_cons_succ, List.getElem?_cons_zero]
    all_goals rfl
  case hsh54 => kernel_rfl
  case hfh54 => kernel_rfl
  case hrh54 => kernel_rfl
  case hQh54 => exact fun c x u h => hQ0 c x _ _ u h
  case hSh54 => assumption
  case hyh54 =>
    refine Or.inl ⟨by rfl, ?_⟩
    intro w hSw
    try dsimp only at hSw
    go_simp
    all_goals with_reducible rfl
  try simp only [Act.put, List.setIfInBounds_toArray, List.set_cons_zero, List.set_cons_succ]
  refine' wpAnyH_take (i := 3) ?hih55 ?hsh55 ?hfh55 ?hrh55 ?hQh55 ?hyh55 ?hSh55 ?resth55
  case hih55 =>
    simp only [List.getElem?_toArray, List.getElem?_cons_succ, List.getElem?_cons_zero]
    all_goals rfl
  case hsh55 => kernel_rfl
  case hfh55 => kernel_rfl
  case hrh55 => kernel_rfl
  case hQh55 => exact fun c x u h => hQ0 c x _ _ u h
  case hSh55 => assumption
  case hyh55 =>
    refine Or.inl ⟨by rfl, ?_⟩
    intro w hSw
    try dsimp only at hSw
    go_simp
    all_goals with_reducible rfl
  try simp only [Act.put, List.setIfInBounds_toArray, List.set_cons_zero, List.set_cons_succ]
  refine' wpAnyH_take (i := 5) ?hih56 ?hsh56 ?hfh56 ?hrh56 ?hQh56 ?hyh56 ?hSh56 ?resth56
  case hih56 =>
    simp only [List.getElem?_toArray, List.getElem?_cons_succ, List.getElem?_cons_zero]
    all_goals rfl
  case hsh56 => kernel_rfl
  case hfh56 => kernel_rfl
  case hrh56 => kernel_rfl
  case hQh56 => exact fun c x u h => hQ0 c x _ _ u h
  case hSh56 => assumption
  case hyh56 =>
    refine Or.inl ⟨by rfl, ?_⟩
    intro w hSw
    try dsimp only at hSw
    go_simp
    all_goals with_reducible rfl
  try simp only [Act.put, List.setIfInBounds_toArray, List.set_cons_zero, List.set_cons_succ]
  refine' wpAnyH_take (i := 8) ?hih57 ?hsh57 ?hfh57 ?hrh57 ?hQh57 ?hyh57 ?hSh57 ?resth57
  case hih57 =>
    simp only [List.getElem?_toArray, List.getElem?_cons_succ, List.getElem?_cons_zero]
    all_goals rfl
  case hsh57 => kernel_rfl
  case hfh57 => kernel_rfl
  case hrh57 => kernel_rfl
  case hQh57 => exact fun c x u h => hQ0 c x _ _ u h
  case hSh57 => assumption
  case hyh57 =>
    refine Or.inl ⟨by rfl, ?_⟩
    intro w hSw
    try dsimp only at hSw
    go_simp
    all_goals with_reducible rfl
  try simp only [Act.put, List.setIfInBounds_toArray, List.set_cons_zero, List.set_cons_succ]
  refine wpAnyH_ready (rs := [4, 6]) (by kernel_rfl) (by simp) ?_
  refine AllReadyH.cons rfl (fun K hK => ?_) ?_
  · go_simp
    try go_wp2_with fail
    refine hK.out _ _ ?_ (fun hHeld => ?_)
    · exact hHeld
    clear hK K
    try simp only [Act.put, List.setIfInBounds_toArray, List.set_cons_zero, List.set_cons_succ]
    refine wpAnyH_ready (rs := [6]) (by kernel_rfl) (by simp) ?_
    refine AllReadyH.cons rfl (fun K hK => ?_) AllReadyH.nil
    go_simp
    try go_wp2_with fail
    refine hK.out _ _ ?_ (fun hHeld => ?_)
    · exact ⟨(kg2.alloc _).cell 0, (kg2.alloc _).cell 1⟩
    clear hK K
    try simp only [Act.put, List.setIfInBounds_toArray, List.set_cons_zero, List.set_cons_succ]
    refine wpAnyH_ready (rs := [7]) (by kernel_rfl) (by simp) ?_
    refine AllReadyH.cons rfl (fun K hK => ?_) AllReadyH.nil
    refine step_append_g _ rfl (.tmp 104) (.tmp 106) _ rfl base 30 (.agg #[.int .i64 0, .slice none 0 0]) 2 32 underP infoP rfl (by omega) (M.r 3).v (M.r 3).n (pv (M.r 3).qs) (M.r 3).g rfl hown3 (some ⟨w2.heap.size, 0, none⟩) 1 1 (pv [g]) rfl (rd2_one w2 g 30 rfl) (by decide) (pv_one _) (by omega) (by omega) hz3 ?_
    intro v3 w3 g3 hown4 hg3 hat3
    obtain ⟨A5, k5, hv5, _, _⟩ := hown4.rd
    rw [hv5] at hown4
    rw [hv5]
    have hG := hB3.grown (i := 3) (by decide) hg3
    have s0 : w3.cell? ⟨W.heap.size, 17, none⟩ = some (M.r 3).v := hG.1.cell 17
    have f0 := hG.1.frozen 17
    try go_wp2_with fail
    refine hK.out _ _ ?_ (fun hHeld => ?_)
    · exact ⟨((kg2.alloc (.cells #[.int .i64 g.id, .slice g.A g.n g.c] 30)).grown hg3 (fun e => HR.out 3 (by decide) e.symm)).cell 0, ((kg2.alloc (.cells #[.int .i64 g.id, .slice g.A g.n g.c] 30)).grown hg3 (fun e => HR.out 3 (by decide) e.symm)).cell 1⟩
    clear hK K
    try simp only [Act.put, List.setIfInBounds_toArray, List.set_cons_zero, List.set_cons_succ]
    refine' wpAnyH_take (i := 9) ?hih61 ?hsh61 ?hfh61 ?hrh61 ?hQh61 ?hyh61 ?hSh61 ?resth61
    case hih61 =>
      simp only [List.getElem?_toArray, List.getElem?_cons_succ, List.getElem?_cons_zero]
      all_goals rfl
    case hsh61 => kernel_rfl
    case hfh61 => kernel_rfl
    case hrh61 => kernel_rfl
    case hQh61 => exact fun c x u h => hQ0 c x _ _ u h
    case hSh61 => assumption
    case hyh61 =>
      refine Or.inl ⟨by rfl, ?_⟩
      intro w hSw
      try dsimp only at hSw
      go_simp
      all_goals with_reducible rfl
    try simp only [Act.put, List.setIfInBounds_toArray, List.set_cons_zero, List.set_cons_succ]
    refine wpAnyH_ready (rs := [10]) (by kernel_rfl) (by simp) ?_
    refine AllReadyH.cons rfl (fun K hK => ?_) AllReadyH.nil
    go_simp
    try go_wp2_with fail
    refine hK.out _ _ ?_ (fun hHeld => ?_)
    · exact ⟨(((kg2.alloc (.cells #[.int .i64 g.id, .slice g.A g.n g.c] 30)).grown hg3 (fun e => HR.out 3 (by decide) e.symm)).far hne _).cell 0, (((kg2.alloc (.cells #[.int .i64 g.id, .slice g.A g.n g.c] 30)).grown hg3 (fun e => HR.out 3 (by decide) e.symm)).far hne _).cell 1⟩
    clear hK K
    try simp only [Act.put, List.setIfInBounds_toArray, List.set_cons_zero, List.set_cons_succ]
    refine wpAnyH_done (by kernel_rfl) ?_ _
    go_wp2
    go_meet
    case rel => exact ⟨_, g3, hB3.push hbase (by decide) hown4 hg3 hat3 (hp.alloc _) hpr hpz⟩
  refine AllReadyH.cons rfl (fun K hK => ?_) ?_
  · go_simp
    try go_wp2_with fail
    refine hK.out _ _ ?_ (fun hHeld => ?_)
    · exact ⟨(kg2.alloc _).cell 0, (kg2.alloc _).cell 1⟩
    clear hK K
    try simp only [Act.put, List.setIfInBounds_toArray, List.set_cons_zero, List.set_cons_succ]
    refine wpAnyH_ready (rs := [4]) (by kernel_rfl) (by simp) ?_
    refine AllReadyH.cons rfl (fun K hK => ?_) AllReadyH.nil
    go_simp
    try go_wp2_with fail
    refine hK.out _ _ ?_ (fun hHeld => ?_)
    · exact hHeld
    clear hK K
    try simp only [Act.put, List.setIfInBounds_toArray, List.set_cons_zero, List.set_cons_succ]
    refine wpAnyH_ready (rs := [7]) (by kernel_rfl) (by simp) ?_
    refine AllReadyH.cons rfl (fun K hK => ?_) AllReadyH.nil
    refine step_append_g _ rfl (.tmp 104) (.tmp 106) _ rfl base 30 (.agg #[.int .i64 0, .slice none 0 0]) 2 32 underP infoP rfl (by omega) (M.r 3).v (M.r 3).n (pv (M.r 3).qs) (M.r 3).g rfl hown3 (some ⟨w2.heap.size, 0, none⟩) 1 1 (pv [g]) rfl (rd2_one w2 g 30 rfl) (by decide) (pv_one _) (by omega) (by omega) hz3 ?_
    intro v3 w3 g3 hown4 hg3 hat3
    obtain ⟨A5, k5, hv5, _, _⟩ := hown4.rd
    rw [hv5] at hown4
    rw [hv5]
    have hG := hB3.grown (i := 3) (by decide) hg3
    have s0 : w3.cell? ⟨W.heap.size, 17, none⟩ = some (M.r 3).v := hG.1.cell 17
    have f0 := hG.1.frozen 17
    try go_wp2_with fail
    refine hK.out _ _ ?_ (fun hHeld => ?_)
    · exact ⟨((kg2.alloc (.cells #[.int .i64 g.id, .slice g.A g.n g.c] 30)).grown hg3 (fun e => HR.out 3 (by decide) e.symm)).cell 0, ((kg2.alloc (.cells #[.int .i64 g.id, .slice g.A g.n g.c] 30)).grown hg3 (fun e => HR.out 3 (by decide) e.symm)).cell 1⟩
    clear hK K
    try simp only [Act.put, List.setIfInBounds_toArray, List.set_cons_zero, List.set_cons_succ]
    refine' wpAnyH_take (i := 9) ?hih65 ?hsh65 ?hfh65 ?hrh65 ?hQh65 ?hyh65 ?hSh65 ?resth65
    case hih65 =>
      simp only [List.getElem?_toArray, List.getElem?_cons_succ, List.getElem?_cons_zero]
      all_goals rfl
    case hsh65 => kernel_rfl
    case hfh65 => kernel_rfl
    case hrh65 => kernel_rfl
    case hQh65 => exact fun c x u h => hQ0 c x _ _ u h
    case hSh65 => assumption
    case hyh65 =>
      refine Or.inl ⟨by rfl, ?_⟩
      intro w hSw
      try dsimp only at hSw
      go_simp
      all_goals with_reducible rfl
    try simp only [Act.put, List.setIfInBounds_toArray, List.set_cons_zero, List.set_cons_succ]
    refine wpAnyH_ready (rs := [10]) (by kernel_rfl) (by simp) ?_
    refine AllReadyH.cons rfl (fun K hK => ?_) AllReadyH.nil
    go_simp
    try go_wp2_with fail
    refine hK.out _ _ ?_ (fun hHeld => ?_)
    · exact ⟨(((kg2.alloc (.cells #[.int .i64 g.id, .slice g.A g.n g.c] 30)).grown hg3 (fun e => HR.out 3 (by decide) e.symm)).far hne _).cell 0, (((kg2.alloc (.cells #[.int .i64 g.id, .slice g.A g.n g.c] 30)).grown hg3 (fun e => HR.out 3 (by decide) e.symm)).far hne _).cell 1⟩
    clear hK K
    try simp only [Act.put, List.setIfInBounds_toArray, List.set_cons_zero, List.set_cons_succ]
    refine wpAnyH_done (by kernel_rfl) ?_ _
    go_wp2
    go_meet
    case rel => exact ⟨_, g3, hB3.push hbase (by decide) hown4 hg3 hat3 (hp.alloc _) hpr hpz⟩
  exact AllReadyH.nil
end Go.Proofs.Ytobljnbpokijdaa
