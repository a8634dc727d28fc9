/-
  The walk of the law ReplayOrders.
-/
import Derived.Test.YtajhfmioidmacaaRpi
namespace Go.Proofs.Ytajhfmioidmacaa
set_option linter.unusedVariables false
set_option linter.unusedSimpArgs false
open Go.RowKit

/-- Three boxes of messages. -/
def Box3 (w w' : World) (a b c : Msg) : Prop := Blk w' w.heap.size 26 #[.int .u16 a.s, .int .u32 a.i, .int .u32 a.q] ∧ Blk w' (w.heap.size + 1) 26 #[.int .u16 b.s, .int .u32 b.i, .int .u32 b.q] ∧ Blk w' (w.heap.size + 2) 26 #[.int .u16 c.s, .int .u32 c.i, .int .u32 c.q] ∧ Below w.heap.size w w'
theorem Box3.below {w w' w2 : World} {a b c : Msg} (h : Box3 w w' a b c) (hb : Below w'.heap.size w' w2) : Box3 w w2 a b c :=
  ⟨h.1.below hb h.1.lt, h.2.1.below hb h.2.1.lt, h.2.2.1.below hb h.2.2.1.lt, h.2.2.2.trans (hb.mono h.2.2.2.size)⟩
theorem Box3.drew {w w' : World} {a b c : Msg} (h : Box3 w w' a b c) : Box3 w w'.drew a b c := ⟨h.1.drew, h.2.1.drew, h.2.2.1.drew, h.2.2.2.drew⟩
theorem Box3.cells {w w' : World} {a b c : Msg} (h : Box3 w w' a b c) : w'.cell? ⟨w.heap.size, 0, none⟩ = some (.int .u16 a.s) ∧ w'.cell? ⟨w.heap.size, 1, none⟩ = some (.int .u32 a.i) ∧ w'.cell? ⟨w.heap.size, 2, none⟩ = some (.int .u32 a.q) ∧ w'.cell? ⟨w.heap.size + 1, 0, none⟩ = some (.int .u16 b.s) ∧ w'.cell? ⟨w.heap.size + 1, 1, none⟩ = some (.int .u32 b.i) ∧ w'.cell? ⟨w.heap.size + 1, 2, none⟩ = some (.int .u32 b.q) ∧ w'.cell? ⟨w.heap.size + 2, 0, none⟩ = some (.int .u16 c.s) ∧ w'.cell? ⟨w.heap.size + 2, 1, none⟩ = some (.int .u32 c.i) ∧ w'.cell? ⟨w.heap.size + 2, 2, none⟩ = some (.int .u32 c.q) ∧ Below w.heap.size w w' :=
  ⟨h.1.cell 0, h.1.cell 1, h.1.cell 2, h.2.1.cell 0, h.2.1.cell 1, h.2.1.cell 2, h.2.2.1.cell 0, h.2.2.1.cell 1, h.2.2.1.cell 2, h.2.2.2⟩
theorem order_cases (a b : Msg) : (b.i < a.i ∧ newer a b = true ∧ newer b a = false ∧ a.i ≠ b.i) ∨ (a.i < b.i ∧ newer a b = false ∧ newer b a = true ∧ a.i ≠ b.i) ∨ (a.i = b.i ∧ b.q < a.q ∧ newer a b = true ∧ newer b a = false ∧ a.q ≠ b.q) ∨ (a.i = b.i ∧ a.q < b.q ∧ newer a b = false ∧ newer b a = true ∧ a.q ≠ b.q) ∨ (a.i = b.i ∧ a.q = b.q ∧ newer a b = false ∧ newer b a = false) := by
  rcases newer_cases a b with ⟨h, e⟩ | ⟨h, h', e⟩ | ⟨h, h', e⟩ | ⟨h, h', e⟩ <;> rcases newer_cases b a with ⟨k, f⟩ | ⟨k, k', f⟩ | ⟨k, k', f⟩ | ⟨k, k', f⟩ <;> rw [e, f] <;> simp <;> omega
theorem newer_trans (a b c : Msg) (h : newer a b = true) (h' : newer b c = true) : newer a c = true := by
  rcases newer_cases a b with ⟨k, e⟩ | ⟨k, k', e⟩ | ⟨k, k', e⟩ | ⟨k, k', e⟩ <;> rw [e] at h <;> try cases h
  all_goals
    rcases newer_cases b c with ⟨j, f⟩ | ⟨j, j', f⟩ | ⟨j, j', f⟩ | ⟨j, j', f⟩ <;> rw [f] at h' <;> try cases h'
    all_goals
      rcases newer_cases a c with ⟨i, g⟩ | ⟨i, i', g⟩ | ⟨i, i', g⟩ | ⟨i, i', g⟩ <;> first | exact g | (exfalso; omega)
set_option maxHeartbeats 2000000 in
theorem orders_1 (a b c : Msg) (w : World) (h1 : a.i ≠ b.i) (hX : newer a b = true) (hV : newer b a = false) :
    Calls Try.prog 5 #[.agg #[.int .u16 a.s, .int .u32 a.i, .int .u32 a.q], .agg #[.int .u16 b.s, .int .u32 b.i, .int .u32 b.q], .agg #[.int .u16 c.s, .int .u32 c.i, .int .u32 c.q]] w fun e w' => e = .returned (.bool true) ∧ Below w.heap.size w w' := by
  have K0 : Box3 w (((w.alloc (.cells #[.int .u16 a.s, .int .u32 a.i, .int .u32 a.q] 26)).alloc (.cells #[.int .u16 b.s, .int .u32 b.i, .int .u32 b.q] 26)).alloc (.cells #[.int .u16 c.s, .int .u32 c.i, .int .u32 c.q] 26)) a b c := ⟨((Blk.new _ _ _).alloc _).alloc _, (blk_new2 (by simp)).alloc _, blk_new2 (by simp), (((Below.refl _ _).alloc (Nat.le_refl _) _).alloc (by simp) _).alloc (by simp; omega) _⟩
  have HT := newer_trans a b c
  rw [hX] at HT
  obtain ⟨Y, hY⟩ : ∃ Y, Y = newer b c := ⟨_, rfl⟩
  obtain ⟨Z, hZ⟩ : ∃ Z, Z = newer a c := ⟨_, rfl⟩
  rw [← hY, ← hZ] at HT
  have HY := hide hY
  have HZ := hide hZ
  have HX := hide hX
  have HV := hide hV
  clear hY hZ hX hV
  have hXYZ : True → Y = false ∨ (Y = true ∧ Z = true) := by
    intro hx
    cases Y
    · exact .inl rfl
    · exact .inr ⟨rfl, HT rfl rfl⟩
  clear HT
  obtain ⟨a0, a1, a2⟩ := a
  obtain ⟨b0, b1, b2⟩ := b
  obtain ⟨c0, c1, c2⟩ := c
  simp only at h1
  have h6 : (a1 == b1) = false := by rw [beq_eq_false_iff_ne]; exact h1
  clear h1
  have F0 := K0.cells
  have D0 := K0.drew.cells
  simp only at F0 D0
  go_enter Try.func5, Try.ntmps5
  go_wp2_with fail
  go_region_held3 (fun w' => w'.cell? ⟨w.heap.size, 0, none⟩ = some (.int .u16 a0) ∧ w'.cell? ⟨w.heap.size, 1, none⟩ = some (.int .u32 a1) ∧ w'.cell? ⟨w.heap.size, 2, none⟩ = some (.int .u32 a2) ∧ w'.cell? ⟨w.heap.size + 1, 0, none⟩ = some (.int .u16 b0) ∧ w'.cell? ⟨w.heap.size + 1, 1, none⟩ = some (.int .u32 b1) ∧ w'.cell? ⟨w.heap.size + 1, 2, none⟩ = some (.int .u32 b2) ∧ w'.cell? ⟨w.heap.size + 2, 0, none⟩ = some (.int .u16 c0) ∧ w'.cell? ⟨w.heap.size + 2, 1, none⟩ = some (.int .u32 c1) ∧ w'.cell? ⟨w.heap.size + 2, 2, none⟩ = some (.int .u32 c2) ∧ Below w.heap.size w w') (first | assumption | exact F0 | exact D0 | exact F1 | exact F2 | exact F3) (first
    | (go_at_call 14; (with_reducible refine (newer_any ⟨a0, a1, a2⟩ ⟨b0, b1, b2⟩ _).mono ?_); rintro e w1 ⟨rfl, hb1⟩; rw [HX.out]; have K1 := K0.drew.below hb1; have F1 := K1.cells)
    | (go_at_call 14; (with_reducible refine (newer_any ⟨b0, b1, b2⟩ ⟨c0, c1, c2⟩ _).mono ?_); rintro e w2 ⟨rfl, hb2⟩; rw [← HY.out]; have K2 := K1.below hb2; have F2 := K2.cells)
    | (go_at_call 14; (with_reducible refine (newer_any ⟨a0, a1, a2⟩ ⟨c0, c1, c2⟩ _).mono ?_); rintro e w3 ⟨rfl, hb3⟩; rw [← HZ.out]; have K3 := K2.below hb3; have F3 := K3.cells))
  have D3 := K3.drew.cells
  simp only at D3
  clear F0 D0 F1 F2 F3 K0 K1 K2 hb1 hb2 hb3 w1 w2
  go_wp2_with fail
  refine wp_region_held_drew (S := fun w' => w'.cell? ⟨w.heap.size, 0, none⟩ = some (.int .u16 a0) ∧ w'.cell? ⟨w.heap.size, 1, none⟩ = some (.int .u32 a1) ∧ w'.cell? ⟨w.heap.size, 2, none⟩ = some (.int .u32 a2) ∧ w'.cell? ⟨w.heap.size + 1, 0, none⟩ = some (.int .u16 b0) ∧ w'.cell? ⟨w.heap.size + 1, 1, none⟩ = some (.int .u32 b1) ∧ w'.cell? ⟨w.heap.size + 1, 2, none⟩ = some (.int .u32 b2) ∧ w'.cell? ⟨w.heap.size + 2, 0, none⟩ = some (.int .u16 c0) ∧ w'.cell? ⟨w.heap.size + 2, 1, none⟩ = some (.int .u32 c1) ∧ w'.cell? ⟨w.heap.size + 2, 2, none⟩ = some (.int .u32 c2) ∧ Below w.heap.size w w') (by kernel_rfl) ?_ (fun hHeld => ?_)
  · exact D3
  refine' wpAnyH_take (i := 0) ?hi0 ?hs0 ?hf0 ?hr0 ?hQ0 ?hy0 ?hS0 ?rest0
  case hi0 =>
    simp only [List.getElem?_toArray, List.getElem?_cons_succ, List.getElem?_cons_zero]
    all_goals rfl
  case hs0 => kernel_rfl
  case hf0 => kernel_rfl
  case hr0 => kernel_rfl
  case hQ0 => exact fun _ _ _ h => h
  case hS0 => assumption
  case hy0 =>
    refine Or.inl ⟨by rfl, ?_⟩
    intro w hSw
    try dsimp only at hSw
    go_simp
    all_goals with_reducible rfl
  try simp only [Act.put, List.setIfInBounds_toArray, List.set_cons_zero, List.set_cons_succ]
  refine' wpAnyH_take (i := 1) ?hi1 ?hs1 ?hf1 ?hr1 ?hQ1 ?hy1 ?hS1 ?rest1
  case hi1 =>
    simp only [List.getElem?_toArray, List.getElem?_cons_succ, List.getElem?_cons_zero]
    all_goals rfl
  case hs1 => kernel_rfl
  case hf1 => kernel_rfl
  case hr1 => kernel_rfl
  case hQ1 => exact fun _ _ _ h => h
  case hS1 => assumption
  case hy1 =>
    refine Or.inl ⟨by rfl, ?_⟩
    intro w hSw
    try dsimp only at hSw
    go_simp
    all_goals with_reducible rfl
  try simp only [Act.put, List.setIfInBounds_toArray, List.set_cons_zero, List.set_cons_succ]
  refine' wpAnyH_take (i := 2) ?hi2 ?hs2 ?hf2 ?hr2 ?hQ2 ?hy2 ?hS2 ?rest2
  case hi2 =>
    simp only [List.getElem?_toArray, List.getElem?_cons_succ, List.getElem?_cons_zero]
    all_goals rfl
  case hs2 => kernel_rfl
  case hf2 => kernel_rfl
  case hr2 => kernel_rfl
  case hQ2 => exact fun _ _ _ h => h
  case hS2 => assumption
  case hy2 =>
    refine Or.inl ⟨by rfl, ?_⟩
    intro w hSw
    try dsimp only at hSw
    go_simp
    all_goals with_reducible rfl
  try simp only [Act.put, List.setIfInBounds_toArray, List.set_cons_zero, List.set_cons_succ]
  refine wpAnyH_ready (rs := [3]) (by kernel_rfl) (by simp) ?_
  refine AllReadyH.cons rfl (fun K hK => ?_) AllReadyH.nil
  go_simp
  refine (rnewer_any ⟨a0, a1, a2⟩ ⟨b0, b1, b2⟩ _).mono ?_
  rintro e w4 ⟨rfl, hb4⟩
  rw [HX.out]
  have K4 := K3.drew.below hb4
  try go_wp2_with fail
  refine hK.out _ _ ?_ (fun hHeld => ?_)
  · exact K4.cells
  clear hK K
  try simp only [Act.put, List.setIfInBounds_toArray, List.set_cons_zero, List.set_cons_succ]
  refine' wpAnyH_take (i := 4) ?hi4 ?hs4 ?hf4 ?hr4 ?hQ4 ?hy4 ?hS4 ?rest4
  case hi4 =>
    simp only [List.getElem?_toArray, List.getElem?_cons_succ, List.getElem?_cons_zero]
    all_goals rfl
  case hs4 => kernel_rfl
  case hf4 => kernel_rfl
  case hr4 => kernel_rfl
  case hQ4 => exact fun _ _ _ h => h
  case hS4 => assumption
  case hy4 =>
    refine Or.inl ⟨by rfl, ?_⟩
    intro w hSw
    try dsimp only at hSw
    go_simp
    all_goals with_reducible rfl
  try simp only [Act.put, List.setIfInBounds_toArray, List.set_cons_zero, List.set_cons_succ]
  refine' wpAnyH_take (i := 5) ?hi5 ?hs5 ?hf5 ?hr5 ?hQ5 ?hy5 ?hS5 ?rest5
  case hi5 =>
    simp only [List.getElem?_toArray, List.getElem?_cons_succ, List.getElem?_cons_zero]
    all_goals rfl
  case hs5 => kernel_rfl
  case hf5 => kernel_rfl
  case hr5 => kernel_rfl
  case hQ5 => exact fun _ _ _ h => h
  case hS5 => assumption
  case hy5 =>
    refine Or.inl ⟨by rfl, ?_⟩
    intro w hSw
    try dsimp only at hSw
    go_simp
    all_goals with_reducible rfl
  try simp only [Act.put, List.setIfInBounds_toArray, List.set_cons_zero, List.set_cons_succ]
  refine' wpAnyH_take (i := 6) ?hi6 ?hs6 ?hf6 ?hr6 ?hQ6 ?hy6 ?hS6 ?rest6
  case hi6 =>
    simp only [List.getElem?_toArray, List.getElem?_cons_succ, List.getElem?_cons_zero]
    all_goals rfl
  case hs6 => kernel_rfl
  case hf6 => kernel_rfl
  case hr6 => kernel_rfl
  case hQ6 => exact fun _ _ _ h => h
  case hS6 => assumption
  case hy6 =>
    refine Or.inl ⟨by rfl, ?_⟩
    intro w hSw
    try dsimp only at hSw
    go_simp
    all_goals with_reducible rfl
  try simp only [Act.put, List.setIfInBounds_toArray, List.set_cons_zero, List.set_cons_succ]
  refine' wpAnyH_take (i := 7) ?hi7 ?hs7 ?hf7 ?hr7 ?hQ7 ?hy7 ?hS7 ?rest7
  case hi7 =>
    simp only [List.getElem?_toArray, List.getElem?_cons_succ, List.getElem?_cons_zero]
    all_goals rfl
  case hs7 => kernel_rfl
  case hf7 => kernel_rfl
  case hr7 => kernel_rfl
  case hQ7 => exact fun _ _ _ h => h
  case hS7 => assumption
  case hy7 =>
    refine Or.inl ⟨by rfl, ?_⟩
    intro w hSw
    try dsimp only at hSw
    go_simp
    all_goals with_reducible rfl
  try simp only [Act.put, List.setIfInBounds_toArray, List.set_cons_zero, List.set_cons_succ]
  refine' wpAnyH_take (i := 8) ?hi8 ?hs8 ?hf8 ?hr8 ?hQ8 ?hy8 ?hS8 ?rest8
  case hi8 =>
    simp only [List.getElem?_toArray, List.getElem?_cons_succ, List.getElem?_cons_zero]
    all_goals rfl
  case hs8 => kernel_rfl
  case hf8 => kernel_rfl
  case hr8 => kernel_rfl
  case hQ8 => exact fun _ _ _ h => h
  case hS8 => assumption
  case hy8 =>
    refine Or.inl ⟨by rfl, ?_⟩
    intro w hSw
    try dsimp only at hSw
    go_simp
    all_goals with_reducible rfl
  try simp only [Act.put, List.setIfInBounds_toArray, List.set_cons_zero, List.set_cons_succ]
  refine' wpAnyH_take (i := 9) ?hi9 ?hs9 ?hf9 ?hr9 ?hQ9 ?hy9 ?hS9 ?rest9
  case hi9 =>
    simp only [List.getElem?_toArray, List.getElem?_cons_succ, List.getElem?_cons_zero]
    all_goals rfl
  case hs9 => kernel_rfl
  case hf9 => kernel_rfl
  case hr9 => kernel_rfl
  case hQ9 => exact fun _ _ _ h => h
  case hS9 => assumption
  case hy9 =>
    refine Or.inl ⟨by rfl, ?_⟩
    intro w hSw
    try dsimp only at hSw
    go_simp
    all_goals with_reducible rfl
  try simp only [Act.put, List.setIfInBounds_toArray, List.set_cons_zero, List.set_cons_succ]
  refine wpAnyH_ready (rs := [10]) (by kernel_rfl) (by simp) ?_
  refine AllReadyH.cons rfl (fun K hK => ?_) AllReadyH.nil
  go_simp
  refine (newer_any ⟨b0, b1, b2⟩ ⟨a0, a1, a2⟩ _).mono ?_
  rintro e w5 ⟨rfl, hb5⟩
  rw [HV.out]
  have K5 := K4.below hb5
  try go_wp2_with fail
  refine hK.out _ _ ?_ (fun hHeld => ?_)
  · exact K5.cells
  clear hK K
  try simp only [Act.put, List.setIfInBounds_toArray, List.set_cons_zero, List.set_cons_succ]
  refine' wpAnyH_take (i := 11) ?hi11 ?hs11 ?hf11 ?hr11 ?hQ11 ?hy11 ?hS11 ?rest11
  case hi11 =>
    simp only [List.getElem?_toArray, List.getElem?_cons_succ, List.getElem?_cons_zero]
    all_goals rfl
  case hs11 => kernel_rfl
  case hf11 => kernel_rfl
  case hr11 => kernel_rfl
  case hQ11 => exact fun _ _ _ h => h
  case hS11 => assumption
  case hy11 =>
    refine Or.inl ⟨by rfl, ?_⟩
    intro w hSw
    try dsimp only at hSw
    go_simp
    all_goals with_reducible rfl
  try simp only [Act.put, List.setIfInBounds_toArray, List.set_cons_zero, List.set_cons_succ]
  refine' wpAnyH_take (i := 12) ?hi12 ?hs12 ?hf12 ?hr12 ?hQ12 ?hy12 ?hS12 ?rest12
  case hi12 =>
    simp only [List.getElem?_toArray, List.getElem?_cons_succ, List.getElem?_cons_zero]
    all_goals rfl
  case hs12 => kernel_rfl
  case hf12 => kernel_rfl
  case hr12 => kernel_rfl
  case hQ12 => exact fun _ _ _ h => h
  case hS12 => assumption
  case hy12 =>
    refine Or.inl ⟨by rfl, ?_⟩
    intro w hSw
    try dsimp only at hSw
    go_simp
    all_goals with_reducible rfl
  try simp only [Act.put, List.setIfInBounds_toArray, List.set_cons_zero, List.set_cons_succ]
  refine' wpAnyH_take (i := 13) ?hi13 ?hs13 ?hf13 ?hr13 ?hQ13 ?hy13 ?hS13 ?rest13
  case hi13 =>
    simp only [List.getElem?_toArray, List.getElem?_cons_succ, List.getElem?_cons_zero]
    all_goals rfl
  case hs13 => kernel_rfl
  case hf13 => kernel_rfl
  case hr13 => kernel_rfl
  case hQ13 => exact fun _ _ _ h => h
  case hS13 => assumption
  case hy13 =>
    refine Or.inl ⟨by rfl, ?_⟩
    intro w hSw
    try dsimp only at hSw
    go_simp
    all_goals with_reducible rfl
  try simp only [Act.put, List.setIfInBounds_toArray, List.set_cons_zero, List.set_cons_succ]
  refine' wpAnyH_take (i := 14) ?hi14 ?hs14 ?hf14 ?hr14 ?hQ14 ?hy14 ?hS14 ?rest14
  case hi14 =>
    simp only [List.getElem?_toArray, List.getElem?_cons_succ, List.getElem?_cons_zero]
    all_goals rfl
  case hs14 => kernel_rfl
  case hf14 => kernel_rfl
  case hr14 => kernel_rfl
  case hQ14 => exact fun _ _ _ h => h
  case hS14 => assumption
  case hy14 =>
    refine Or.inl ⟨by rfl, ?_⟩
    intro w hSw
    try dsimp only at hSw
    go_simp
    all_goals with_reducible rfl
  try simp only [Act.put, List.setIfInBounds_toArray, List.set_cons_zero, List.set_cons_succ]
  refine' wpAnyH_take (i := 15) ?hi15 ?hs15 ?hf15 ?hr15 ?hQ15 ?hy15 ?hS15 ?rest15
  case hi15 =>
    simp only [List.getElem?_toArray, List.getElem?_cons_succ, List.getElem?_cons_zero]
    all_goals rfl
  case hs15 => kernel_rfl
  case hf15 => kernel_rfl
  case hr15 => kernel_rfl
  case hQ15 => exact fun _ _ _ h => h
  case hS15 => assumption
  case hy15 =>
    refine Or.inl ⟨by rfl, ?_⟩
    intro w hSw
    try dsimp only at hSw
    go_simp
    all_goals with_reducible rfl
  try simp only [Act.put, List.setIfInBounds_toArray, List.set_cons_zero, List.set_cons_succ]
  refine' wpAnyH_take (i := 16) ?hi16 ?hs16 ?hf16 ?hr16 ?hQ16 ?hy16 ?hS16 ?rest16
  case hi16 =>
    simp only [List.getElem?_toArray, List.getElem?_cons_succ, List.getElem?_cons_zero]
    all_goals rfl
  case hs16 => kernel_rfl
  case hf16 => kernel_rfl
  case hr16 => kernel_rfl
  case hQ16 => exact fun _ _ _ h => h
  case hS16 => assumption
  case hy16 =>
    refine Or.inl ⟨by rfl, ?_⟩
    intro w hSw
    try dsimp only at hSw
    go_simp
    all_goals with_reducible rfl
  try simp only [Act.put, List.setIfInBounds_toArray, List.set_cons_zero, List.set_cons_succ]
  refine' wpAnyH_take (i := 17) ?hi17 ?hs17 ?hf17 ?hr17 ?hQ17 ?hy17 ?hS17 ?rest17
  case hi17 =>
    simp only [List.getElem?_toArray, List.getElem?_cons_succ, List.getElem?_cons_zero]
    all_goals rfl
  case hs17 => kernel_rfl
  case hf17 => kernel_rfl
  case hr17 => kernel_rfl
  case hQ17 => exact fun _ _ _ h => h
  case hS17 => assumption
  case hy17 =>
    refine Or.inl ⟨by rfl, ?_⟩
    intro w hSw
    try dsimp only at hSw
    go_simp
    all_goals with_reducible rfl
  try simp only [Act.put, List.setIfInBounds_toArray, List.set_cons_zero, List.set_cons_succ]
  refine' wpAnyH_take (i := 18) ?hi18 ?hs18 ?hf18 ?hr18 ?hQ18 ?hy18 ?hS18 ?rest18
  case hi18 =>
    simp only [List.getElem?_toArray, List.getElem?_cons_succ, List.getElem?_cons_zero]
    all_goals rfl
  case hs18 => kernel_rfl
  case hf18 => kernel_rfl
  case hr18 => kernel_rfl
  case hQ18 => exact fun _ _ _ h => h
  case hS18 => assumption
  case hy18 =>
    refine Or.inl ⟨by rfl, ?_⟩
    intro w hSw
    try dsimp only at hSw
    go_simp
    all_goals with_reducible rfl
  try simp only [Act.put, List.setIfInBounds_toArray, List.set_cons_zero, List.set_cons_succ]
  refine' wpAnyH_take (i := 19) ?hi19 ?hs19 ?hf19 ?hr19 ?hQ19 ?hy19 ?hS19 ?rest19
  case hi19 =>
    simp only [List.getElem?_toArray, List.getElem?_cons_succ, List.getElem?_cons_zero]
    all_goals rfl
  case hs19 => kernel_rfl
  case hf19 => kernel_rfl
  case hr19 => kernel_rfl
  case hQ19 => exact fun _ _ _ h => h
  case hS19 => assumption
  case hy19 =>
    refine Or.inl ⟨by rfl, ?_⟩
    intro w hSw
    try dsimp only at hSw
    go_simp
    all_goals with_reducible rfl
  try simp only [Act.put, List.setIfInBounds_toArray, List.set_cons_zero, List.set_cons_succ]
  refine' wpAnyH_take (i := 20) ?hi20 ?hs20 ?hf20 ?hr20 ?hQ20 ?hy20 ?hS20 ?rest20
  case hi20 =>
    simp only [List.getElem?_toArray, List.getElem?_cons_succ, List.getElem?_cons_zero]
    all_goals rfl
  case hs20 => kernel_rfl
  case hf20 => kernel_rfl
  case hr20 => kernel_rfl
  case hQ20 => exact fun _ _ _ h => h
  case hS20 => assumption
  case hy20 => exact Or.inr ⟨by rfl, rfl⟩
  try simp only [Act.put, List.setIfInBounds_toArray, List.set_cons_zero, List.set_cons_succ]
  refine' wpAnyH_take (i := 21) ?hi21 ?hs21 ?hf21 ?hr21 ?hQ21 ?hy21 ?hS21 ?rest21
  case hi21 =>
    simp only [List.getElem?_toArray, List.getElem?_cons_succ, List.getElem?_cons_zero]
    all_goals rfl
  case hs21 => kernel_rfl
  case hf21 => kernel_rfl
  case hr21 => kernel_rfl
  case hQ21 => exact fun _ _ _ h => h
  case hS21 => assumption
  case hy21 => exact Or.inr ⟨by rfl, rfl⟩
  try simp only [Act.put, List.setIfInBounds_toArray, List.set_cons_zero, List.set_cons_succ]
  refine' wpAnyH_take (i := 22) ?hi22 ?hs22 ?hf22 ?hr22 ?hQ22 ?hy22 ?hS22 ?rest22
  case hi22 =>
    simp only [List.getElem?_toArray, List.getElem?_cons_succ, List.getElem?_cons_zero]
    all_goals rfl
  case hs22 => kernel_rfl
  case hf22 => kernel_rfl
  case hr22 => kernel_rfl
  case hQ22 => exact fun _ _ _ h => h
  case hS22 => assumption
  case hy22 => exact Or.inr ⟨by rfl, rfl⟩
  try simp only [Act.put, List.setIfInBounds_toArray, List.set_cons_zero, List.set_cons_succ]
  refine' wpAnyH_take (i := 23) ?hi23 ?hs23 ?hf23 ?hr23 ?hQ23 ?hy23 ?hS23 ?rest23
  case hi23 =>
    simp only [List.getElem?_toArray, List.getElem?_cons_succ, List.getElem?_cons_zero]
    all_goals rfl
  case hs23 => kernel_rfl
  case hf23 => kernel_rfl
  case hr23 => kernel_rfl
  case hQ23 => exact fun _ _ _ h => h
  case hS23 => assumption
  case hy23 => exact Or.inr ⟨by rfl, rfl⟩
  try simp only [Act.put, List.setIfInBounds_toArray, List.set_cons_zero, List.set_cons_succ]
  refine' wpAnyH_take (i := 24) ?hi24 ?hs24 ?hf24 ?hr24 ?hQ24 ?hy24 ?hS24 ?rest24
  case hi24 =>
    simp only [List.getElem?_toArray, List.getElem?_cons_succ, List.getElem?_cons_zero]
    all_goals rfl
  case hs24 => kernel_rfl
  case hf24 => kernel_rfl
  case hr24 => kernel_rfl
  case hQ24 => exact fun _ _ _ h => h
  case hS24 => assumption
  case hy24 => exact Or.inr ⟨by rfl, rfl⟩
  try simp only [Act.put, List.setIfInBounds_toArray, List.set_cons_zero, List.set_cons_succ]
  refine' wpAnyH_take (i := 25) ?hi25 ?hs25 ?hf25 ?hr25 ?hQ25 ?hy25 ?hS25 ?rest25
  case hi25 =>
    simp only [List.getElem?_toArray, List.getElem?_cons_succ, List.getElem?_cons_zero]
    all_goals rfl
  case hs25 => kernel_rfl
  case hf25 => kernel_rfl
  case hr25 => kernel_rfl
  case hQ25 => exact fun _ _ _ h => h
  case hS25 => assumption
  case hy25 =>
    refine Or.inl ⟨by rfl, ?_⟩
    intro w hSw
    try dsimp only at hSw
    go_simp
    all_goals with_reducible rfl
  try simp only [Act.put, List.setIfInBounds_toArray, List.set_cons_zero, List.set_cons_succ]
  refine' wpAnyH_take (i := 26) ?hi26 ?hs26 ?hf26 ?hr26 ?hQ26 ?hy26 ?hS26 ?rest26
  case hi26 =>
    simp only [List.getElem?_toArray, List.getElem?_cons_succ, List.getElem?_cons_zero]
    all_goals rfl
  case hs26 => kernel_rfl
  case hf26 => kernel_rfl
  case hr26 => kernel_rfl
  case hQ26 => exact fun _ _ _ h => h
  case hS26 => assumption
  case hy26 =>
    refine Or.inl ⟨by rfl, ?_⟩
    intro w hSw
    try dsimp only at hSw
    go_simp
    all_goals with_reducible rfl
  try simp only [Act.put, List.setIfInBounds_toArray, List.set_cons_zero, List.set_cons_succ]
  refine' wpAnyH_take (i := 27) ?hi27 ?hs27 ?hf27 ?hr27 ?hQ27 ?hy27 ?hS27 ?rest27
  case hi27 =>
    simp only [List.getElem?_toArray, List.getElem?_cons_succ, List.getElem?_cons_zero]
    all_goals rfl
  case hs27 => kernel_rfl
  case hf27 => kernel_rfl
  case hr27 => kernel_rfl
  case hQ27 => exact fun _ _ _ h => h
  case hS27 => assumption
  case hy27 =>
    refine Or.inl ⟨by rfl, ?_⟩
    intro w hSw
    try dsimp only at hSw
    go_simp
    all_goals with_reducible rfl
  try simp only [Act.put, List.setIfInBounds_toArray, List.set_cons_zero, List.set_cons_succ]
  refine' wpAnyH_take (i := 28) ?hi28 ?hs28 ?hf28 ?hr28 ?hQ28 ?hy28 ?hS28 ?rest28
  case hi28 =>
    simp only [List.getElem?_toArray, List.getElem?_cons_succ, List.getElem?_cons_zero]
    all_goals rfl
  case hs28 => kernel_rfl
  case hf28 => kernel_rfl
  case hr28 => kernel_rfl
  case hQ28 => exact fun _ _ _ h => h
  case hS28 => assumption
  case hy28 => exact Or.inr ⟨by rfl, rfl⟩
  try simp only [Act.put, List.setIfInBounds_toArray, List.set_cons_zero, List.set_cons_succ]
  refine' wpAnyH_take (i := 29) ?hi29 ?hs29 ?hf29 ?hr29 ?hQ29 ?hy29 ?hS29 ?rest29
  case hi29 =>
    simp only [List.getElem?_toArray, List.getElem?_cons_succ, List.getElem?_cons_zero]
    all_goals rfl
  case hs29 => kernel_rfl
  case hf29 => kernel_rfl
  case hr29 => kernel_rfl
  case hQ29 => exact fun _ _ _ h => h
  case hS29 => assumption
  case hy29 => exact Or.inr ⟨by rfl, rfl⟩
  try simp only [Act.put, List.setIfInBounds_toArray, List.set_cons_zero, List.set_cons_succ]
  refine' wpAnyH_take (i := 30) ?hi30 ?hs30 ?hf30 ?hr30 ?hQ30 ?hy30 ?hS30 ?rest30
  case hi30 =>
    simp only [List.getElem?_toArray, List.getElem?_cons_succ, List.getElem?_cons_zero]
    all_goals rfl
  case hs30 => kernel_rfl
  case hf30 => kernel_rfl
  case hr30 => kernel_rfl
  case hQ30 => exact fun _ _ _ h => h
  case hS30 => assumption
  case hy30 => exact Or.inr ⟨by rfl, rfl⟩
  try simp only [Act.put, List.setIfInBounds_toArray, List.set_cons_zero, List.set_cons_succ]
  refine' wpAnyH_take (i := 31) ?hi31 ?hs31 ?hf31 ?hr31 ?hQ31 ?hy31 ?hS31 ?rest31
  case hi31 =>
    simp only [List.getElem?_toArray, List.getElem?_cons_succ, List.getElem?_cons_zero]
    all_goals rfl
  case hs31 => kernel_rfl
  case hf31 => kernel_rfl
  case hr31 => kernel_rfl
  case hQ31 => exact fun _ _ _ h => h
  case hS31 => assumption
  case hy31 =>
    refine Or.inl ⟨by rfl, ?_⟩
    intro w hSw
    try dsimp only at hSw
    go_simp
    all_goals with_reducible rfl
  try simp only [Act.put, List.setIfInBounds_toArray, List.set_cons_zero, List.set_cons_succ]
  refine' wpAnyH_take (i := 32) ?hi32 ?hs32 ?hf32 ?hr32 ?hQ32 ?hy32 ?hS32 ?rest32
  case hi32 =>
    simp only [List.getElem?_toArray, List.getElem?_cons_succ, List.getElem?_cons_zero]
    all_goals rfl
  case hs32 => kernel_rfl
  case hf32 => kernel_rfl
  case hr32 => kernel_rfl
  case hQ32 => exact fun _ _ _ h => h
  case hS32 => assumption
  case hy32 =>
    refine Or.inl ⟨by rfl, ?_⟩
    intro w hSw
    try dsimp only at hSw
    go_simp
    all_goals with_reducible rfl
  try simp only [Act.put, List.setIfInBounds_toArray, List.set_cons_zero, List.set_cons_succ]
  refine' wpAnyH_take (i := 33) ?hi33 ?hs33 ?hf33 ?hr33 ?hQ33 ?hy33 ?hS33 ?rest33
  case hi33 =>
    simp only [List.getElem?_toArray, List.getElem?_cons_succ, List.getElem?_cons_zero]
    all_goals rfl
  case hs33 => kernel_rfl
  case hf33 => kernel_rfl
  case hr33 => kernel_rfl
  case hQ33 => exact fun _ _ _ h => h
  case hS33 => assumption
  case hy33 =>
    refine Or.inl ⟨by rfl, ?_⟩
    intro w hSw
    try dsimp only at hSw
    go_simp
    all_goals with_reducible rfl
  try simp only [Act.put, List.setIfInBounds_toArray, List.set_cons_zero, List.set_cons_succ]
  refine wpAnyH_done (by kernel_rfl) ?_ _
  go_wp2_with fail
  refine (lives_any _).mono ?_
  rintro e w6 ⟨rfl, hb6⟩
  have K6 := K5.below hb6
  rcases hXYZ trivial with rfl | ⟨rfl, rfl⟩
  all_goals
    go_wp2
    go_ret
    exact ⟨rfl, K6.2.2.2⟩
set_option maxHeartbeats 2000000 in
theorem orders_2 (a b c : Msg) (w : World) (h1 : a.i ≠ b.i) (hX : newer a b = false) (hV : newer b a = true) :
    Calls Try.prog 5 #[.agg #[.int .u16 a.s, .int .u32 a.i, .int .u32 a.q], .agg #[.int .u16 b.s, .int .u32 b.i, .int .u32 b.q], .agg #[.int .u16 c.s, .int .u32 c.i, .int .u32 c.q]] w fun e w' => e = .returned (.bool true) ∧ Below w.heap.size w w' := by
  have K0 : Box3 w (((w.alloc (.cells #[.int .u16 a.s, .int .u32 a.i, .int .u32 a.q] 26)).alloc (.cells #[.int .u16 b.s, .int .u32 b.i, .int .u32 b.q] 26)).alloc (.cells #[.int .u16 c.s, .int .u32 c.i, .int .u32 c.q] 26)) a b c := ⟨((Blk.new _ _ _).alloc _).alloc _, (blk_new2 (by simp)).alloc _, blk_new2 (by simp), (((Below.refl _ _).alloc (Nat.le_refl _) _).alloc (by simp) _).alloc (by simp; omega) _⟩
  have HT := newer_trans a b c
  rw [hX] at HT
  obtain ⟨Y, hY⟩ : ∃ Y, Y = newer b c := ⟨_, rfl⟩
  obtain ⟨Z, hZ⟩ : ∃ Z, Z = newer a c := ⟨_, rfl⟩
  rw [← hY, ← hZ] at HT
  have HY := hide hY
  have HZ := hide hZ
  have HX := hide hX
  have HV := hide hV
  clear hY hZ hX hV
  have hXYZ : False → Y = false ∨ (Y = true ∧ Z = true) := by
    intro hx
    cases Y
    · exact .inl rfl
    · exact .inr ⟨rfl, HT hx.elim rfl⟩
  clear HT
  obtain ⟨a0, a1, a2⟩ := a
  obtain ⟨b0, b1, b2⟩ := b
  obtain ⟨c0, c1, c2⟩ := c
  simp only at h1
  have h6 : (a1 == b1) = false := by rw [beq_eq_false_iff_ne]; exact h1
  clear h1
  have F0 := K0.cells
  have D0 := K0.drew.cells
  simp only at F0 D0
  go_enter Try.func5, Try.ntmps5
  go_wp2_with fail
  go_region_held3 (fun w' => w'.cell? ⟨w.heap.size, 0, none⟩ = some (.int .u16 a0) ∧ w'.cell? ⟨w.heap.size, 1, none⟩ = some (.int .u32 a1) ∧ w'.cell? ⟨w.heap.size, 2, none⟩ = some (.int .u32 a2) ∧ w'.cell? ⟨w.heap.size + 1, 0, none⟩ = some (.int .u16 b0) ∧ w'.cell? ⟨w.heap.size + 1, 1, none⟩ = some (.int .u32 b1) ∧ w'.cell? ⟨w.heap.size + 1, 2, none⟩ = some (.int .u32 b2) ∧ w'.cell? ⟨w.heap.size + 2, 0, none⟩ = some (.int .u16 c0) ∧ w'.cell? ⟨w.heap.size + 2, 1, none⟩ = some (.int .u32 c1) ∧ w'.cell? ⟨w.heap.size + 2, 2, none⟩ = some (.int .u32 c2) ∧ Below w.heap.size w w') (first | assumption | exact F0 | exact D0 | exact F1 | exact F2 | exact F3) (first
    | (go_at_call 14; (with_reducible refine (newer_any ⟨a0, a1, a2⟩ ⟨b0, b1, b2⟩ _).mono ?_); rintro e w1 ⟨rfl, hb1⟩; rw [HX.out]; have K1 := K0.drew.below hb1; have F1 := K1.cells)
    | (go_at_call 14; (with_reducible refine (newer_any ⟨b0, b1, b2⟩ ⟨c0, c1, c2⟩ _).mono ?_); rintro e w2 ⟨rfl, hb2⟩; rw [← HY.out]; have K2 := K1.below hb2; have F2 := K2.cells)
    | (go_at_call 14; (with_reducible refine (newer_any ⟨a0, a1, a2⟩ ⟨c0, c1, c2⟩ _).mono ?_); rintro e w3 ⟨rfl, hb3⟩; rw [← HZ.out]; have K3 := K2.below hb3; have F3 := K3.cells))
  have D3 := K3.drew.cells
  simp only at D3
  clear F0 D0 F1 F2 F3 K0 K1 K2 hb1 hb2 hb3 w1 w2
  go_wp2_with fail
  refine wp_region_held_drew (S := fun w' => w'.cell? ⟨w.heap.size, 0, none⟩ = some (.int .u16 a0) ∧ w'.cell? ⟨w.heap.size, 1, none⟩ = some (.int .u32 a1) ∧ w'.cell? ⟨w.heap.size, 2, none⟩ = some (.int .u32 a2) ∧ w'.cell? ⟨w.heap.size + 1, 0, none⟩ = some (.int .u16 b0) ∧ w'.cell? ⟨w.heap.size + 1, 1, none⟩ = some (.int .u32 b1) ∧ w'.cell? ⟨w.heap.size + 1, 2, none⟩ = some (.int .u32 b2) ∧ w'.cell? ⟨w.heap.size + 2, 0, none⟩ = some (.int .u16 c0) ∧ w'.cell? ⟨w.heap.size + 2, 1, none⟩ = some (.int .u32 c1) ∧ w'.cell? ⟨w.heap.size + 2, 2, none⟩ = some (.int .u32 c2) ∧ Below w.heap.size w w') (by kernel_rfl) ?_ (fun hHeld => ?_)
  · exact D3
  refine' wpAnyH_take (i := 0) ?hi0 ?hs0 ?hf0 ?hr0 ?hQ0 ?hy0 ?hS0 ?rest0
  case hi0 =>
    simp only [List.getElem?_toArray, List.getElem?_cons_succ, List.getElem?_cons_zero]
    all_goals rfl
  case hs0 => kernel_rfl
  case hf0 => kernel_rfl
  case hr0 => kernel_rfl
  case hQ0 => exact fun _ _ _ h => h
  case hS0 => assumption
  case hy0 =>
    refine Or.inl ⟨by rfl, ?_⟩
    intro w hSw
    try dsimp only at hSw
    go_simp
    all_goals with_reducible rfl
  try simp only [Act.put, List.setIfInBounds_toArray, List.set_cons_zero, List.set_cons_succ]
  refine' wpAnyH_take (i := 1) ?hi1 ?hs1 ?hf1 ?hr1 ?hQ1 ?hy1 ?hS1 ?rest1
  case hi1 =>
    simp only [List.getElem?_toArray, List.getElem?_cons_succ, List.getElem?_cons_zero]
    all_goals rfl
  case hs1 => kernel_rfl
  case hf1 => kernel_rfl
  case hr1 => kernel_rfl
  case hQ1 => exact fun _ _ _ h => h
  case hS1 => assumption
  case hy1 =>
    refine Or.inl ⟨by rfl, ?_⟩
    intro w hSw
    try dsimp only at hSw
    go_simp
    all_goals with_reducible rfl
  try simp only [Act.put, List.setIfInBounds_toArray, List.set_cons_zero, List.set_cons_succ]
  refine' wpAnyH_take (i := 2) ?hi2 ?hs2 ?hf2 ?hr2 ?hQ2 ?hy2 ?hS2 ?rest2
  case hi2 =>
    simp only [List.getElem?_toArray, List.getElem?_cons_succ, List.getElem?_cons_zero]
    all_goals rfl
  case hs2 => kernel_rfl
  case hf2 => kernel_rfl
  case hr2 => kernel_rfl
  case hQ2 => exact fun _ _ _ h => h
  case hS2 => assumption
  case hy2 =>
    refine Or.inl ⟨by rfl, ?_⟩
    intro w hSw
    try dsimp only at hSw
    go_simp
    all_goals with_reducible rfl
  try simp only [Act.put, List.setIfInBounds_toArray, List.set_cons_zero, List.set_cons_succ]
  refine wpAnyH_ready (rs := [3]) (by kernel_rfl) (by simp) ?_
  refine AllReadyH.cons rfl (fun K hK => ?_) AllReadyH.nil
  go_simp
  refine (rnewer_any ⟨a0, a1, a2⟩ ⟨b0, b1, b2⟩ _).mono ?_
  rintro e w4 ⟨rfl, hb4⟩
  rw [HX.out]
  have K4 := K3.drew.below hb4
  try go_wp2_with fail
  refine hK.out _ _ ?_ (fun hHeld => ?_)
  · exact K4.cells
  clear hK K
  try simp only [Act.put, List.setIfInBounds_toArray, List.set_cons_zero, List.set_cons_succ]
  refine' wpAnyH_take (i := 4) ?hi4 ?hs4 ?hf4 ?hr4 ?hQ4 ?hy4 ?hS4 ?rest4
  case hi4 =>
    simp only [List.getElem?_toArray, List.getElem?_cons_succ, List.getElem?_cons_zero]
    all_goals rfl
  case hs4 => kernel_rfl
  case hf4 => kernel_rfl
  case hr4 => kernel_rfl
  case hQ4 => exact fun _ _ _ h => h
  case hS4 => assumption
  case hy4 =>
    refine Or.inl ⟨by rfl, ?_⟩
    intro w hSw
    try dsimp only at hSw
    go_simp
    all_goals with_reducible rfl
  try simp only [Act.put, List.setIfInBounds_toArray, List.set_cons_zero, List.set_cons_succ]
  refine' wpAnyH_take (i := 5) ?hi5 ?hs5 ?hf5 ?hr5 ?hQ5 ?hy5 ?hS5 ?rest5
  case hi5 =>
    simp only [List.getElem?_toArray, List.getElem?_cons_succ, List.getElem?_cons_zero]
    all_goals rfl
  case hs5 => kernel_rfl
  case hf5 => kernel_rfl
  case hr5 => kernel_rfl
  case hQ5 => exact fun _ _ _ h => h
  case hS5 => assumption
  case hy5 =>
    refine Or.inl ⟨by rfl, ?_⟩
    intro w hSw
    try dsimp only at hSw
    go_simp
    all_goals with_reducible rfl
  try simp only [Act.put, List.setIfInBounds_toArray, List.set_cons_zero, List.set_cons_succ]
  refine' wpAnyH_take (i := 6) ?hi6 ?hs6 ?hf6 ?hr6 ?hQ6 ?hy6 ?hS6 ?rest6
  case hi6 =>
    simp only [List.getElem?_toArray, List.getElem?_cons_succ, List.getElem?_cons_zero]
    all_goals rfl
  case hs6 => kernel_rfl
  case hf6 => kernel_rfl
  case hr6 => kernel_rfl
  case hQ6 => exact fun _ _ _ h => h
  case hS6 => assumption
  case hy6 =>
    refine Or.inl ⟨by rfl, ?_⟩
    intro w hSw
    try dsimp only at hSw
    go_simp
    all_goals with_reducible rfl
  try simp only [Act.put, List.setIfInBounds_toArray, List.set_cons_zero, List.set_cons_succ]
  refine' wpAnyH_take (i := 7) ?hi7 ?hs7 ?hf7 ?hr7 ?hQ7 ?hy7 ?hS7 ?rest7
  case hi7 =>
    simp only [List.getElem?_toArray, List.getElem?_cons_succ, List.getElem?_cons_zero]
    all_goals rfl
  case hs7 => kernel_rfl
  case hf7 => kernel_rfl
  case hr7 => kernel_rfl
  case hQ7 => exact fun _ _ _ h => h
  case hS7 => assumption
  case hy7 =>
    refine Or.inl ⟨by rfl, ?_⟩
    intro w hSw
    try dsimp only at hSw
    go_simp
    all_goals with_reducible rfl
  try simp only [Act.put, List.setIfInBounds_toArray, List.set_cons_zero, List.set_cons_succ]
  refine' wpAnyH_take (i := 8) ?hi8 ?hs8 ?hf8 ?hr8 ?hQ8 ?hy8 ?hS8 ?rest8
  case hi8 =>
    simp only [List.getElem?_toArray, List.getElem?_cons_succ, List.getElem?_cons_zero]
    all_goals rfl
  case hs8 => kernel_rfl
  case hf8 => kernel_rfl
  case hr8 => kernel_rfl
  case hQ8 => exact fun _ _ _ h => h
  case hS8 => assumption
  case hy8 => exact Or.inr ⟨by rfl, rfl⟩
  try simp only [Act.put, List.setIfInBounds_toArray, List.set_cons_zero, List.set_cons_succ]
  refine' wpAnyH_take (i := 9) ?hi9 ?hs9 ?hf9 ?hr9 ?hQ9 ?hy9 ?hS9 ?rest9
  case hi9 =>
    simp only [List.getElem?_toArray, List.getElem?_cons_succ, List.getElem?_cons_zero]
    all_goals rfl
  case hs9 => kernel_rfl
  case hf9 => kernel_rfl
  case hr9 => kernel_rfl
  case hQ9 => exact fun _ _ _ h => h
  case hS9 => assumption
  case hy9 => exact Or.inr ⟨by rfl, rfl⟩
  try simp only [Act.put, List.setIfInBounds_toArray, List.set_cons_zero, List.set_cons_succ]
  refine' wpAnyH_take (i := 10) ?hi10 ?hs10 ?hf10 ?hr10 ?hQ10 ?hy10 ?hS10 ?rest10
  case hi10 =>
    simp only [List.getElem?_toArray, List.getElem?_cons_succ, List.getElem?_cons_zero]
    all_goals rfl
  case hs10 => kernel_rfl
  case hf10 => kernel_rfl
  case hr10 => kernel_rfl
  case hQ10 => exact fun _ _ _ h => h
  case hS10 => assumption
  case hy10 => exact Or.inr ⟨by rfl, rfl⟩
  try simp only [Act.put, List.setIfInBounds_toArray, List.set_cons_zero, List.set_cons_succ]
  refine' wpAnyH_take (i := 11) ?hi11 ?hs11 ?hf11 ?hr11 ?hQ11 ?hy11 ?hS11 ?rest11
  case hi11 =>
    simp only [List.getElem?_toArray, List.getElem?_cons_succ, List.getElem?_cons_zero]
    all_goals rfl
  case hs11 => kernel_rfl
  case hf11 => kernel_rfl
  case hr11 => kernel_rfl
  case hQ11 => exact fun _ _ _ h => h
  case hS11 => assumption
  case hy11 =>
    refine Or.inl ⟨by rfl, ?_⟩
    intro w hSw
    try dsimp only at hSw
    go_simp
    all_goals with_reducible rfl
  try simp only [Act.put, List.setIfInBounds_toArray, List.set_cons_zero, List.set_cons_succ]
  refine' wpAnyH_take (i := 12) ?hi12 ?hs12 ?hf12 ?hr12 ?hQ12 ?hy12 ?hS12 ?rest12
  case hi12 =>
    simp only [List.getElem?_toArray, List.getElem?_cons_succ, List.getElem?_cons_zero]
    all_goals rfl
  case hs12 => kernel_rfl
  case hf12 => kernel_rfl
  case hr12 => kernel_rfl
  case hQ12 => exact fun _ _ _ h => h
  case hS12 => assumption
  case hy12 =>
    refine Or.inl ⟨by rfl, ?_⟩
    intro w hSw
    try dsimp only at hSw
    go_simp
    all_goals with_reducible rfl
  try simp only [Act.put, List.setIfInBounds_toArray, List.set_cons_zero, List.set_cons_succ]
  refine' wpAnyH_take (i := 13) ?hi13 ?hs13 ?hf13 ?hr13 ?hQ13 ?hy13 ?hS13 ?rest13
  case hi13 =>
    simp only [List.getElem?_toArray, List.getElem?_cons_succ, List.getElem?_cons_zero]
    all_goals rfl
  case hs13 => kernel_rfl
  case hf13 => kernel_rfl
  case hr13 => kernel_rfl
  case hQ13 => exact fun _ _ _ h => h
  case hS13 => assumption
  case hy13 =>
    refine Or.inl ⟨by rfl, ?_⟩
    intro w hSw
    try dsimp only at hSw
    go_simp
    all_goals with_reducible rfl
  try simp only [Act.put, List.setIfInBounds_toArray, List.set_cons_zero, List.set_cons_succ]
  refine' wpAnyH_take (i := 14) ?hi14 ?hs14 ?hf14 ?hr14 ?hQ14 ?hy14 ?hS14 ?rest14
  case hi14 =>
    simp only [List.getElem?_toArray, List.getElem?_cons_succ, List.getElem?_cons_zero]
    all_goals rfl
  case hs14 => kernel_rfl
  case hf14 => kernel_rfl
  case hr14 => kernel_rfl
  case hQ14 => exact fun _ _ _ h => h
  case hS14 => assumption
  case hy14 =>
    refine Or.inl ⟨by rfl, ?_⟩
    intro w hSw
    try dsimp only at hSw
    go_simp
    all_goals with_reducible rfl
  try simp only [Act.put, List.setIfInBounds_toArray, List.set_cons_zero, List.set_cons_succ]
  refine' wpAnyH_take (i := 15) ?hi15 ?hs15 ?hf15 ?hr15 ?hQ15 ?hy15 ?hS15 ?rest15
  case hi15 =>
    simp only [List.getElem?_toArray, List.getElem?_cons_succ, List.getElem?_cons_zero]
    all_goals rfl
  case hs15 => kernel_rfl
  case hf15 => kernel_rfl
  case hr15 => kernel_rfl
  case hQ15 => exact fun _ _ _ h => h
  case hS15 => assumption
  case hy15 =>
    refine Or.inl ⟨by rfl, ?_⟩
    intro w hSw
    try dsimp only at hSw
    go_simp
    all_goals with_reducible rfl
  try simp only [Act.put, List.setIfInBounds_toArray, List.set_cons_zero, List.set_cons_succ]
  refine' wpAnyH_take (i := 16) ?hi16 ?hs16 ?hf16 ?hr16 ?hQ16 ?hy16 ?hS16 ?rest16
  case hi16 =>
    simp only [List.getElem?_toArray, List.getElem?_cons_succ, List.getElem?_cons_zero]
    all_goals rfl
  case hs16 => kernel_rfl
  case hf16 => kernel_rfl
  case hr16 => kernel_rfl
  case hQ16 => exact fun _ _ _ h => h
  case hS16 => assumption
  case hy16 =>
    refine Or.inl ⟨by rfl, ?_⟩
    intro w hSw
    try dsimp only at hSw
    go_simp
    all_goals with_reducible rfl
  try simp only [Act.put, List.setIfInBounds_toArray, List.set_cons_zero, List.set_cons_succ]
  refine' wpAnyH_take (i := 17) ?hi17 ?hs17 ?hf17 ?hr17 ?hQ17 ?hy17 ?hS17 ?rest17
  case hi17 =>
    simp only [List.getElem?_toArray, List.getElem?_cons_succ, List.getElem?_cons_zero]
    all_goals rfl
  case hs17 => kernel_rfl
  case hf17 => kernel_rfl
  case hr17 => kernel_rfl
  case hQ17 => exact fun _ _ _ h => h
  case hS17 => assumption
  case hy17 =>
    refine Or.inl ⟨by rfl, ?_⟩
    intro w hSw
    try dsimp only at hSw
    go_simp
    all_goals with_reducible rfl
  try simp only [Act.put, List.setIfInBounds_toArray, List.set_cons_zero, List.set_cons_succ]
  refine' wpAnyH_take (i := 18) ?hi18 ?hs18 ?hf18 ?hr18 ?hQ18 ?hy18 ?hS18 ?rest18
  case hi18 =>
    simp only [List.getElem?_toArray, List.getElem?_cons_succ, List.getElem?_cons_zero]
    all_goals rfl
  case hs18 => kernel_rfl
  case hf18 => kernel_rfl
  case hr18 => kernel_rfl
  case hQ18 => exact fun _ _ _ h => h
  case hS18 => assumption
  case hy18 =>
    refine Or.inl ⟨by rfl, ?_⟩
    intro w hSw
    try dsimp only at hSw
    go_simp
    all_goals with_reducible rfl
  try simp only [Act.put, List.setIfInBounds_toArray, List.set_cons_zero, List.set_cons_succ]
  refine' wpAnyH_take (i := 19) ?hi19 ?hs19 ?hf19 ?hr19 ?hQ19 ?hy19 ?hS19 ?rest19
  case hi19 =>
    simp only [List.getElem?_toArray, List.getElem?_cons_succ, List.getElem?_cons_zero]
    all_goals rfl
  case hs19 => kernel_rfl
  case hf19 => kernel_rfl
  case hr19 => kernel_rfl
  case hQ19 => exact fun _ _ _ h => h
  case hS19 => assumption
  case hy19 =>
    refine Or.inl ⟨by rfl, ?_⟩
    intro w hSw
    try dsimp only at hSw
    go_simp
    all_goals with_reducible rfl
  try simp only [Act.put, List.setIfInBounds_toArray, List.set_cons_zero, List.set_cons_succ]
  refine' wpAnyH_take (i := 20) ?hi20 ?hs20 ?hf20 ?hr20 ?hQ20 ?hy20 ?hS20 ?rest20
  case hi20 =>
    simp only [List.getElem?_toArray, List.getElem?_cons_succ, List.getElem?_cons_zero]
    all_goals rfl
  case hs20 => kernel_rfl
  case hf20 => kernel_rfl
  case hr20 => kernel_rfl
  case hQ20 => exact fun _ _ _ h => h
  case hS20 => assumption
  case hy20 => exact Or.inr ⟨by rfl, rfl⟩
  try simp only [Act.put, List.setIfInBounds_toArray, List.set_cons_zero, List.set_cons_succ]
  refine' wpAnyH_take (i := 21) ?hi21 ?hs21 ?hf21 ?hr21 ?hQ21 ?hy21 ?hS21 ?rest21
  case hi21 =>
    simp only [List.getElem?_toArray, List.getElem?_cons_succ, List.getElem?_cons_zero]
    all_goals rfl
  case hs21 => kernel_rfl
  case hf21 => kernel_rfl
  case hr21 => kernel_rfl
  case hQ21 => exact fun _ _ _ h => h
  case hS21 => assumption
  case hy21 => exact Or.inr ⟨by rfl, rfl⟩
  try simp only [Act.put, List.setIfInBounds_toArray, List.set_cons_zero, List.set_cons_succ]
  refine' wpAnyH_take (i := 22) ?hi22 ?hs22 ?hf22 ?hr22 ?hQ22 ?hy22 ?hS22 ?rest22
  case hi22 =>
    simp only [List.getElem?_toArray, List.getElem?_cons_succ, List.getElem?_cons_zero]
    all_goals rfl
  case hs22 => kernel_rfl
  case hf22 => kernel_rfl
  case hr22 => kernel_rfl
  case hQ22 => exact fun _ _ _ h => h
  case hS22 => assumption
  case hy22 => exact Or.inr ⟨by rfl, rfl⟩
  try simp only [Act.put, List.setIfInBounds_toArray, List.set_cons_zero, List.set_cons_succ]
  refine' wpAnyH_take (i := 23) ?hi23 ?hs23 ?hf23 ?hr23 ?hQ23 ?hy23 ?hS23 ?rest23
  case hi23 =>
    simp only [List.getElem?_toArray, List.getElem?_cons_succ, List.getElem?_cons_zero]
    all_goals rfl
  case hs23 => kernel_rfl
  case hf23 => kernel_rfl
  case hr23 => kernel_rfl
  case hQ23 => exact fun _ _ _ h => h
  case hS23 => assumption
  case hy23 => exact Or.inr ⟨by rfl, rfl⟩
  try simp only [Act.put, List.setIfInBounds_toArray, List.set_cons_zero, List.set_cons_succ]
  refine' wpAnyH_take (i := 24) ?hi24 ?hs24 ?hf24 ?hr24 ?hQ24 ?hy24 ?hS24 ?rest24
  case hi24 =>
    simp only [List.getElem?_toArray, List.getElem?_cons_succ, List.getElem?_cons_zero]
    all_goals rfl
  case hs24 => kernel_rfl
  case hf24 => kernel_rfl
  case hr24 => kernel_rfl
  case hQ24 => exact fun _ _ _ h => h
  case hS24 => assumption
  case hy24 => exact Or.inr ⟨by rfl, rfl⟩
  try simp only [Act.put, List.setIfInBounds_toArray, List.set_cons_zero, List.set_cons_succ]
  refine' wpAnyH_take (i := 25) ?hi25 ?hs25 ?hf25 ?hr25 ?hQ25 ?hy25 ?hS25 ?rest25
  case hi25 =>
    simp only [List.getElem?_toArray, List.getElem?_cons_succ, List.getElem?_cons_zero]
    all_goals rfl
  case hs25 => kernel_rfl
  case hf25 => kernel_rfl
  case hr25 => kernel_rfl
  case hQ25 => exact fun _ _ _ h => h
  case hS25 => assumption
  case hy25 =>
    refine Or.inl ⟨by rfl, ?_⟩
    intro w hSw
    try dsimp only at hSw
    go_simp
    all_goals with_reducible rfl
  try simp only [Act.put, List.setIfInBounds_toArray, List.set_cons_zero, List.set_cons_succ]
  refine' wpAnyH_take (i := 26) ?hi26 ?hs26 ?hf26 ?hr26 ?hQ26 ?hy26 ?hS26 ?rest26
  case hi26 =>
    simp only [List.getElem?_toArray, List.getElem?_cons_succ, List.getElem?_cons_zero]
    all_goals rfl
  case hs26 => kernel_rfl
  case hf26 => kernel_rfl
  case hr26 => kernel_rfl
  case hQ26 => exact fun _ _ _ h => h
  case hS26 => assumption
  case hy26 =>
    refine Or.inl ⟨by rfl, ?_⟩
    intro w hSw
    try dsimp only at hSw
    go_simp
    all_goals with_reducible rfl
  try simp only [Act.put, List.setIfInBounds_toArray, List.set_cons_zero, List.set_cons_succ]
  refine' wpAnyH_take (i := 27) ?hi27 ?hs27 ?hf27 ?hr27 ?hQ27 ?hy27 ?hS27 ?rest27
  case hi27 =>
    simp only [List.getElem?_toArray, List.getElem?_cons_succ, List.getElem?_cons_zero]
    all_goals rfl
  case hs27 => kernel_rfl
  case hf27 => kernel_rfl
  case hr27 => kernel_rfl
  case hQ27 => exact fun _ _ _ h => h
  case hS27 => assumption
  case hy27 =>
    refine Or.inl ⟨by rfl, ?_⟩
    intro w hSw
    try dsimp only at hSw
    go_simp
    all_goals with_reducible rfl
  try simp only [Act.put, List.setIfInBounds_toArray, List.set_cons_zero, List.set_cons_succ]
  refine' wpAnyH_take (i := 28) ?hi28 ?hs28 ?hf28 ?hr28 ?hQ28 ?hy28 ?hS28 ?rest28
  case hi28 =>
    simp only [List.getElem?_toArray, List.getElem?_cons_succ, List.getElem?_cons_zero]
    all_goals rfl
  case hs28 => kernel_rfl
  case hf28 => kernel_rfl
  case hr28 => kernel_rfl
  case hQ28 => exact fun _ _ _ h => h
  case hS28 => assumption
  case hy28 =>
    refine Or.inl ⟨by rfl, ?_⟩
    intro w hSw
    try dsimp only at hSw
    go_simp
    all_goals with_reducible rfl
  try simp only [Act.put, List.setIfInBounds_toArray, List.set_cons_zero, List.set_cons_succ]
  refine' wpAnyH_take (i := 29) ?hi29 ?hs29 ?hf29 ?hr29 ?hQ29 ?hy29 ?hS29 ?rest29
  case hi29 =>
    simp only [List.getElem?_toArray, List.getElem?_cons_succ, List.getElem?_cons_zero]
    all_goals rfl
  case hs29 => kernel_rfl
  case hf29 => kernel_rfl
  case hr29 => kernel_rfl
  case hQ29 => exact fun _ _ _ h => h
  case hS29 => assumption
  case hy29 =>
    refine Or.inl ⟨by rfl, ?_⟩
    intro w hSw
    try dsimp only at hSw
    go_simp
    all_goals with_reducible rfl
  try simp only [Act.put, List.setIfInBounds_toArray, List.set_cons_zero, List.set_cons_succ]
  refine wpAnyH_ready (rs := [30]) (by kernel_rfl) (by simp) ?_
  refine AllReadyH.cons rfl (fun K hK => ?_) AllReadyH.nil
  go_simp
  refine (newer_any ⟨b0, b1, b2⟩ ⟨a0, a1, a2⟩ _).mono ?_
  rintro e w5 ⟨rfl, hb5⟩
  rw [HV.out]
  have K5 := K4.below hb5
  try go_wp2_with fail
  refine hK.out _ _ ?_ (fun hHeld => ?_)
  · exact K5.cells
  clear hK K
  try simp only [Act.put, List.setIfInBounds_toArray, List.set_cons_zero, List.set_cons_succ]
  refine' wpAnyH_take (i := 31) ?hi31 ?hs31 ?hf31 ?hr31 ?hQ31 ?hy31 ?hS31 ?rest31
  case hi31 =>
    simp only [List.getElem?_toArray, List.getElem?_cons_succ, List.getElem?_cons_zero]
    all_goals rfl
  case hs31 => kernel_rfl
  case hf31 => kernel_rfl
  case hr31 => kernel_rfl
  case hQ31 => exact fun _ _ _ h => h
  case hS31 => assumption
  case hy31 =>
    refine Or.inl ⟨by rfl, ?_⟩
    intro w hSw
    try dsimp only at hSw
    go_simp
    all_goals with_reducible rfl
  try simp only [Act.put, List.setIfInBounds_toArray, List.set_cons_zero, List.set_cons_succ]
  refine' wpAnyH_take (i := 32) ?hi32 ?hs32 ?hf32 ?hr32 ?hQ32 ?hy32 ?hS32 ?rest32
  case hi32 =>
    simp only [List.getElem?_toArray, List.getElem?_cons_succ, List.getElem?_cons_zero]
    all_goals rfl
  case hs32 => kernel_rfl
  case hf32 => kernel_rfl
  case hr32 => kernel_rfl
  case hQ32 => exact fun _ _ _ h => h
  case hS32 => assumption
  case hy32 =>
    refine Or.inl ⟨by rfl, ?_⟩
    intro w hSw
    try dsimp only at hSw
    go_simp
    all_goals with_reducible rfl
  try simp only [Act.put, List.setIfInBounds_toArray, List.set_cons_zero, List.set_cons_succ]
  refine' wpAnyH_take (i := 33) ?hi33 ?hs33 ?hf33 ?hr33 ?hQ33 ?hy33 ?hS33 ?rest33
  case hi33 =>
    simp only [List.getElem?_toArray, List.getElem?_cons_succ, List.getElem?_cons_zero]
    all_goals rfl
  case hs33 => kernel_rfl
  case hf33 => kernel_rfl
  case hr33 => kernel_rfl
  case hQ33 => exact fun _ _ _ h => h
  case hS33 => assumption
  case hy33 =>
    refine Or.inl ⟨by rfl, ?_⟩
    intro w hSw
    try dsimp only at hSw
    go_simp
    all_goals with_reducible rfl
  try simp only [Act.put, List.setIfInBounds_toArray, List.set_cons_zero, List.set_cons_succ]
  refine wpAnyH_done (by kernel_rfl) ?_ _
  go_wp2_with fail
  refine (lives_any _).mono ?_
  rintro e w6 ⟨rfl, hb6⟩
  have K6 := K5.below hb6
  clear hXYZ
  go_wp2
  go_ret
  exact ⟨rfl, K6.2.2.2⟩
set_option maxHeartbeats 2000000 in
theorem orders_3 (a b c : Msg) (w : World) (h1 : a.i = b.i) (h2 : a.q ≠ b.q) (hX : newer a b = true) (hV : newer b a = false) :
    Calls Try.prog 5 #[.agg #[.int .u16 a.s, .int .u32 a.i, .int .u32 a.q], .agg #[.int .u16 b.s, .int .u32 b.i, .int .u32 b.q], .agg #[.int .u16 c.s, .int .u32 c.i, .int .u32 c.q]] w fun e w' => e = .returned (.bool true) ∧ Below w.heap.size w w' := by
  have K0 : Box3 w (((w.alloc (.cells #[.int .u16 a.s, .int .u32 a.i, .int .u32 a.q] 26)).alloc (.cells #[.int .u16 b.s, .int .u32 b.i, .int .u32 b.q] 26)).alloc (.cells #[.int .u16 c.s, .int .u32 c.i, .int .u32 c.q] 26)) a b c := ⟨((Blk.new _ _ _).alloc _).alloc _, (blk_new2 (by simp)).alloc _, blk_new2 (by simp), (((Below.refl _ _).alloc (Nat.le_refl _) _).alloc (by simp) _).alloc (by simp; omega) _⟩
  have HT := newer_trans a b c
  rw [hX] at HT
  obtain ⟨Y, hY⟩ : ∃ Y, Y = newer b c := ⟨_, rfl⟩
  obtain ⟨Z, hZ⟩ : ∃ Z, Z = newer a c := ⟨_, rfl⟩
  rw [← hY, ← hZ] at HT
  have HY := hide hY
  have HZ := hide hZ
  have HX := hide hX
  have HV := hide hV
  clear hY hZ hX hV
  have hXYZ : True → Y = false ∨ (Y = true ∧ Z = true) := by
    intro hx
    cases Y
    · exact .inl rfl
    · exact .inr ⟨rfl, HT rfl rfl⟩
  clear HT
  obtain ⟨a0, a1, a2⟩ := a
  obtain ⟨b0, b1, b2⟩ := b
  obtain ⟨c0, c1, c2⟩ := c
  simp only at h1 h2
  subst h1
  have h7 : (a2 == b2) = false := by rw [beq_eq_false_iff_ne]; exact h2
  clear h2
  have F0 := K0.cells
  have D0 := K0.drew.cells
  simp only at F0 D0
  go_enter Try.func5, Try.ntmps5
  go_wp2_with fail
  go_region_held3 (fun w' => w'.cell? ⟨w.heap.size, 0, none⟩ = some (.int .u16 a0) ∧ w'.cell? ⟨w.heap.size, 1, none⟩ = some (.int .u32 a1) ∧ w'.cell? ⟨w.heap.size, 2, none⟩ = some (.int .u32 a2) ∧ w'.cell? ⟨w.heap.size + 1, 0, none⟩ = some (.int .u16 b0) ∧ w'.cell? ⟨w.heap.size + 1, 1, none⟩ = some (.int .u32 a1) ∧ w'.cell? ⟨w.heap.size + 1, 2, none⟩ = some (.int .u32 b2) ∧ w'.cell? ⟨w.heap.size + 2, 0, none⟩ = some (.int .u16 c0) ∧ w'.cell? ⟨w.heap.size + 2, 1, none⟩ = some (.int .u32 c1) ∧ w'.cell? ⟨w.heap.size + 2, 2, none⟩ = some (.int .u32 c2) ∧ Below w.heap.size w w') (first | assumption | exact F0 | exact D0 | exact F1 | exact F2 | exact F3) (first
    | (go_at_call 14; (with_reducible refine (newer_any ⟨a0, a1, a2⟩ ⟨b0, a1, b2⟩ _).mono ?_); rintro e w1 ⟨rfl, hb1⟩; rw [HX.out]; have K1 := K0.drew.below hb1; have F1 := K1.cells)
    | (go_at_call 14; (with_reducible refine (newer_any ⟨b0, a1, b2⟩ ⟨c0, c1, c2⟩ _).mono ?_); rintro e w2 ⟨rfl, hb2⟩; rw [← HY.out]; have K2 := K1.below hb2; have F2 := K2.cells)
    | (go_at_call 14; (with_reducible refine (newer_any ⟨a0, a1, a2⟩ ⟨c0, c1, c2⟩ _).mono ?_); rintro e w3 ⟨rfl, hb3⟩; rw [← HZ.out]; have K3 := K2.below hb3; have F3 := K3.cells))
  have D3 := K3.drew.cells
  simp only at D3
  clear F0 D0 F1 F2 F3 K0 K1 K2 hb1 hb2 hb3 w1 w2
  go_wp2_with fail
  refine wp_region_held_drew (S := fun w' => w'.cell? ⟨w.heap.size, 0, none⟩ = some (.int .u16 a0) ∧ w'.cell? ⟨w.heap.size, 1, none⟩ = some (.int .u32 a1) ∧ w'.cell? ⟨w.heap.size, 2, none⟩ = some (.int .u32 a2) ∧ w'.cell? ⟨w.heap.size + 1, 0, none⟩ = some (.int .u16 b0) ∧ w'.cell? ⟨w.heap.size + 1, 1, none⟩ = some (.int .u32 a1) ∧ w'.cell? ⟨w.heap.size + 1, 2, none⟩ = some (.int .u32 b2) ∧ w'.cell? ⟨w.heap.size + 2, 0, none⟩ = some (.int .u16 c0) ∧ w'.cell? ⟨w.heap.size + 2, 1, none⟩ = some (.int .u32 c1) ∧ w'.cell? ⟨w.heap.size + 2, 2, none⟩ = some (.int .u32 c2) ∧ Below w.heap.size w w') (by kernel_rfl) ?_ (fun hHeld => ?_)
  · exact D3
  refine' wpAnyH_take (i := 0) ?hi0 ?hs0 ?hf0 ?hr0 ?hQ0 ?hy0 ?hS0 ?rest0
  case hi0 =>
    simp only [List.getElem?_toArray, List.getElem?_cons_succ, List.getElem?_cons_zero]
    all_goals rfl
  case hs0 => kernel_rfl
  case hf0 => kernel_rfl
  case hr0 => kernel_rfl
  case hQ0 => exact fun _ _ _ h => h
  case hS0 => assumption
  case hy0 =>
    refine Or.inl ⟨by rfl, ?_⟩
    intro w hSw
    try dsimp only at hSw
    go_simp
    all_goals with_reducible rfl
  try simp only [Act.put, List.setIfInBounds_toArray, List.set_cons_zero, List.set_cons_succ]
  refine' wpAnyH_take (i := 1) ?hi1 ?hs1 ?hf1 ?hr1 ?hQ1 ?hy1 ?hS1 ?rest1
  case hi1 =>
    simp only [List.getElem?_toArray, List.getElem?_cons_succ, List.getElem?_cons_zero]
    all_goals rfl
  case hs1 => kernel_rfl
  case hf1 => kernel_rfl
  case hr1 => kernel_rfl
  case hQ1 => exact fun _ _ _ h => h
  case hS1 => assumption
  case hy1 =>
    refine Or.inl ⟨by rfl, ?_⟩
    intro w hSw
    try dsimp only at hSw
    go_simp
    all_goals with_reducible rfl
  try simp only [Act.put, List.setIfInBounds_toArray, List.set_cons_zero, List.set_cons_succ]
  refine' wpAnyH_take (i := 2) ?hi2 ?hs2 ?hf2 ?hr2 ?hQ2 ?hy2 ?hS2 ?rest2
  case hi2 =>
    simp only [List.getElem?_toArray, List.getElem?_cons_succ, List.getElem?_cons_zero]
    all_goals rfl
  case hs2 => kernel_rfl
  case hf2 => kernel_rfl
  case hr2 => kernel_rfl
  case hQ2 => exact fun _ _ _ h => h
  case hS2 => assumption
  case hy2 =>
    refine Or.inl ⟨by rfl, ?_⟩
    intro w hSw
    try dsimp only at hSw
    go_simp
    all_goals with_reducible rfl
  try simp only [Act.put, List.setIfInBounds_toArray, List.set_cons_zero, List.set_cons_succ]
  refine wpAnyH_ready (rs := [3]) (by kernel_rfl) (by simp) ?_
  refine AllReadyH.cons rfl (fun K hK => ?_) AllReadyH.nil
  go_simp
  refine (rnewer_any ⟨a0, a1, a2⟩ ⟨b0, a1, b2⟩ _).mono ?_
  rintro e w4 ⟨rfl, hb4⟩
  rw [HX.out]
  have K4 := K3.drew.below hb4
  try go_wp2_with fail
  refine hK.out _ _ ?_ (fun hHeld => ?_)
  · exact K4.cells
  clear hK K
  try simp only [Act.put, List.setIfInBounds_toArray, List.set_cons_zero, List.set_cons_succ]
  refine' wpAnyH_take (i := 4) ?hi4 ?hs4 ?hf4 ?hr4 ?hQ4 ?hy4 ?hS4 ?rest4
  case hi4 =>
    simp only [List.getElem?_toArray, List.getElem?_cons_succ, List.getElem?_cons_zero]
    all_goals rfl
  case hs4 => kernel_rfl
  case hf4 => kernel_rfl
  case hr4 => kernel_rfl
  case hQ4 => exact fun _ _ _ h => h
  case hS4 => assumption
  case hy4 =>
    refine Or.inl ⟨by rfl, ?_⟩
    intro w hSw
    try dsimp only at hSw
    go_simp
    all_goals with_reducible rfl
  try simp only [Act.put, List.setIfInBounds_toArray, List.set_cons_zero, List.set_cons_succ]
  refine' wpAnyH_take (i := 5) ?hi5 ?hs5 ?hf5 ?hr5 ?hQ5 ?hy5 ?hS5 ?rest5
  case hi5 =>
    simp only [List.getElem?_toArray, List.getElem?_cons_succ, List.getElem?_cons_zero]
    all_goals rfl
  case hs5 => kernel_rfl
  case hf5 => kernel_rfl
  case hr5 => kernel_rfl
  case hQ5 => exact fun _ _ _ h => h
  case hS5 => assumption
  case hy5 =>
    refine Or.inl ⟨by rfl, ?_⟩
    intro w hSw
    try dsimp only at hSw
    go_simp
    all_goals with_reducible rfl
  try simp only [Act.put, List.setIfInBounds_toArray, List.set_cons_zero, List.set_cons_succ]
  refine' wpAnyH_take (i := 6) ?hi6 ?hs6 ?hf6 ?hr6 ?hQ6 ?hy6 ?hS6 ?rest6
  case hi6 =>
    simp only [List.getElem?_toArray, List.getElem?_cons_succ, List.getElem?_cons_zero]
    all_goals rfl
  case hs6 => kernel_rfl
  case hf6 => kernel_rfl
  case hr6 => kernel_rfl
  case hQ6 => exact fun _ _ _ h => h
  case hS6 => assumption
  case hy6 =>
    refine Or.inl ⟨by rfl, ?_⟩
    intro w hSw
    try dsimp only at hSw
    go_simp
    all_goals with_reducible rfl
  try simp only [Act.put, List.setIfInBounds_toArray, List.set_cons_zero, List.set_cons_succ]
  refine' wpAnyH_take (i := 7) ?hi7 ?hs7 ?hf7 ?hr7 ?hQ7 ?hy7 ?hS7 ?rest7
  case hi7 =>
    simp only [List.getElem?_toArray, List.getElem?_cons_succ, List.getElem?_cons_zero]
    all_goals rfl
  case hs7 => kernel_rfl
  case hf7 => kernel_rfl
  case hr7 => kernel_rfl
  case hQ7 => exact fun _ _ _ h => h
  case hS7 => assumption
  case hy7 =>
    refine Or.inl ⟨by rfl, ?_⟩
    intro w hSw
    try dsimp only at hSw
    go_simp
    all_goals with_reducible rfl
  try simp only [Act.put, List.setIfInBounds_toArray, List.set_cons_zero, List.set_cons_succ]
  refine' wpAnyH_take (i := 8) ?hi8 ?hs8 ?hf8 ?hr8 ?hQ8 ?hy8 ?hS8 ?rest8
  case hi8 =>
    simp only [List.getElem?_toArray, List.getElem?_cons_succ, List.getElem?_cons_zero]
    all_goals rfl
  case hs8 => kernel_rfl
  case hf8 => kernel_rfl
  case hr8 => kernel_rfl
  case hQ8 => exact fun _ _ _ h => h
  case hS8 => assumption
  case hy8 =>
    refine Or.inl ⟨by rfl, ?_⟩
    intro w hSw
    try dsimp only at hSw
    go_simp
    all_goals with_reducible rfl
  try simp only [Act.put, List.setIfInBounds_toArray, List.set_cons_zero, List.set_cons_succ]
  refine' wpAnyH_take (i := 9) ?hi9 ?hs9 ?hf9 ?hr9 ?hQ9 ?hy9 ?hS9 ?rest9
  case hi9 =>
    simp only [List.getElem?_toArray, List.getElem?_cons_succ, List.getElem?_cons_zero]
    all_goals rfl
  case hs9 => kernel_rfl
  case hf9 => kernel_rfl
  case hr9 => kernel_rfl
  case hQ9 => exact fun _ _ _ h => h
  case hS9 => assumption
  case hy9 =>
    refine Or.inl ⟨by rfl, ?_⟩
    intro w hSw
    try dsimp only at hSw
    go_simp
    all_goals with_reducible rfl
  try simp only [Act.put, List.setIfInBounds_toArray, List.set_cons_zero, List.set_cons_succ]
  refine wpAnyH_ready (rs := [10]) (by kernel_rfl) (by simp) ?_
  refine AllReadyH.cons rfl (fun K hK => ?_) AllReadyH.nil
  go_simp
  refine (newer_any ⟨b0, a1, b2⟩ ⟨a0, a1, a2⟩ _).mono ?_
  rintro e w5 ⟨rfl, hb5⟩
  rw [HV.out]
  have K5 := K4.below hb5
  try go_wp2_with fail
  refine hK.out _ _ ?_ (fun hHeld => ?_)
  · exact K5.cells
  clear hK K
  try simp only [Act.put, List.setIfInBounds_toArray, List.set_cons_zero, List.set_cons_succ]
  refine' wpAnyH_take (i := 11) ?hi11 ?hs11 ?hf11 ?hr11 ?hQ11 ?hy11 ?hS11 ?rest11
  case hi11 =>
    simp only [List.getElem?_toArray, List.getElem?_cons_succ, List.getElem?_cons_zero]
    all_goals rfl
  case hs11 => kernel_rfl
  case hf11 => kernel_rfl
  case hr11 => kernel_rfl
  case hQ11 => exact fun _ _ _ h => h
  case hS11 => assumption
  case hy11 =>
    refine Or.inl ⟨by rfl, ?_⟩
    intro w hSw
    try dsimp only at hSw
    go_simp
    all_goals with_reducible rfl
  try simp only [Act.put, List.setIfInBounds_toArray, List.set_cons_zero, List.set_cons_succ]
  refine' wpAnyH_take (i := 12) ?hi12 ?hs12 ?hf12 ?hr12 ?hQ12 ?hy12 ?hS12 ?rest12
  case hi12 =>
    simp only [List.getElem?_toArray, List.getElem?_cons_succ, List.getElem?_cons_zero]
    all_goals rfl
  case hs12 => kernel_rfl
  case hf12 => kernel_rfl
  case hr12 => kernel_rfl
  case hQ12 => exact fun _ _ _ h => h
  case hS12 => assumption
  case hy12 =>
    refine Or.inl ⟨by rfl, ?_⟩
    intro w hSw
    try dsimp only at hSw
    go_simp
    all_goals with_reducible rfl
  try simp only [Act.put, List.setIfInBounds_toArray, List.set_cons_zero, List.set_cons_succ]
  refine' wpAnyH_take (i := 13) ?hi13 ?hs13 ?hf13 ?hr13 ?hQ13 ?hy13 ?hS13 ?rest13
  case hi13 =>
    simp only [List.getElem?_toArray, List.getElem?_cons_succ, List.getElem?_cons_zero]
    all_goals rfl
  case hs13 => kernel_rfl
  case hf13 => kernel_rfl
  case hr13 => kernel_rfl
  case hQ13 => exact fun _ _ _ h => h
  case hS13 => assumption
  case hy13 =>
    refine Or.inl ⟨by rfl, ?_⟩
    intro w hSw
    try dsimp only at hSw
    go_simp
    all_goals with_reducible rfl
  try simp only [Act.put, List.setIfInBounds_toArray, List.set_cons_zero, List.set_cons_succ]
  refine' wpAnyH_take (i := 14) ?hi14 ?hs14 ?hf14 ?hr14 ?hQ14 ?hy14 ?hS14 ?rest14
  case hi14 =>
    simp only [List.getElem?_toArray, List.getElem?_cons_succ, List.getElem?_cons_zero]
    all_goals rfl
  case hs14 => kernel_rfl
  case hf14 => kernel_rfl
  case hr14 => kernel_rfl
  case hQ14 => exact fun _ _ _ h => h
  case hS14 => assumption
  case hy14 =>
    refine Or.inl ⟨by rfl, ?_⟩
    intro w hSw
    try dsimp only at hSw
    go_simp
    all_goals with_reducible rfl
  try simp only [Act.put, List.setIfInBounds_toArray, List.set_cons_zero, List.set_cons_succ]
  refine' wpAnyH_take (i := 15) ?hi15 ?hs15 ?hf15 ?hr15 ?hQ15 ?hy15 ?hS15 ?rest15
  case hi15 =>
    simp only [List.getElem?_toArray, List.getElem?_cons_succ, List.getElem?_cons_zero]
    all_goals rfl
  case hs15 => kernel_rfl
  case hf15 => kernel_rfl
  case hr15 => kernel_rfl
  case hQ15 => exact fun _ _ _ h => h
  case hS15 => assumption
  case hy15 =>
    refine Or.inl ⟨by rfl, ?_⟩
    intro w hSw
    try dsimp only at hSw
    go_simp
    all_goals with_reducible rfl
  try simp only [Act.put, List.setIfInBounds_toArray, List.set_cons_zero, List.set_cons_succ]
  refine' wpAnyH_take (i := 16) ?hi16 ?hs16 ?hf16 ?hr16 ?hQ16 ?hy16 ?hS16 ?rest16
  case hi16 =>
    simp only [List.getElem?_toArray, List.getElem?_cons_succ, List.getElem?_cons_zero]
    all_goals rfl
  case hs16 => kernel_rfl
  case hf16 => kernel_rfl
  case hr16 => kernel_rfl
  case hQ16 => exact fun _ _ _ h => h
  case hS16 => assumption
  case hy16 =>
    refine Or.inl ⟨by rfl, ?_⟩
    intro w hSw
    try dsimp only at hSw
    go_simp
    all_goals with_reducible rfl
  try simp only [Act.put, List.setIfInBounds_toArray, List.set_cons_zero, List.set_cons_succ]
  refine' wpAnyH_take (i := 17) ?hi17 ?hs17 ?hf17 ?hr17 ?hQ17 ?hy17 ?hS17 ?rest17
  case hi17 =>
    simp only [List.getElem?_toArray, List.getElem?_cons_succ, List.getElem?_cons_zero]
    all_goals rfl
  case hs17 => kernel_rfl
  case hf17 => kernel_rfl
  case hr17 => kernel_rfl
  case hQ17 => exact fun _ _ _ h => h
  case hS17 => assumption
  case hy17 =>
    refine Or.inl ⟨by rfl, ?_⟩
    intro w hSw
    try dsimp only at hSw
    go_simp
    all_goals with_reducible rfl
  try simp only [Act.put, List.setIfInBounds_toArray, List.set_cons_zero, List.set_cons_succ]
  refine' wpAnyH_take (i := 18) ?hi18 ?hs18 ?hf18 ?hr18 ?hQ18 ?hy18 ?hS18 ?rest18
  case hi18 =>
    simp only [List.getElem?_toArray, List.getElem?_cons_succ, List.getElem?_cons_zero]
    all_goals rfl
  case hs18 => kernel_rfl
  case hf18 => kernel_rfl
  case hr18 => kernel_rfl
  case hQ18 => exact fun _ _ _ h => h
  case hS18 => assumption
  case hy18 =>
    refine Or.inl ⟨by rfl, ?_⟩
    intro w hSw
    try dsimp only at hSw
    go_simp
    all_goals with_reducible rfl
  try simp only [Act.put, List.setIfInBounds_toArray, List.set_cons_zero, List.set_cons_succ]
  refine' wpAnyH_take (i := 19) ?hi19 ?hs19 ?hf19 ?hr19 ?hQ19 ?hy19 ?hS19 ?rest19
  case hi19 =>
    simp only [List.getElem?_toArray, List.getElem?_cons_succ, List.getElem?_cons_zero]
    all_goals rfl
  case hs19 => kernel_rfl
  case hf19 => kernel_rfl
  case hr19 => kernel_rfl
  case hQ19 => exact fun _ _ _ h => h
  case hS19 => assumption
  case hy19 =>
    refine Or.inl ⟨by rfl, ?_⟩
    intro w hSw
    try dsimp only at hSw
    go_simp
    all_goals with_reducible rfl
  try simp only [Act.put, List.setIfInBounds_toArray, List.set_cons_zero, List.set_cons_succ]
  refine' wpAnyH_take (i := 20) ?hi20 ?hs20 ?hf20 ?hr20 ?hQ20 ?hy20 ?hS20 ?rest20
  case hi20 =>
    simp only [List.getElem?_toArray, List.getElem?_cons_succ, List.getElem?_cons_zero]
    all_goals rfl
  case hs20 => kernel_rfl
  case hf20 => kernel_rfl
  case hr20 => kernel_rfl
  case hQ20 => exact fun _ _ _ h => h
  case hS20 => assumption
  case hy20 =>
    refine Or.inl ⟨by rfl, ?_⟩
    intro w hSw
    try dsimp only at hSw
    go_simp
    all_goals with_reducible rfl
  try simp only [Act.put, List.setIfInBounds_toArray, List.set_cons_zero, List.set_cons_succ]
  refine' wpAnyH_take (i := 21) ?hi21 ?hs21 ?hf21 ?hr21 ?hQ21 ?hy21 ?hS21 ?rest21
  case hi21 =>
    simp only [List.getElem?_toArray, List.getElem?_cons_succ, List.getElem?_cons_zero]
    all_goals rfl
  case hs21 => kernel_rfl
  case hf21 => kernel_rfl
  case hr21 => kernel_rfl
  case hQ21 => exact fun _ _ _ h => h
  case hS21 => assumption
  case hy21 =>
    refine Or.inl ⟨by rfl, ?_⟩
    intro w hSw
    try dsimp only at hSw
    go_simp
    all_goals with_reducible rfl
  try simp only [Act.put, List.setIfInBounds_toArray, List.set_cons_zero, List.set_cons_succ]
  refine' wpAnyH_take (i := 22) ?hi22 ?hs22 ?hf22 ?hr22 ?hQ22 ?hy22 ?hS22 ?rest22
  case hi22 =>
    simp only [List.getElem?_toArray, List.getElem?_cons_succ, List.getElem?_cons_zero]
    all_goals rfl
  case hs22 => kernel_rfl
  case hf22 => kernel_rfl
  case hr22 => kernel_rfl
  case hQ22 => exact fun _ _ _ h => h
  case hS22 => assumption
  case hy22 =>
    refine Or.inl ⟨by rfl, ?_⟩
    intro w hSw
    try dsimp only at hSw
    go_simp
    all_goals with_reducible rfl
  try simp only [Act.put, List.setIfInBounds_toArray, List.set_cons_zero, List.set_cons_succ]
  refine' wpAnyH_take (i := 23) ?hi23 ?hs23 ?hf23 ?hr23 ?hQ23 ?hy23 ?hS23 ?rest23
  case hi23 =>
    simp only [List.getElem?_toArray, List.getElem?_cons_succ, List.getElem?_cons_zero]
    all_goals rfl
  case hs23 => kernel_rfl
  case hf23 => kernel_rfl
  case hr23 => kernel_rfl
  case hQ23 => exact fun _ _ _ h => h
  case hS23 => assumption
  case hy23 =>
    refine Or.inl ⟨by rfl, ?_⟩
    intro w hSw
    try dsimp only at hSw
    go_simp
    all_goals with_reducible rfl
  try simp only [Act.put, List.setIfInBounds_toArray, List.set_cons_zero, List.set_cons_succ]
  refine' wpAnyH_take (i := 24) ?hi24 ?hs24 ?hf24 ?hr24 ?hQ24 ?hy24 ?hS24 ?rest24
  case hi24 =>
    simp only [List.getElem?_toArray, List.getElem?_cons_succ, List.getElem?_cons_zero]
    all_goals rfl
  case hs24 => kernel_rfl
  case hf24 => kernel_rfl
  case hr24 => kernel_rfl
  case hQ24 => exact fun _ _ _ h => h
  case hS24 => assumption
  case hy24 =>
    refine Or.inl ⟨by rfl, ?_⟩
    intro w hSw
    try dsimp only at hSw
    go_simp
    all_goals with_reducible rfl
  try simp only [Act.put, List.setIfInBounds_toArray, List.set_cons_zero, List.set_cons_succ]
  refine' wpAnyH_take (i := 25) ?hi25 ?hs25 ?hf25 ?hr25 ?hQ25 ?hy25 ?hS25 ?rest25
  case hi25 =>
    simp only [List.getElem?_toArray, List.getElem?_cons_succ, List.getElem?_cons_zero]
    all_goals rfl
  case hs25 => kernel_rfl
  case hf25 => kernel_rfl
  case hr25 => kernel_rfl
  case hQ25 => exact fun _ _ _ h => h
  case hS25 => assumption
  case hy25 =>
    refine Or.inl ⟨by rfl, ?_⟩
    intro w hSw
    try dsimp only at hSw
    go_simp
    all_goals with_reducible rfl
  try simp only [Act.put, List.setIfInBounds_toArray, List.set_cons_zero, List.set_cons_succ]
  refine' wpAnyH_take (i := 26) ?hi26 ?hs26 ?hf26 ?hr26 ?hQ26 ?hy26 ?hS26 ?rest26
  case hi26 =>
    simp only [List.getElem?_toArray, List.getElem?_cons_succ, List.getElem?_cons_zero]
    all_goals rfl
  case hs26 => kernel_rfl
  case hf26 => kernel_rfl
  case hr26 => kernel_rfl
  case hQ26 => exact fun _ _ _ h => h
  case hS26 => assumption
  case hy26 =>
    refine Or.inl ⟨by rfl, ?_⟩
    intro w hSw
    try dsimp only at hSw
    go_simp
    all_goals with_reducible rfl
  try simp only [Act.put, List.setIfInBounds_toArray, List.set_cons_zero, List.set_cons_succ]
  refine' wpAnyH_take (i := 27) ?hi27 ?hs27 ?hf27 ?hr27 ?hQ27 ?hy27 ?hS27 ?rest27
  case hi27 =>
    simp only [List.getElem?_toArray, List.getElem?_cons_succ, List.getElem?_cons_zero]
    all_goals rfl
  case hs27 => kernel_rfl
  case hf27 => kernel_rfl
  case hr27 => kernel_rfl
  case hQ27 => exact fun _ _ _ h => h
  case hS27 => assumption
  case hy27 =>
    refine Or.inl ⟨by rfl, ?_⟩
    intro w hSw
    try dsimp only at hSw
    go_simp
    all_goals with_reducible rfl
  try simp only [Act.put, List.setIfInBounds_toArray, List.set_cons_zero, List.set_cons_succ]
  refine' wpAnyH_take (i := 28) ?hi28 ?hs28 ?hf28 ?hr28 ?hQ28 ?hy28 ?hS28 ?rest28
  case hi28 =>
    simp only [List.getElem?_toArray, List.getElem?_cons_succ, List.getElem?_cons_zero]
    all_goals rfl
  case hs28 => kernel_rfl
  case hf28 => kernel_rfl
  case hr28 => kernel_rfl
  case hQ28 => exact fun _ _ _ h => h
  case hS28 => assumption
  case hy28 => exact Or.inr ⟨by rfl, rfl⟩
  try simp only [Act.put, List.setIfInBounds_toArray, List.set_cons_zero, List.set_cons_succ]
  refine' wpAnyH_take (i := 29) ?hi29 ?hs29 ?hf29 ?hr29 ?hQ29 ?hy29 ?hS29 ?rest29
  case hi29 =>
    simp only [List.getElem?_toArray, List.getElem?_cons_succ, List.getElem?_cons_zero]
    all_goals rfl
  case hs29 => kernel_rfl
  case hf29 => kernel_rfl
  case hr29 => kernel_rfl
  case hQ29 => exact fun _ _ _ h => h
  case hS29 => assumption
  case hy29 => exact Or.inr ⟨by rfl, rfl⟩
  try simp only [Act.put, List.setIfInBounds_toArray, List.set_cons_zero, List.set_cons_succ]
  refine' wpAnyH_take (i := 30) ?hi30 ?hs30 ?hf30 ?hr30 ?hQ30 ?hy30 ?hS30 ?rest30
  case hi30 =>
    simp only [List.getElem?_toArray, List.getElem?_cons_succ, List.getElem?_cons_zero]
    all_goals rfl
  case hs30 => kernel_rfl
  case hf30 => kernel_rfl
  case hr30 => kernel_rfl
  case hQ30 => exact fun _ _ _ h => h
  case hS30 => assumption
  case hy30 => exact Or.inr ⟨by rfl, rfl⟩
  try simp only [Act.put, List.setIfInBounds_toArray, List.set_cons_zero, List.set_cons_succ]
  refine' wpAnyH_take (i := 31) ?hi31 ?hs31 ?hf31 ?hr31 ?hQ31 ?hy31 ?hS31 ?rest31
  case hi31 =>
    simp only [List.getElem?_toArray, List.getElem?_cons_succ, List.getElem?_cons_zero]
    all_goals rfl
  case hs31 => kernel_rfl
  case hf31 => kernel_rfl
  case hr31 => kernel_rfl
  case hQ31 => exact fun _ _ _ h => h
  case hS31 => assumption
  case hy31 =>
    refine Or.inl ⟨by rfl, ?_⟩
    intro w hSw
    try dsimp only at hSw
    go_simp
    all_goals with_reducible rfl
  try simp only [Act.put, List.setIfInBounds_toArray, List.set_cons_zero, List.set_cons_succ]
  refine' wpAnyH_take (i := 32) ?hi32 ?hs32 ?hf32 ?hr32 ?hQ32 ?hy32 ?hS32 ?rest32
  case hi32 =>
    simp only [List.getElem?_toArray, List.getElem?_cons_succ, List.getElem?_cons_zero]
    all_goals rfl
  case hs32 => kernel_rfl
  case hf32 => kernel_rfl
  case hr32 => kernel_rfl
  case hQ32 => exact fun _ _ _ h => h
  case hS32 => assumption
  case hy32 =>
    refine Or.inl ⟨by rfl, ?_⟩
    intro w hSw
    try dsimp only at hSw
    go_simp
    all_goals with_reducible rfl
  try simp only [Act.put, List.setIfInBounds_toArray, List.set_cons_zero, List.set_cons_succ]
  refine' wpAnyH_take (i := 33) ?hi33 ?hs33 ?hf33 ?hr33 ?hQ33 ?hy33 ?hS33 ?rest33
  case hi33 =>
    simp only [List.getElem?_toArray, List.getElem?_cons_succ, List.getElem?_cons_zero]
    all_goals rfl
  case hs33 => kernel_rfl
  case hf33 => kernel_rfl
  case hr33 => kernel_rfl
  case hQ33 => exact fun _ _ _ h => h
  case hS33 => assumption
  case hy33 =>
    refine Or.inl ⟨by rfl, ?_⟩
    intro w hSw
    try dsimp only at hSw
    go_simp
    all_goals with_reducible rfl
  try simp only [Act.put, List.setIfInBounds_toArray, List.set_cons_zero, List.set_cons_succ]
  refine wpAnyH_done (by kernel_rfl) ?_ _
  go_wp2_with fail
  refine (lives_any _).mono ?_
  rintro e w6 ⟨rfl, hb6⟩
  have K6 := K5.below hb6
  rcases hXYZ trivial with rfl | ⟨rfl, rfl⟩
  all_goals
    go_wp2
    go_ret
    exact ⟨rfl, K6.2.2.2⟩
set_option maxHeartbeats 2000000 in
theorem orders_4 (a b c : Msg) (w : World) (h1 : a.i = b.i) (h2 : a.q ≠ b.q) (hX : newer a b = false) (hV : newer b a = true) :
    Calls Try.prog 5 #[.agg #[.int .u16 a.s, .int .u32 a.i, .int .u32 a.q], .agg #[.int .u16 b.s, .int .u32 b.i, .int .u32 b.q], .agg #[.int .u16 c.s, .int .u32 c.i, .int .u32 c.q]] w fun e w' => e = .returned (.bool true) ∧ Below w.heap.size w w' := by
  have K0 : Box3 w (((w.alloc (.cells #[.int .u16 a.s, .int .u32 a.i, .int .u32 a.q] 26)).alloc (.cells #[.int .u16 b.s, .int .u32 b.i, .int .u32 b.q] 26)).alloc (.cells #[.int .u16 c.s, .int .u32 c.i, .int .u32 c.q] 26)) a b c := ⟨((Blk.new _ _ _).alloc _).alloc _, (blk_new2 (by simp)).alloc _, blk_new2 (by simp), (((Below.refl _ _).alloc (Nat.le_refl _) _).alloc (by simp) _).alloc (by simp; omega) _⟩
  have HT := newer_trans a b c
  rw [hX] at HT
  obtain ⟨Y, hY⟩ : ∃ Y, Y = newer b c := ⟨_, rfl⟩
  obtain ⟨Z, hZ⟩ : ∃ Z, Z = newer a c := ⟨_, rfl⟩
  rw [← hY, ← hZ] at HT
  have HY := hide hY
  have HZ := hide hZ
  have HX := hide hX
  have HV := hide hV
  clear hY hZ hX hV
  have hXYZ : False → Y = false ∨ (Y = true ∧ Z = true) := by
    intro hx
    cases Y
    · exact .inl rfl
    · exact .inr ⟨rfl, HT hx.elim rfl⟩
  clear HT
  obtain ⟨a0, a1, a2⟩ := a
  obtain ⟨b0, b1, b2⟩ := b
  obtain ⟨c0, c1, c2⟩ := c
  simp only at h1 h2
  subst h1
  have h7 : (a2 == b2) = false := by rw [beq_eq_false_iff_ne]; exact h2
  clear h2
  have F0 := K0.cells
  have D0 := K0.drew.cells
  simp only at F0 D0
  go_enter Try.func5, Try.ntmps5
  go_wp2_with fail
  go_region_held3 (fun w' => w'.cell? ⟨w.heap.size, 0, none⟩ = some (.int .u16 a0) ∧ w'.cell? ⟨w.heap.size, 1, none⟩ = some (.int .u32 a1) ∧ w'.cell? ⟨w.heap.size, 2, none⟩ = some (.int .u32 a2) ∧ w'.cell? ⟨w.heap.size + 1, 0, none⟩ = some (.int .u16 b0) ∧ w'.cell? ⟨w.heap.size + 1, 1, none⟩ = some (.int .u32 a1) ∧ w'.cell? ⟨w.heap.size + 1, 2, none⟩ = some (.int .u32 b2) ∧ w'.cell? ⟨w.heap.size + 2, 0, none⟩ = some (.int .u16 c0) ∧ w'.cell? ⟨w.heap.size + 2, 1, none⟩ = some (.int .u32 c1) ∧ w'.cell? ⟨w.heap.size + 2, 2, none⟩ = some (.int .u32 c2) ∧ Below w.heap.size w w') (first | assumption | exact F0 | exact D0 | exact F1 | exact F2 | exact F3) (first
    | (go_at_call 14; (with_reducible refine (newer_any ⟨a0, a1, a2⟩ ⟨b0, a1, b2⟩ _).mono ?_); rintro e w1 ⟨rfl, hb1⟩; rw [HX.out]; have K1 := K0.drew.below hb1; have F1 := K1.cells)
    | (go_at_call 14; (with_reducible refine (newer_any ⟨b0, a1, b2⟩ ⟨c0, c1, c2⟩ _).mono ?_); rintro e w2 ⟨rfl, hb2⟩; rw [← HY.out]; have K2 := K1.below hb2; have F2 := K2.cells)
    | (go_at_call 14; (with_reducible refine (newer_any ⟨a0, a1, a2⟩ ⟨c0, c1, c2⟩ _).mono ?_); rintro e w3 ⟨rfl, hb3⟩; rw [← HZ.out]; have K3 := K2.below hb3; have F3 := K3.cells))
  have D3 := K3.drew.cells
  simp only at D3
  clear F0 D0 F1 F2 F3 K0 K1 K2 hb1 hb2 hb3 w1 w2
  go_wp2_with fail
  refine wp_region_held_drew (S := fun w' => w'.cell? ⟨w.heap.size, 0, none⟩ = some (.int .u16 a0) ∧ w'.cell? ⟨w.heap.size, 1, none⟩ = some (.int .u32 a1) ∧ w'.cell? ⟨w.heap.size, 2, none⟩ = some (.int .u32 a2) ∧ w'.cell? ⟨w.heap.size + 1, 0, none⟩ = some (.int .u16 b0) ∧ w'.cell? ⟨w.heap.size + 1, 1, none⟩ = some (.int .u32 a1) ∧ w'.cell? ⟨w.heap.size + 1, 2, none⟩ = some (.int .u32 b2) ∧ w'.cell? ⟨w.heap.size + 2, 0, none⟩ = some (.int .u16 c0) ∧ w'.cell? ⟨w.heap.size + 2, 1, none⟩ = some (.int .u32 c1) ∧ w'.cell? ⟨w.heap.size + 2, 2, none⟩ = some (.int .u32 c2) ∧ Below w.heap.size w w') (by kernel_rfl) ?_ (fun hHeld => ?_)
  · exact D3
  refine' wpAnyH_take (i := 0) ?hi0 ?hs0 ?hf0 ?hr0 ?hQ0 ?hy0 ?hS0 ?rest0
  case hi0 =>
    simp only [List.getElem?_toArray, List.getElem?_cons_succ, List.getElem?_cons_zero]
    all_goals rfl
  case hs0 => kernel_rfl
  case hf0 => kernel_rfl
  case hr0 => kernel_rfl
  case hQ0 => exact fun _ _ _ h => h
  case hS0 => assumption
  case hy0 =>
    refine Or.inl ⟨by rfl, ?_⟩
    intro w hSw
    try dsimp only at hSw
    go_simp
    all_goals with_reducible rfl
  try simp only [Act.put, List.setIfInBounds_toArray, List.set_cons_zero, List.set_cons_succ]
  refine' wpAnyH_take (i := 1) ?hi1 ?hs1 ?hf1 ?hr1 ?hQ1 ?hy1 ?hS1 ?rest1
  case hi1 =>
    simp only [List.getElem?_toArray, List.getElem?_cons_succ, List.getElem?_cons_zero]
    all_goals rfl
  case hs1 => kernel_rfl
  case hf1 => kernel_rfl
  case hr1 => kernel_rfl
  case hQ1 => exact fun _ _ _ h => h
  case hS1 => assumption
  case hy1 =>
    refine Or.inl ⟨by rfl, ?_⟩
    intro w hSw
    try dsimp only at hSw
    go_simp
    all_goals with_reducible rfl
  try simp only [Act.put, List.setIfInBounds_toArray, List.set_cons_zero, List.set_cons_succ]
  refine' wpAnyH_take (i := 2) ?hi2 ?hs2 ?hf2 ?hr2 ?hQ2 ?hy2 ?hS2 ?rest2
  case hi2 =>
    simp only [List.getElem?_toArray, List.getElem?_cons_succ, List.getElem?_cons_zero]
    all_goals rfl
  case hs2 => kernel_rfl
  case hf2 => kernel_rfl
  case hr2 => kernel_rfl
  case hQ2 => exact fun _ _ _ h => h
  case hS2 => assumption
  case hy2 =>
    refine Or.inl ⟨by rfl, ?_⟩
    intro w hSw
    try dsimp only at hSw
    go_simp
    all_goals with_reducible rfl
  try simp only [Act.put, List.setIfInBounds_toArray, List.set_cons_zero, List.set_cons_succ]
  refine wpAnyH_ready (rs := [3]) (by kernel_rfl) (by simp) ?_
  refine AllReadyH.cons rfl (fun K hK => ?_) AllReadyH.nil
  go_simp
  refine (rnewer_any ⟨a0, a1, a2⟩ ⟨b0, a1, b2⟩ _).mono ?_
  rintro e w4 ⟨rfl, hb4⟩
  rw [HX.out]
  have K4 := K3.drew.below hb4
  try go_wp2_with fail
  refine hK.out _ _ ?_ (fun hHeld => ?_)
  · exact K4.cells
  clear hK K
  try simp only [Act.put, List.setIfInBounds_toArray, List.set_cons_zero, List.set_cons_succ]
  refine' wpAnyH_take (i := 4) ?hi4 ?hs4 ?hf4 ?hr4 ?hQ4 ?hy4 ?hS4 ?rest4
  case hi4 =>
    simp only [List.getElem?_toArray, List.getElem?_cons_succ, List.getElem?_cons_zero]
    all_goals rfl
  case hs4 => kernel_rfl
  case hf4 => kernel_rfl
  case hr4 => kernel_rfl
  case hQ4 => exact fun _ _ _ h => h
  case hS4 => assumption
  case hy4 =>
    refine Or.inl ⟨by rfl, ?_⟩
    intro w hSw
    try dsimp only at hSw
    go_simp
    all_goals with_reducible rfl
  try simp only [Act.put, List.setIfInBounds_toArray, List.set_cons_zero, List.set_cons_succ]
  refine' wpAnyH_take (i := 5) ?hi5 ?hs5 ?hf5 ?hr5 ?hQ5 ?hy5 ?hS5 ?rest5
  case hi5 =>
    simp only [List.getElem?_toArray, List.getElem?_cons_succ, List.getElem?_cons_zero]
    all_goals rfl
  case hs5 => kernel_rfl
  case hf5 => kernel_rfl
  case hr5 => kernel_rfl
  case hQ5 => exact fun _ _ _ h => h
  case hS5 => assumption
  case hy5 =>
    refine Or.inl ⟨by rfl, ?_⟩
    intro w hSw
    try dsimp only at hSw
    go_simp
    all_goals with_reducible rfl
  try simp only [Act.put, List.setIfInBounds_toArray, List.set_cons_zero, List.set_cons_succ]
  refine' wpAnyH_take (i := 6) ?hi6 ?hs6 ?hf6 ?hr6 ?hQ6 ?hy6 ?hS6 ?rest6
  case hi6 =>
    simp only [List.getElem?_toArray, List.getElem?_cons_succ, List.getElem?_cons_zero]
    all_goals rfl
  case hs6 => kernel_rfl
  case hf6 => kernel_rfl
  case hr6 => kernel_rfl
  case hQ6 => exact fun _ _ _ h => h
  case hS6 => assumption
  case hy6 =>
    refine Or.inl ⟨by rfl, ?_⟩
    intro w hSw
    try dsimp only at hSw
    go_simp
    all_goals with_reducible rfl
  try simp only [Act.put, List.setIfInBounds_toArray, List.set_cons_zero, List.set_cons_succ]
  refine' wpAnyH_take (i := 7) ?hi7 ?hs7 ?hf7 ?hr7 ?hQ7 ?hy7 ?hS7 ?rest7
  case hi7 =>
    simp only [List.getElem?_toArray, List.getElem?_cons_succ, List.getElem?_cons_zero]
    all_goals rfl
  case hs7 => kernel_rfl
  case hf7 => kernel_rfl
  case hr7 => kernel_rfl
  case hQ7 => exact fun _ _ _ h => h
  case hS7 => assumption
  case hy7 =>
    refine Or.inl ⟨by rfl, ?_⟩
    intro w hSw
    try dsimp only at hSw
    go_simp
    all_goals with_reducible rfl
  try simp only [Act.put, List.setIfInBounds_toArray, List.set_cons_zero, List.set_cons_succ]
  refine' wpAnyH_take (i := 8) ?hi8 ?hs8 ?hf8 ?hr8 ?hQ8 ?hy8 ?hS8 ?rest8
  case hi8 =>
    simp only [List.getElem?_toArray, List.getElem?_cons_succ, List.getElem?_cons_zero]
    all_goals rfl
  case hs8 => kernel_rfl
  case hf8 => kernel_rfl
  case hr8 => kernel_rfl
  case hQ8 => exact fun _ _ _ h => h
  case hS8 => assumption
  case hy8 => exact Or.inr ⟨by rfl, rfl⟩
  try simp only [Act.put, List.setIfInBounds_toArray, List.set_cons_zero, List.set_cons_succ]
  refine' wpAnyH_take (i := 9) ?hi9 ?hs9 ?hf9 ?hr9 ?hQ9 ?hy9 ?hS9 ?rest9
  case hi9 =>
    simp only [List.getElem?_toArray, List.getElem?_cons_succ, List.getElem?_cons_zero]
    all_goals rfl
  case hs9 => kernel_rfl
  case hf9 => kernel_rfl
  case hr9 => kernel_rfl
  case hQ9 => exact fun _ _ _ h => h
  case hS9 => assumption
  case hy9 => exact Or.inr ⟨by rfl, rfl⟩
  try simp only [Act.put, List.setIfInBounds_toArray, List.set_cons_zero, List.set_cons_succ]
  refine' wpAnyH_take (i := 10) ?hi10 ?hs10 ?hf10 ?hr10 ?hQ10 ?hy10 ?hS10 ?rest10
  case hi10 =>
    simp only [List.getElem?_toArray, List.getElem?_cons_succ, List.getElem?_cons_zero]
    all_goals rfl
  case hs10 => kernel_rfl
  case hf10 => kernel_rfl
  case hr10 => kernel_rfl
  case hQ10 => exact fun _ _ _ h => h
  case hS10 => assumption
  case hy10 => exact Or.inr ⟨by rfl, rfl⟩
  try simp only [Act.put, List.setIfInBounds_toArray, List.set_cons_zero, List.set_cons_succ]
  refine' wpAnyH_take (i := 11) ?hi11 ?hs11 ?hf11 ?hr11 ?hQ11 ?hy11 ?hS11 ?rest11
  case hi11 =>
    simp only [List.getElem?_toArray, List.getElem?_cons_succ, List.getElem?_cons_zero]
    all_goals rfl
  case hs11 => kernel_rfl
  case hf11 => kernel_rfl
  case hr11 => kernel_rfl
  case hQ11 => exact fun _ _ _ h => h
  case hS11 => assumption
  case hy11 =>
    refine Or.inl ⟨by rfl, ?_⟩
    intro w hSw
    try dsimp only at hSw
    go_simp
    all_goals with_reducible rfl
  try simp only [Act.put, List.setIfInBounds_toArray, List.set_cons_zero, List.set_cons_succ]
  refine' wpAnyH_take (i := 12) ?hi12 ?hs12 ?hf12 ?hr12 ?hQ12 ?hy12 ?hS12 ?rest12
  case hi12 =>
    simp only [List.getElem?_toArray, List.getElem?_cons_succ, List.getElem?_cons_zero]
    all_goals rfl
  case hs12 => kernel_rfl
  case hf12 => kernel_rfl
  case hr12 => kernel_rfl
  case hQ12 => exact fun _ _ _ h => h
  case hS12 => assumption
  case hy12 =>
    refine Or.inl ⟨by rfl, ?_⟩
    intro w hSw
    try dsimp only at hSw
    go_simp
    all_goals with_reducible rfl
  try simp only [Act.put, List.setIfInBounds_toArray, List.set_cons_zero, List.set_cons_succ]
  refine' wpAnyH_take (i := 13) ?hi13 ?hs13 ?hf13 ?hr13 ?hQ13 ?hy13 ?hS13 ?rest13
  case hi13 =>
    simp only [List.getElem?_toArray, List.getElem?_cons_succ, List.getElem?_cons_zero]
    all_goals rfl
  case hs13 => kernel_rfl
  case hf13 => kernel_rfl
  case hr13 => kernel_rfl
  case hQ13 => exact fun _ _ _ h => h
  case hS13 => assumption
  case hy13 =>
    refine Or.inl ⟨by rfl, ?_⟩
    intro w hSw
    try dsimp only at hSw
    go_simp
    all_goals with_reducible rfl
  try simp only [Act.put, List.setIfInBounds_toArray, List.set_cons_zero, List.set_cons_succ]
  refine' wpAnyH_take (i := 14) ?hi14 ?hs14 ?hf14 ?hr14 ?hQ14 ?hy14 ?hS14 ?rest14
  case hi14 =>
    simp only [List.getElem?_toArray, List.getElem?_cons_succ, List.getElem?_cons_zero]
    all_goals rfl
  case hs14 => kernel_rfl
  case hf14 => kernel_rfl
  case hr14 => kernel_rfl
  case hQ14 => exact fun _ _ _ h => h
  case hS14 => assumption
  case hy14 =>
    refine Or.inl ⟨by rfl, ?_⟩
    intro w hSw
    try dsimp only at hSw
    go_simp
    all_goals with_reducible rfl
  try simp only [Act.put, List.setIfInBounds_toArray, List.set_cons_zero, List.set_cons_succ]
  refine' wpAnyH_take (i := 15) ?hi15 ?hs15 ?hf15 ?hr15 ?hQ15 ?hy15 ?hS15 ?rest15
  case hi15 =>
    simp only [List.getElem?_toArray, List.getElem?_cons_succ, List.getElem?_cons_zero]
    all_goals rfl
  case hs15 => kernel_rfl
  case hf15 => kernel_rfl
  case hr15 => kernel_rfl
  case hQ15 => exact fun _ _ _ h => h
  case hS15 => assumption
  case hy15 =>
    refine Or.inl ⟨by rfl, ?_⟩
    intro w hSw
    try dsimp only at hSw
    go_simp
    all_goals with_reducible rfl
  try simp only [Act.put, List.setIfInBounds_toArray, List.set_cons_zero, List.set_cons_succ]
  refine' wpAnyH_take (i := 16) ?hi16 ?hs16 ?hf16 ?hr16 ?hQ16 ?hy16 ?hS16 ?rest16
  case hi16 =>
    simp only [List.getElem?_toArray, List.getElem?_cons_succ, List.getElem?_cons_zero]
    all_goals rfl
  case hs16 => kernel_rfl
  case hf16 => kernel_rfl
  case hr16 => kernel_rfl
  case hQ16 => exact fun _ _ _ h => h
  case hS16 => assumption
  case hy16 =>
    refine Or.inl ⟨by rfl, ?_⟩
    intro w hSw
    try dsimp only at hSw
    go_simp
    all_goals with_reducible rfl
  try simp only [Act.put, List.setIfInBounds_toArray, List.set_cons_zero, List.set_cons_succ]
  refine' wpAnyH_take (i := 17) ?hi17 ?hs17 ?hf17 ?hr17 ?hQ17 ?hy17 ?hS17 ?rest17
  case hi17 =>
    simp only [List.getElem?_toArray, List.getElem?_cons_succ, List.getElem?_cons_zero]
    all_goals rfl
  case hs17 => kernel_rfl
  case hf17 => kernel_rfl
  case hr17 => kernel_rfl
  case hQ17 => exact fun _ _ _ h => h
  case hS17 => assumption
  case hy17 =>
    refine Or.inl ⟨by rfl, ?_⟩
    intro w hSw
    try dsimp only at hSw
    go_simp
    all_goals with_reducible rfl
  try simp only [Act.put, List.setIfInBounds_toArray, List.set_cons_zero, List.set_cons_succ]
  refine' wpAnyH_take (i := 18) ?hi18 ?hs18 ?hf18 ?hr18 ?hQ18 ?hy18 ?hS18 ?rest18
  case hi18 =>
    simp only [List.getElem?_toArray, List.getElem?_cons_succ, List.getElem?_cons_zero]
    all_goals rfl
  case hs18 => kernel_rfl
  case hf18 => kernel_rfl
  case hr18 => kernel_rfl
  case hQ18 => exact fun _ _ _ h => h
  case hS18 => assumption
  case hy18 =>
    refine Or.inl ⟨by rfl, ?_⟩
    intro w hSw
    try dsimp only at hSw
    go_simp
    all_goals with_reducible rfl
  try simp only [Act.put, List.setIfInBounds_toArray, List.set_cons_zero, List.set_cons_succ]
  refine' wpAnyH_take (i := 19) ?hi19 ?hs19 ?hf19 ?hr19 ?hQ19 ?hy19 ?hS19 ?rest19
  case hi19 =>
    simp only [List.getElem?_toArray, List.getElem?_cons_succ, List.getElem?_cons_zero]
    all_goals rfl
  case hs19 => kernel_rfl
  case hf19 => kernel_rfl
  case hr19 => kernel_rfl
  case hQ19 => exact fun _ _ _ h => h
  case hS19 => assumption
  case hy19 =>
    refine Or.inl ⟨by rfl, ?_⟩
    intro w hSw
    try dsimp only at hSw
    go_simp
    all_goals with_reducible rfl
  try simp only [Act.put, List.setIfInBounds_toArray, List.set_cons_zero, List.set_cons_succ]
  refine' wpAnyH_take (i := 20) ?hi20 ?hs20 ?hf20 ?hr20 ?hQ20 ?hy20 ?hS20 ?rest20
  case hi20 =>
    simp only [List.getElem?_toArray, List.getElem?_cons_succ, List.getElem?_cons_zero]
    all_goals rfl
  case hs20 => kernel_rfl
  case hf20 => kernel_rfl
  case hr20 => kernel_rfl
  case hQ20 => exact fun _ _ _ h => h
  case hS20 => assumption
  case hy20 =>
    refine Or.inl ⟨by rfl, ?_⟩
    intro w hSw
    try dsimp only at hSw
    go_simp
    all_goals with_reducible rfl
  try simp only [Act.put, List.setIfInBounds_toArray, List.set_cons_zero, List.set_cons_succ]
  refine' wpAnyH_take (i := 21) ?hi21 ?hs21 ?hf21 ?hr21 ?hQ21 ?hy21 ?hS21 ?rest21
  case hi21 =>
    simp only [List.getElem?_toArray, List.getElem?_cons_succ, List.getElem?_cons_zero]
    all_goals rfl
  case hs21 => kernel_rfl
  case hf21 => kernel_rfl
  case hr21 => kernel_rfl
  case hQ21 => exact fun _ _ _ h => h
  case hS21 => assumption
  case hy21 =>
    refine Or.inl ⟨by rfl, ?_⟩
    intro w hSw
    try dsimp only at hSw
    go_simp
    all_goals with_reducible rfl
  try simp only [Act.put, List.setIfInBounds_toArray, List.set_cons_zero, List.set_cons_succ]
  refine' wpAnyH_take (i := 22) ?hi22 ?hs22 ?hf22 ?hr22 ?hQ22 ?hy22 ?hS22 ?rest22
  case hi22 =>
    simp only [List.getElem?_toArray, List.getElem?_cons_succ, List.getElem?_cons_zero]
    all_goals rfl
  case hs22 => kernel_rfl
  case hf22 => kernel_rfl
  case hr22 => kernel_rfl
  case hQ22 => exact fun _ _ _ h => h
  case hS22 => assumption
  case hy22 =>
    refine Or.inl ⟨by rfl, ?_⟩
    intro w hSw
    try dsimp only at hSw
    go_simp
    all_goals with_reducible rfl
  try simp only [Act.put, List.setIfInBounds_toArray, List.set_cons_zero, List.set_cons_succ]
  refine' wpAnyH_take (i := 23) ?hi23 ?hs23 ?hf23 ?hr23 ?hQ23 ?hy23 ?hS23 ?rest23
  case hi23 =>
    simp only [List.getElem?_toArray, List.getElem?_cons_succ, List.getElem?_cons_zero]
    all_goals rfl
  case hs23 => kernel_rfl
  case hf23 => kernel_rfl
  case hr23 => kernel_rfl
  case hQ23 => exact fun _ _ _ h => h
  case hS23 => assumption
  case hy23 =>
    refine Or.inl ⟨by rfl, ?_⟩
    intro w hSw
    try dsimp only at hSw
    go_simp
    all_goals with_reducible rfl
  try simp only [Act.put, List.setIfInBounds_toArray, List.set_cons_zero, List.set_cons_succ]
  refine' wpAnyH_take (i := 24) ?hi24 ?hs24 ?hf24 ?hr24 ?hQ24 ?hy24 ?hS24 ?rest24
  case hi24 =>
    simp only [List.getElem?_toArray, List.getElem?_cons_succ, List.getElem?_cons_zero]
    all_goals rfl
  case hs24 => kernel_rfl
  case hf24 => kernel_rfl
  case hr24 => kernel_rfl
  case hQ24 => exact fun _ _ _ h => h
  case hS24 => assumption
  case hy24 =>
    refine Or.inl ⟨by rfl, ?_⟩
    intro w hSw
    try dsimp only at hSw
    go_simp
    all_goals with_reducible rfl
  try simp only [Act.put, List.setIfInBounds_toArray, List.set_cons_zero, List.set_cons_succ]
  refine' wpAnyH_take (i := 25) ?hi25 ?hs25 ?hf25 ?hr25 ?hQ25 ?hy25 ?hS25 ?rest25
  case hi25 =>
    simp only [List.getElem?_toArray, List.getElem?_cons_succ, List.getElem?_cons_zero]
    all_goals rfl
  case hs25 => kernel_rfl
  case hf25 => kernel_rfl
  case hr25 => kernel_rfl
  case hQ25 => exact fun _ _ _ h => h
  case hS25 => assumption
  case hy25 =>
    refine Or.inl ⟨by rfl, ?_⟩
    intro w hSw
    try dsimp only at hSw
    go_simp
    all_goals with_reducible rfl
  try simp only [Act.put, List.setIfInBounds_toArray, List.set_cons_zero, List.set_cons_succ]
  refine' wpAnyH_take (i := 26) ?hi26 ?hs26 ?hf26 ?hr26 ?hQ26 ?hy26 ?hS26 ?rest26
  case hi26 =>
    simp only [List.getElem?_toArray, List.getElem?_cons_succ, List.getElem?_cons_zero]
    all_goals rfl
  case hs26 => kernel_rfl
  case hf26 => kernel_rfl
  case hr26 => kernel_rfl
  case hQ26 => exact fun _ _ _ h => h
  case hS26 => assumption
  case hy26 =>
    refine Or.inl ⟨by rfl, ?_⟩
    intro w hSw
    try dsimp only at hSw
    go_simp
    all_goals with_reducible rfl
  try simp only [Act.put, List.setIfInBounds_toArray, List.set_cons_zero, List.set_cons_succ]
  refine' wpAnyH_take (i := 27) ?hi27 ?hs27 ?hf27 ?hr27 ?hQ27 ?hy27 ?hS27 ?rest27
  case hi27 =>
    simp only [List.getElem?_toArray, List.getElem?_cons_succ, List.getElem?_cons_zero]
    all_goals rfl
  case hs27 => kernel_rfl
  case hf27 => kernel_rfl
  case hr27 => kernel_rfl
  case hQ27 => exact fun _ _ _ h => h
  case hS27 => assumption
  case hy27 =>
    refine Or.inl ⟨by rfl, ?_⟩
    intro w hSw
    try dsimp only at hSw
    go_simp
    all_goals with_reducible rfl
  try simp only [Act.put, List.setIfInBounds_toArray, List.set_cons_zero, List.set_cons_succ]
  refine' wpAnyH_take (i := 28) ?hi28 ?hs28 ?hf28 ?hr28 ?hQ28 ?hy28 ?hS28 ?rest28
  case hi28 =>
    simp only [List.getElem?_toArray, List.getElem?_cons_succ, List.getElem?_cons_zero]
    all_goals rfl
  case hs28 => kernel_rfl
  case hf28 => kernel_rfl
  case hr28 => kernel_rfl
  case hQ28 => exact fun _ _ _ h => h
  case hS28 => assumption
  case hy28 =>
    refine Or.inl ⟨by rfl, ?_⟩
    intro w hSw
    try dsimp only at hSw
    go_simp
    all_goals with_reducible rfl
  try simp only [Act.put, List.setIfInBounds_toArray, List.set_cons_zero, List.set_cons_succ]
  refine' wpAnyH_take (i := 29) ?hi29 ?hs29 ?hf29 ?hr29 ?hQ29 ?hy29 ?hS29 ?rest29
  case hi29 =>
    simp only [List.getElem?_toArray, List.getElem?_cons_succ, List.getElem?_cons_zero]
    all_goals rfl
  case hs29 => kernel_rfl
  case hf29 => kernel_rfl
  case hr29 => kernel_rfl
  case hQ29 => exact fun _ _ _ h => h
  case hS29 => assumption
  case hy29 =>
    refine Or.inl ⟨by rfl, ?_⟩
    intro w hSw
    try dsimp only at hSw
    go_simp
    all_goals with_reducible rfl
  try simp only [Act.put, List.setIfInBounds_toArray, List.set_cons_zero, List.set_cons_succ]
  refine wpAnyH_ready (rs := [30]) (by kernel_rfl) (by simp) ?_
  refine AllReadyH.cons rfl (fun K hK => ?_) AllReadyH.nil
  go_simp
  refine (newer_any ⟨b0, a1, b2⟩ ⟨a0, a1, a2⟩ _).mono ?_
  rintro e w5 ⟨rfl, hb5⟩
  rw [HV.out]
  have K5 := K4.below hb5
  try go_wp2_with fail
  refine hK.out _ _ ?_ (fun hHeld => ?_)
  · exact K5.cells
  clear hK K
  try simp only [Act.put, List.setIfInBounds_toArray, List.set_cons_zero, List.set_cons_succ]
  refine' wpAnyH_take (i := 31) ?hi31 ?hs31 ?hf31 ?hr31 ?hQ31 ?hy31 ?hS31 ?rest31
  case hi31 =>
    simp only [List.getElem?_toArray, List.getElem?_cons_succ, List.getElem?_cons_zero]
    all_goals rfl
  case hs31 => kernel_rfl
  case hf31 => kernel_rfl
  case hr31 => kernel_rfl
  case hQ31 => exact fun _ _ _ h => h
  case hS31 => assumption
  case hy31 =>
    refine Or.inl ⟨by rfl, ?_⟩
    intro w hSw
    try dsimp only at hSw
    go_simp
    all_goals with_reducible rfl
  try simp only [Act.put, List.setIfInBounds_toArray, List.set_cons_zero, List.set_cons_succ]
  refine' wpAnyH_take (i := 32) ?hi32 ?hs32 ?hf32 ?hr32 ?hQ32 ?hy32 ?hS32 ?rest32
  case hi32 =>
    simp only [List.getElem?_toArray, List.getElem?_cons_succ, List.getElem?_cons_zero]
    all_goals rfl
  case hs32 => kernel_rfl
  case hf32 => kernel_rfl
  case hr32 => kernel_rfl
  case hQ32 => exact fun _ _ _ h => h
  case hS32 => assumption
  case hy32 =>
    refine Or.inl ⟨by rfl, ?_⟩
    intro w hSw
    try dsimp only at hSw
    go_simp
    all_goals with_reducible rfl
  try simp only [Act.put, List.setIfInBounds_toArray, List.set_cons_zero, List.set_cons_succ]
  refine' wpAnyH_take (i := 33) ?hi33 ?hs33 ?hf33 ?hr33 ?hQ33 ?hy33 ?hS33 ?rest33
  case hi33 =>
    simp only [List.getElem?_toArray, List.getElem?_cons_succ, List.getElem?_cons_zero]
    all_goals rfl
  case hs33 => kernel_rfl
  case hf33 => kernel_rfl
  case hr33 => kernel_rfl
  case hQ33 => exact fun _ _ _ h => h
  case hS33 => assumption
  case hy33 =>
    refine Or.inl ⟨by rfl, ?_⟩
    intro w hSw
    try dsimp only at hSw
    go_simp
    all_goals with_reducible rfl
  try simp only [Act.put, List.setIfInBounds_toArray, List.set_cons_zero, List.set_cons_succ]
  refine wpAnyH_done (by kernel_rfl) ?_ _
  go_wp2_with fail
  refine (lives_any _).mono ?_
  rintro e w6 ⟨rfl, hb6⟩
  have K6 := K5.below hb6
  clear hXYZ
  go_wp2
  go_ret
  exact ⟨rfl, K6.2.2.2⟩
set_option maxHeartbeats 2000000 in
theorem orders_5 (a b c : Msg) (w : World) (h1 : a.i = b.i) (h2 : a.q = b.q) (hX : newer a b = false) (hV : newer b a = false) :
    Calls Try.prog 5 #[.agg #[.int .u16 a.s, .int .u32 a.i, .int .u32 a.q], .agg #[.int .u16 b.s, .int .u32 b.i, .int .u32 b.q], .agg #[.int .u16 c.s, .int .u32 c.i, .int .u32 c.q]] w fun e w' => e = .returned (.bool true) ∧ Below w.heap.size w w' := by
  have K0 : Box3 w (((w.alloc (.cells #[.int .u16 a.s, .int .u32 a.i, .int .u32 a.q] 26)).alloc (.cells #[.int .u16 b.s, .int .u32 b.i, .int .u32 b.q] 26)).alloc (.cells #[.int .u16 c.s, .int .u32 c.i, .int .u32 c.q] 26)) a b c := ⟨((Blk.new _ _ _).alloc _).alloc _, (blk_new2 (by simp)).alloc _, blk_new2 (by simp), (((Below.refl _ _).alloc (Nat.le_refl _) _).alloc (by simp) _).alloc (by simp; omega) _⟩
  have HT := newer_trans a b c
  rw [hX] at HT
  obtain ⟨Y, hY⟩ : ∃ Y, Y = newer b c := ⟨_, rfl⟩
  obtain ⟨Z, hZ⟩ : ∃ Z, Z = newer a c := ⟨_, rfl⟩
  rw [← hY, ← hZ] at HT
  have HY := hide hY
  have HZ := hide hZ
  have HX := hide hX
  have HV := hide hV
  clear hY hZ hX hV
  have hXYZ : False → Y = false ∨ (Y = true ∧ Z = true) := by
    intro hx
    cases Y
    · exact .inl rfl
    · exact .inr ⟨rfl, HT hx.elim rfl⟩
  clear HT
  obtain ⟨a0, a1, a2⟩ := a
  obtain ⟨b0, b1, b2⟩ := b
  obtain ⟨c0, c1, c2⟩ := c
  simp only at h1 h2
  subst h1
  subst h2
  have F0 := K0.cells
  have D0 := K0.drew.cells
  simp only at F0 D0
  go_enter Try.func5, Try.ntmps5
  go_wp2_with fail
  go_region_held3 (fun w' => w'.cell? ⟨w.heap.size, 0, none⟩ = some (.int .u16 a0) ∧ w'.cell? ⟨w.heap.size, 1, none⟩ = some (.int .u32 a1) ∧ w'.cell? ⟨w.heap.size, 2, none⟩ = some (.int .u32 a2) ∧ w'.cell? ⟨w.heap.size + 1, 0, none⟩ = some (.int .u16 b0) ∧ w'.cell? ⟨w.heap.size + 1, 1, none⟩ = some (.int .u32 a1) ∧ w'.cell? ⟨w.heap.size + 1, 2, none⟩ = some (.int .u32 a2) ∧ w'.cell? ⟨w.heap.size + 2, 0, none⟩ = some (.int .u16 c0) ∧ w'.cell? ⟨w.heap.size + 2, 1, none⟩ = some (.int .u32 c1) ∧ w'.cell? ⟨w.heap.size + 2, 2, none⟩ = some (.int .u32 c2) ∧ Below w.heap.size w w') (first | assumption | exact F0 | exact D0 | exact F1 | exact F2 | exact F3) (first
    | (go_at_call 14; (with_reducible refine (newer_any ⟨a0, a1, a2⟩ ⟨b0, a1, a2⟩ _).mono ?_); rintro e w1 ⟨rfl, hb1⟩; rw [HX.out]; have K1 := K0.drew.below hb1; have F1 := K1.cells)
    | (go_at_call 14; (with_reducible refine (newer_any ⟨b0, a1, a2⟩ ⟨c0, c1, c2⟩ _).mono ?_); rintro e w2 ⟨rfl, hb2⟩; rw [← HY.out]; have K2 := K1.below hb2; have F2 := K2.cells)
    | (go_at_call 14; (with_reducible refine (newer_any ⟨a0, a1, a2⟩ ⟨c0, c1, c2⟩ _).mono ?_); rintro e w3 ⟨rfl, hb3⟩; rw [← HZ.out]; have K3 := K2.below hb3; have F3 := K3.cells))
  have D3 := K3.drew.cells
  simp only at D3
  clear F0 D0 F1 F2 F3 K0 K1 K2 hb1 hb2 hb3 w1 w2
  go_wp2_with fail
  refine wp_region_held_drew (S := fun w' => w'.cell? ⟨w.heap.size, 0, none⟩ = some (.int .u16 a0) ∧ w'.cell? ⟨w.heap.size, 1, none⟩ = some (.int .u32 a1) ∧ w'.cell? ⟨w.heap.size, 2, none⟩ = some (.int .u32 a2) ∧ w'.cell? ⟨w.heap.size + 1, 0, none⟩ = some (.int .u16 b0) ∧ w'.cell? ⟨w.heap.size + 1, 1, none⟩ = some (.int .u32 a1) ∧ w'.cell? ⟨w.heap.size + 1, 2, none⟩ = some (.int .u32 a2) ∧ w'.cell? ⟨w.heap.size + 2, 0, none⟩ = some (.int .u16 c0) ∧ w'.cell? ⟨w.heap.size + 2, 1, none⟩ = some (.int .u32 c1) ∧ w'.cell? ⟨w.heap.size + 2, 2, none⟩ = some (.int .u32 c2) ∧ Below w.heap.size w w') (by kernel_rfl) ?_ (fun hHeld => ?_)
  · exact D3
  refine' wpAnyH_take (i := 0) ?hi0 ?hs0 ?hf0 ?hr0 ?hQ0 ?hy0 ?hS0 ?rest0
  case hi0 =>
    simp only [List.getElem?_toArray, List.getElem?_cons_succ, List.getElem?_cons_zero]
    all_goals rfl
  case hs0 => kernel_rfl
  case hf0 => kernel_rfl
  case hr0 => kernel_rfl
  case hQ0 => exact fun _ _ _ h => h
  case hS0 => assumption
  case hy0 =>
    refine Or.inl ⟨by rfl, ?_⟩
    intro w hSw
    try dsimp only at hSw
    go_simp
    all_goals with_reducible rfl
  try simp only [Act.put, List.setIfInBounds_toArray, List.set_cons_zero, List.set_cons_succ]
  refine' wpAnyH_take (i := 1) ?hi1 ?hs1 ?hf1 ?hr1 ?hQ1 ?hy1 ?hS1 ?rest1
  case hi1 =>
    simp only [List.getElem?_toArray, List.getElem?_cons_succ, List.getElem?_cons_zero]
    all_goals rfl
  case hs1 => kernel_rfl
  case hf1 => kernel_rfl
  case hr1 => kernel_rfl
  case hQ1 => exact fun _ _ _ h => h
  case hS1 => assumption
  case hy1 =>
    refine Or.inl ⟨by rfl, ?_⟩
    intro w hSw
    try dsimp only at hSw
    go_simp
    all_goals with_reducible rfl
  try simp only [Act.put, List.setIfInBounds_toArray, List.set_cons_zero, List.set_cons_succ]
  refine' wpAnyH_take (i := 2) ?hi2 ?hs2 ?hf2 ?hr2 ?hQ2 ?hy2 ?hS2 ?rest2
  case hi2 =>
    simp only [List.getElem?_toArray, List.getElem?_cons_succ, List.getElem?_cons_zero]
    all_goals rfl
  case hs2 => kernel_rfl
  case hf2 => kernel_rfl
  case hr2 => kernel_rfl
  case hQ2 => exact fun _ _ _ h => h
  case hS2 => assumption
  case hy2 =>
    refine Or.inl ⟨by rfl, ?_⟩
    intro w hSw
    try dsimp only at hSw
    go_simp
    all_goals with_reducible rfl
  try simp only [Act.put, List.setIfInBounds_toArray, List.set_cons_zero, List.set_cons_succ]
  refine wpAnyH_ready (rs := [3]) (by kernel_rfl) (by simp) ?_
  refine AllReadyH.cons rfl (fun K hK => ?_) AllReadyH.nil
  go_simp
  refine (rnewer_any ⟨a0, a1, a2⟩ ⟨b0, a1, a2⟩ _).mono ?_
  rintro e w4 ⟨rfl, hb4⟩
  rw [HX.out]
  have K4 := K3.drew.below hb4
  try go_wp2_with fail
  refine hK.out _ _ ?_ (fun hHeld => ?_)
  · exact K4.cells
  clear hK K
  try simp only [Act.put, List.setIfInBounds_toArray, List.set_cons_zero, List.set_cons_succ]
  refine' wpAnyH_take (i := 4) ?hi4 ?hs4 ?hf4 ?hr4 ?hQ4 ?hy4 ?hS4 ?rest4
  case hi4 =>
    simp only [List.getElem?_toArray, List.getElem?_cons_succ, List.getElem?_cons_zero]
    all_goals rfl
  case hs4 => kernel_rfl
  case hf4 => kernel_rfl
  case hr4 => kernel_rfl
  case hQ4 => exact fun _ _ _ h => h
  case hS4 => assumption
  case hy4 =>
    refine Or.inl ⟨by rfl, ?_⟩
    intro w hSw
    try dsimp only at hSw
    go_simp
    all_goals with_reducible rfl
  try simp only [Act.put, List.setIfInBounds_toArray, List.set_cons_zero, List.set_cons_succ]
  refine' wpAnyH_take (i := 5) ?hi5 ?hs5 ?hf5 ?hr5 ?hQ5 ?hy5 ?hS5 ?rest5
  case hi5 =>
    simp only [List.getElem?_toArray, List.getElem?_cons_succ, List.getElem?_cons_zero]
    all_goals rfl
  case hs5 => kernel_rfl
  case hf5 => kernel_rfl
  case hr5 => kernel_rfl
  case hQ5 => exact fun _ _ _ h => h
  case hS5 => assumption
  case hy5 =>
    refine Or.inl ⟨by rfl, ?_⟩
    intro w hSw
    try dsimp only at hSw
    go_simp
    all_goals with_reducible rfl
  try simp only [Act.put, List.setIfInBounds_toArray, List.set_cons_zero, List.set_cons_succ]
  refine' wpAnyH_take (i := 6) ?hi6 ?hs6 ?hf6 ?hr6 ?hQ6 ?hy6 ?hS6 ?rest6
  case hi6 =>
    simp only [List.getElem?_toArray, List.getElem?_cons_succ, List.getElem?_cons_zero]
    all_goals rfl
  case hs6 => kernel_rfl
  case hf6 => kernel_rfl
  case hr6 => kernel_rfl
  case hQ6 => exact fun _ _ _ h => h
  case hS6 => assumption
  case hy6 =>
    refine Or.inl ⟨by rfl, ?_⟩
    intro w hSw
    try dsimp only at hSw
    go_simp
    all_goals with_reducible rfl
  try simp only [Act.put, List.setIfInBounds_toArray, List.set_cons_zero, List.set_cons_succ]
  refine' wpAnyH_take (i := 7) ?hi7 ?hs7 ?hf7 ?hr7 ?hQ7 ?hy7 ?hS7 ?rest7
  case hi7 =>
    simp only [List.getElem?_toArray, List.getElem?_cons_succ, List.getElem?_cons_zero]
    all_goals rfl
  case hs7 => kernel_rfl
  case hf7 => kernel_rfl
  case hr7 => kernel_rfl
  case hQ7 => exact fun _ _ _ h => h
  case hS7 => assumption
  case hy7 =>
    refine Or.inl ⟨by rfl, ?_⟩
    intro w hSw
    try dsimp only at hSw
    go_simp
    all_goals with_reducible rfl
  try simp only [Act.put, List.setIfInBounds_toArray, List.set_cons_zero, List.set_cons_succ]
  refine' wpAnyH_take (i := 8) ?hi8 ?hs8 ?hf8 ?hr8 ?hQ8 ?hy8 ?hS8 ?rest8
  case hi8 =>
    simp only [List.getElem?_toArray, List.getElem?_cons_succ, List.getElem?_cons_zero]
    all_goals rfl
  case hs8 => kernel_rfl
  case hf8 => kernel_rfl
  case hr8 => kernel_rfl
  case hQ8 => exact fun _ _ _ h => h
  case hS8 => assumption
  case hy8 => exact Or.inr ⟨by rfl, rfl⟩
  try simp only [Act.put, List.setIfInBounds_toArray, List.set_cons_zero, List.set_cons_succ]
  refine' wpAnyH_take (i := 9) ?hi9 ?hs9 ?hf9 ?hr9 ?hQ9 ?hy9 ?hS9 ?rest9
  case hi9 =>
    simp only [List.getElem?_toArray, List.getElem?_cons_succ, List.getElem?_cons_zero]
    all_goals rfl
  case hs9 => kernel_rfl
  case hf9 => kernel_rfl
  case hr9 => kernel_rfl
  case hQ9 => exact fun _ _ _ h => h
  case hS9 => assumption
  case hy9 => exact Or.inr ⟨by rfl, rfl⟩
  try simp only [Act.put, List.setIfInBounds_toArray, List.set_cons_zero, List.set_cons_succ]
  refine' wpAnyH_take (i := 10) ?hi10 ?hs10 ?hf10 ?hr10 ?hQ10 ?hy10 ?hS10 ?rest10
  case hi10 =>
    simp only [List.getElem?_toArray, List.getElem?_cons_succ, List.getElem?_cons_zero]
    all_goals rfl
  case hs10 => kernel_rfl
  case hf10 => kernel_rfl
  case hr10 => kernel_rfl
  case hQ10 => exact fun _ _ _ h => h
  case hS10 => assumption
  case hy10 => exact Or.inr ⟨by rfl, rfl⟩
  try simp only [Act.put, List.setIfInBounds_toArray, List.set_cons_zero, List.set_cons_succ]
  refine' wpAnyH_take (i := 11) ?hi11 ?hs11 ?hf11 ?hr11 ?hQ11 ?hy11 ?hS11 ?rest11
  case hi11 =>
    simp only [List.getElem?_toArray, List.getElem?_cons_succ, List.getElem?_cons_zero]
    all_goals rfl
  case hs11 => kernel_rfl
  case hf11 => kernel_rfl
  case hr11 => kernel_rfl
  case hQ11 => exact fun _ _ _ h => h
  case hS11 => assumption
  case hy11 =>
    refine Or.inl ⟨by rfl, ?_⟩
    intro w hSw
    try dsimp only at hSw
    go_simp
    all_goals with_reducible rfl
  try simp only [Act.put, List.setIfInBounds_toArray, List.set_cons_zero, List.set_cons_succ]
  refine' wpAnyH_take (i := 12) ?hi12 ?hs12 ?hf12 ?hr12 ?hQ12 ?hy12 ?hS12 ?rest12
  case hi12 =>
    simp only [List.getElem?_toArray, List.getElem?_cons_succ, List.getElem?_cons_zero]
    all_goals rfl
  case hs12 => kernel_rfl
  case hf12 => kernel_rfl
  case hr12 => kernel_rfl
  case hQ12 => exact fun _ _ _ h => h
  case hS12 => assumption
  case hy12 =>
    refine Or.inl ⟨by rfl, ?_⟩
    intro w hSw
    try dsimp only at hSw
    go_simp
    all_goals with_reducible rfl
  try simp only [Act.put, List.setIfInBounds_toArray, List.set_cons_zero, List.set_cons_succ]
  refine' wpAnyH_take (i := 13) ?hi13 ?hs13 ?hf13 ?hr13 ?hQ13 ?hy13 ?hS13 ?rest13
  case hi13 =>
    simp only [List.getElem?_toArray, List.getElem?_cons_succ, List.getElem?_cons_zero]
    all_goals rfl
  case hs13 => kernel_rfl
  case hf13 => kernel_rfl
  case hr13 => kernel_rfl
  case hQ13 => exact fun _ _ _ h => h
  case hS13 => assumption
  case hy13 =>
    refine Or.inl ⟨by rfl, ?_⟩
    intro w hSw
    try dsimp only at hSw
    go_simp
    all_goals with_reducible rfl
  try simp only [Act.put, List.setIfInBounds_toArray, List.set_cons_zero, List.set_cons_succ]
  refine' wpAnyH_take (i := 14) ?hi14 ?hs14 ?hf14 ?hr14 ?hQ14 ?hy14 ?hS14 ?rest14
  case hi14 =>
    simp only [List.getElem?_toArray, List.getElem?_cons_succ, List.getElem?_cons_zero]
    all_goals rfl
  case hs14 => kernel_rfl
  case hf14 => kernel_rfl
  case hr14 => kernel_rfl
  case hQ14 => exact fun _ _ _ h => h
  case hS14 => assumption
  case hy14 =>
    refine Or.inl ⟨by rfl, ?_⟩
    intro w hSw
    try dsimp only at hSw
    go_simp
    all_goals with_reducible rfl
  try simp only [Act.put, List.setIfInBounds_toArray, List.set_cons_zero, List.set_cons_succ]
  refine' wpAnyH_take (i := 15) ?hi15 ?hs15 ?hf15 ?hr15 ?hQ15 ?hy15 ?hS15 ?rest15
  case hi15 =>
    simp only [List.getElem?_toArray, List.getElem?_cons_succ, List.getElem?_cons_zero]
    all_goals rfl
  case hs15 => kernel_rfl
  case hf15 => kernel_rfl
  case hr15 => kernel_rfl
  case hQ15 => exact fun _ _ _ h => h
  case hS15 => assumption
  case hy15 =>
    refine Or.inl ⟨by rfl, ?_⟩
    intro w hSw
    try dsimp only at hSw
    go_simp
    all_goals with_reducible rfl
  try simp only [Act.put, List.setIfInBounds_toArray, List.set_cons_zero, List.set_cons_succ]
  refine' wpAnyH_take (i := 16) ?hi16 ?hs16 ?hf16 ?hr16 ?hQ16 ?hy16 ?hS16 ?rest16
  case hi16 =>
    simp only [List.getElem?_toArray, List.getElem?_cons_succ, List.getElem?_cons_zero]
    all_goals rfl
  case hs16 => kernel_rfl
  case hf16 => kernel_rfl
  case hr16 => kernel_rfl
  case hQ16 => exact fun _ _ _ h => h
  case hS16 => assumption
  case hy16 =>
    refine Or.inl ⟨by rfl, ?_⟩
    intro w hSw
    try dsimp only at hSw
    go_simp
    all_goals with_reducible rfl
  try simp only [Act.put, List.setIfInBounds_toArray, List.set_cons_zero, List.set_cons_succ]
  refine' wpAnyH_take (i := 17) ?hi17 ?hs17 ?hf17 ?hr17 ?hQ17 ?hy17 ?hS17 ?rest17
  case hi17 =>
    simp only [List.getElem?_toArray, List.getElem?_cons_succ, List.getElem?_cons_zero]
    all_goals rfl
  case hs17 => kernel_rfl
  case hf17 => kernel_rfl
  case hr17 => kernel_rfl
  case hQ17 => exact fun _ _ _ h => h
  case hS17 => assumption
  case hy17 =>
    refine Or.inl ⟨by rfl, ?_⟩
    intro w hSw
    try dsimp only at hSw
    go_simp
    all_goals with_reducible rfl
  try simp only [Act.put, List.setIfInBounds_toArray, List.set_cons_zero, List.set_cons_succ]
  refine' wpAnyH_take (i := 18) ?hi18 ?hs18 ?hf18 ?hr18 ?hQ18 ?hy18 ?hS18 ?rest18
  case hi18 =>
    simp only [List.getElem?_toArray, List.getElem?_cons_succ, List.getElem?_cons_zero]
    all_goals rfl
  case hs18 => kernel_rfl
  case hf18 => kernel_rfl
  case hr18 => kernel_rfl
  case hQ18 => exact fun _ _ _ h => h
  case hS18 => assumption
  case hy18 =>
    refine Or.inl ⟨by rfl, ?_⟩
    intro w hSw
    try dsimp only at hSw
    go_simp
    all_goals with_reducible rfl
  try simp only [Act.put, List.setIfInBounds_toArray, List.set_cons_zero, List.set_cons_succ]
  refine' wpAnyH_take (i := 19) ?hi19 ?hs19 ?hf19 ?hr19 ?hQ19 ?hy19 ?hS19 ?rest19
  case hi19 =>
    simp only [List.getElem?_toArray, List.getElem?_cons_succ, List.getElem?_cons_zero]
    all_goals rfl
  case hs19 => kernel_rfl
  case hf19 => kernel_rfl
  case hr19 => kernel_rfl
  case hQ19 => exact fun _ _ _ h => h
  case hS19 => assumption
  case hy19 =>
    refine Or.inl ⟨by rfl, ?_⟩
    intro w hSw
    try dsimp only at hSw
    go_simp
    all_goals with_reducible rfl
  try simp only [Act.put, List.setIfInBounds_toArray, List.set_cons_zero, List.set_cons_succ]
  refine' wpAnyH_take (i := 20) ?hi20 ?hs20 ?hf20 ?hr20 ?hQ20 ?hy20 ?hS20 ?rest20
  case hi20 =>
    simp only [List.getElem?_toArray, List.getElem?_cons_succ, List.getElem?_cons_zero]
    all_goals rfl
  case hs20 => kernel_rfl
  case hf20 => kernel_rfl
  case hr20 => kernel_rfl
  case hQ20 => exact fun _ _ _ h => h
  case hS20 => assumption
  case hy20 =>
    refine Or.inl ⟨by rfl, ?_⟩
    intro w hSw
    try dsimp only at hSw
    go_simp
    all_goals with_reducible rfl
  try simp only [Act.put, List.setIfInBounds_toArray, List.set_cons_zero, List.set_cons_succ]
  refine' wpAnyH_take (i := 21) ?hi21 ?hs21 ?hf21 ?hr21 ?hQ21 ?hy21 ?hS21 ?rest21
  case hi21 =>
    simp only [List.getElem?_toArray, List.getElem?_cons_succ, List.getElem?_cons_zero]
    all_goals rfl
  case hs21 => kernel_rfl
  case hf21 => kernel_rfl
  case hr21 => kernel_rfl
  case hQ21 => exact fun _ _ _ h => h
  case hS21 => assumption
  case hy21 =>
    refine Or.inl ⟨by rfl, ?_⟩
    intro w hSw
    try dsimp only at hSw
    go_simp
    all_goals with_reducible rfl
  try simp only [Act.put, List.setIfInBounds_toArray, List.set_cons_zero, List.set_cons_succ]
  refine' wpAnyH_take (i := 22) ?hi22 ?hs22 ?hf22 ?hr22 ?hQ22 ?hy22 ?hS22 ?rest22
  case hi22 =>
    simp only [List.getElem?_toArray, List.getElem?_cons_succ, List.getElem?_cons_zero]
    all_goals rfl
  case hs22 => kernel_rfl
  case hf22 => kernel_rfl
  case hr22 => kernel_rfl
  case hQ22 => exact fun _ _ _ h => h
  case hS22 => assumption
  case hy22 =>
    refine Or.inl ⟨by rfl, ?_⟩
    intro w hSw
    try dsimp only at hSw
    go_simp
    all_goals with_reducible rfl
  try simp only [Act.put, List.setIfInBounds_toArray, List.set_cons_zero, List.set_cons_succ]
  refine' wpAnyH_take (i := 23) ?hi23 ?hs23 ?hf23 ?hr23 ?hQ23 ?hy23 ?hS23 ?rest23
  case hi23 =>
    simp only [List.getElem?_toArray, List.getElem?_cons_succ, List.getElem?_cons_zero]
    all_goals rfl
  case hs23 => kernel_rfl
  case hf23 => kernel_rfl
  case hr23 => kernel_rfl
  case hQ23 => exact fun _ _ _ h => h
  case hS23 => assumption
  case hy23 =>
    refine Or.inl ⟨by rfl, ?_⟩
    intro w hSw
    try dsimp only at hSw
    go_simp
    all_goals with_reducible rfl
  try simp only [Act.put, List.setIfInBounds_toArray, List.set_cons_zero, List.set_cons_succ]
  refine' wpAnyH_take (i := 24) ?hi24 ?hs24 ?hf24 ?hr24 ?hQ24 ?hy24 ?hS24 ?rest24
  case hi24 =>
    simp only [List.getElem?_toArray, List.getElem?_cons_succ, List.getElem?_cons_zero]
    all_goals rfl
  case hs24 => kernel_rfl
  case hf24 => kernel_rfl
  case hr24 => kernel_rfl
  case hQ24 => exact fun _ _ _ h => h
  case hS24 => assumption
  case hy24 =>
    refine Or.inl ⟨by rfl, ?_⟩
    intro w hSw
    try dsimp only at hSw
    go_simp
    all_goals with_reducible rfl
  try simp only [Act.put, List.setIfInBounds_toArray, List.set_cons_zero, List.set_cons_succ]
  refine' wpAnyH_take (i := 25) ?hi25 ?hs25 ?hf25 ?hr25 ?hQ25 ?hy25 ?hS25 ?rest25
  case hi25 =>
    simp only [List.getElem?_toArray, List.getElem?_cons_succ, List.getElem?_cons_zero]
    all_goals rfl
  case hs25 => kernel_rfl
  case hf25 => kernel_rfl
  case hr25 => kernel_rfl
  case hQ25 => exact fun _ _ _ h => h
  case hS25 => assumption
  case hy25 =>
    refine Or.inl ⟨by rfl, ?_⟩
    intro w hSw
    try dsimp only at hSw
    go_simp
    all_goals with_reducible rfl
  try simp only [Act.put, List.setIfInBounds_toArray, List.set_cons_zero, List.set_cons_succ]
  refine' wpAnyH_take (i := 26) ?hi26 ?hs26 ?hf26 ?hr26 ?hQ26 ?hy26 ?hS26 ?rest26
  case hi26 =>
    simp only [List.getElem?_toArray, List.getElem?_cons_succ, List.getElem?_cons_zero]
    all_goals rfl
  case hs26 => kernel_rfl
  case hf26 => kernel_rfl
  case hr26 => kernel_rfl
  case hQ26 => exact fun _ _ _ h => h
  case hS26 => assumption
  case hy26 =>
    refine Or.inl ⟨by rfl, ?_⟩
    intro w hSw
    try dsimp only at hSw
    go_simp
    all_goals with_reducible rfl
  try simp only [Act.put, List.setIfInBounds_toArray, List.set_cons_zero, List.set_cons_succ]
  refine' wpAnyH_take (i := 27) ?hi27 ?hs27 ?hf27 ?hr27 ?hQ27 ?hy27 ?hS27 ?rest27
  case hi27 =>
    simp only [List.getElem?_toArray, List.getElem?_cons_succ, List.getElem?_cons_zero]
    all_goals rfl
  case hs27 => kernel_rfl
  case hf27 => kernel_rfl
  case hr27 => kernel_rfl
  case hQ27 => exact fun _ _ _ h => h
  case hS27 => assumption
  case hy27 =>
    refine Or.inl ⟨by rfl, ?_⟩
    intro w hSw
    try dsimp only at hSw
    go_simp
    all_goals with_reducible rfl
  try simp only [Act.put, List.setIfInBounds_toArray, List.set_cons_zero, List.set_cons_succ]
  refine' wpAnyH_take (i := 28) ?hi28 ?hs28 ?hf28 ?hr28 ?hQ28 ?hy28 ?hS28 ?rest28
  case hi28 =>
    simp only [List.getElem?_toArray, List.getElem?_cons_succ, List.getElem?_cons_zero]
    all_goals rfl
  case hs28 => kernel_rfl
  case hf28 => kernel_rfl
  case hr28 => kernel_rfl
  case hQ28 => exact fun _ _ _ h => h
  case hS28 => assumption
  case hy28 =>
    refine Or.inl ⟨by rfl, ?_⟩
    intro w hSw
    try dsimp only at hSw
    go_simp
    all_goals with_reducible rfl
  try simp only [Act.put, List.setIfInBounds_toArray, List.set_cons_zero, List.set_cons_succ]
  refine' wpAnyH_take (i := 29) ?hi29 ?hs29 ?hf29 ?hr29 ?hQ29 ?hy29 ?hS29 ?rest29
  case hi29 =>
    simp only [List.getElem?_toArray, List.getElem?_cons_succ, List.getElem?_cons_zero]
    all_goals rfl
  case hs29 => kernel_rfl
  case hf29 => kernel_rfl
  case hr29 => kernel_rfl
  case hQ29 => exact fun _ _ _ h => h
  case hS29 => assumption
  case hy29 =>
    refine Or.inl ⟨by rfl, ?_⟩
    intro w hSw
    try dsimp only at hSw
    go_simp
    all_goals with_reducible rfl
  try simp only [Act.put, List.setIfInBounds_toArray, List.set_cons_zero, List.set_cons_succ]
  refine wpAnyH_ready (rs := [30]) (by kernel_rfl) (by simp) ?_
  refine AllReadyH.cons rfl (fun K hK => ?_) AllReadyH.nil
  go_simp
  refine (newer_any ⟨b0, a1, a2⟩ ⟨a0, a1, a2⟩ _).mono ?_
  rintro e w5 ⟨rfl, hb5⟩
  rw [HV.out]
  have K5 := K4.below hb5
  try go_wp2_with fail
  refine hK.out _ _ ?_ (fun hHeld => ?_)
  · exact K5.cells
  clear hK K
  try simp only [Act.put, List.setIfInBounds_toArray, List.set_cons_zero, List.set_cons_succ]
  refine' wpAnyH_take (i := 31) ?hi31 ?hs31 ?hf31 ?hr31 ?hQ31 ?hy31 ?hS31 ?rest31
  case hi31 =>
    simp only [List.getElem?_toArray, List.getElem?_cons_succ, List.getElem?_cons_zero]
    all_goals rfl
  case hs31 => kernel_rfl
  case hf31 => kernel_rfl
  case hr31 => kernel_rfl
  case hQ31 => exact fun _ _ _ h => h
  case hS31 => assumption
  case hy31 =>
    refine Or.inl ⟨by rfl, ?_⟩
    intro w hSw
    try dsimp only at hSw
    go_simp
    all_goals with_reducible rfl
  try simp only [Act.put, List.setIfInBounds_toArray, List.set_cons_zero, List.set_cons_succ]
  refine' wpAnyH_take (i := 32) ?hi32 ?hs32 ?hf32 ?hr32 ?hQ32 ?hy32 ?hS32 ?rest32
  case hi32 =>
    simp only [List.getElem?_toArray, List.getElem?_cons_succ, List.getElem?_cons_zero]
    all_goals rfl
  case hs32 => kernel_rfl
  case hf32 => kernel_rfl
  case hr32 => kernel_rfl
  case hQ32 => exact fun _ _ _ h => h
  case hS32 => assumption
  case hy32 =>
    refine Or.inl ⟨by rfl, ?_⟩
    intro w hSw
    try dsimp only at hSw
    go_simp
    all_goals with_reducible rfl
  try simp only [Act.put, List.setIfInBounds_toArray, List.set_cons_zero, List.set_cons_succ]
  refine' wpAnyH_take (i := 33) ?hi33 ?hs33 ?hf33 ?hr33 ?hQ33 ?hy33 ?hS33 ?rest33
  case hi33 =>
    simp only [List.getElem?_toArray, List.getElem?_cons_succ, List.getElem?_cons_zero]
    all_goals rfl
  case hs33 => kernel_rfl
  case hf33 => kernel_rfl
  case hr33 => kernel_rfl
  case hQ33 => exact fun _ _ _ h => h
  case hS33 => assumption
  case hy33 =>
    refine Or.inl ⟨by rfl, ?_⟩
    intro w hSw
    try dsimp only at hSw
    go_simp
    all_goals with_reducible rfl
  try simp only [Act.put, List.setIfInBounds_toArray, List.set_cons_zero, List.set_cons_succ]
  refine wpAnyH_done (by kernel_rfl) ?_ _
  go_wp2_with fail
  refine (lives_any _).mono ?_
  rintro e w6 ⟨rfl, hb6⟩
  have K6 := K5.below hb6
  clear hXYZ
  go_wp2
  go_ret
  exact ⟨rfl, K6.2.2.2⟩
theorem replayOrders_walk (a b c : Msg) (w : World) (_h0 : True) (_h1 : True) (_h2 : True) :
    Calls Try.prog 5 #[.agg #[.int .u16 a.s, .int .u32 a.i, .int .u32 a.q], .agg #[.int .u16 b.s, .int .u32 b.i, .int .u32 b.q], .agg #[.int .u16 c.s, .int .u32 c.i, .int .u32 c.q]] w fun e w' => e = .returned (.bool true) ∧ Below w.heap.size w w' := by
  rcases order_cases a b with ⟨_, h2, h3, h4⟩ | ⟨_, h2, h3, h4⟩ | ⟨h1, _, h2, h3, h5⟩ | ⟨h1, _, h2, h3, h5⟩ | ⟨h1, h4, h2, h3⟩
  · exact orders_1 a b c w h4 h2 h3
  · exact orders_2 a b c w h4 h2 h3
  · exact orders_3 a b c w h1 h5 h2 h3
  · exact orders_4 a b c w h1 h5 h2 h3
  · exact orders_5 a b c w h1 h4 h2 h3
end Go.Proofs.Ytajhfmioidmacaa
