/-
  The walks of Same, SameRows, Clone at both types, Newer. Each function's contract.
-/
import Derived.Test.YtajhfmioidmacaaRpa
namespace Go.Proofs.Ytajhfmioidmacaa
set_option linter.unusedVariables false
set_option linter.unusedSimpArgs false
open Go.RowKit

set_option maxHeartbeats 1000000 in
theorem same_any (A C : Option Addr) (n m c d : Nat) (la lb : List Msg) (w : World) (hA : Rd w 3 A n (mv la)) (hC : Rd w 3 C m (mv lb)) (hn : n ≤ 1000000) (hm : m ≤ 1000000) :
    Calls Try.prog 11 #[.slice A n c, .slice C m d] w fun e w' => e = .returned (.bool (decide (la = lb))) ∧ Below w.heap.size w w' := by
  have h1 := hA.mlen
  have h2 := hC.mlen
  by_cases hnm : n = m
  · subst hnm
    have HL := hide h1
    have HM := hide h2
    clear h1 h2 hm
    go_enter Try.func11, Try.ntmps11
    go_wp2
    go_loopw [5] (fun i wr => ∃ k : Nat, k ≤ n ∧ i = .int .i64 k ∧ Hid (la.take k = lb.take k) ∧ Below w.heap.size w wr) (fun i _ => n - (intOf i).toNat)
    case atStart => exact ⟨0, Nat.zero_le _, rfl, hide (by simp), Below.refl _ _⟩
    case round =>
      obtain ⟨k, hk, rfl, HT, hbe⟩ := hrel
      by_cases hlt : k < n
      · obtain ⟨b, o, x, rfl, hbs, HX, p0, p1, p2⟩ := (hA.below hbe).msg hlt
        obtain ⟨b2, o2, y, rfl, hbs2, HY, q0, q1, q2⟩ := (hC.below hbe).msg hlt
        by_cases hxy : x = y
        · subst hxy
          have hne := neq_msg_yes x
          go_wp2
          go_region
          go_wp2
          go_roundw
          case rel => exact ⟨k + 1, by omega, by go_num, hide (by rw [take_snoc HX.out, take_snoc HY.out, HT.out]), hbe.drew⟩
          case measure => simp [intOf]; omega
        · have hne := neq_msg_no x y hxy
          have hno : la ≠ lb := fun e => hxy (by have h := HX.out; rw [e, HY.out] at h; injection h with h; exact h.symm)
          go_wp2
          go_region
          go_wp2
          go_ret
          exact ⟨ret_bool (by simp [hno]), hbe.drew⟩
      · obtain rfl : k = n := by omega
        have he : la = lb := by
          have h := HT.out
          rwa [List.take_of_length_le (by rw [HL.out]; exact Nat.le_refl _), List.take_of_length_le (by rw [HM.out]; exact Nat.le_refl _)] at h
        go_wp2
        go_ret
        exact ⟨ret_bool (by simp [he]), hbe⟩
  · have hno : la ≠ lb := fun e => hnm (by rw [← h1, ← h2, e])
    have e1 : ((n : Int) != (m : Int)) = true := by rw [bne_iff_ne]; omega
    clear h1 h2
    go_enter Try.func11, Try.ntmps11
    go_wp2
    go_ret
    exact ⟨ret_bool (by simp [hno]), Below.refl _ _⟩
set_option maxHeartbeats 1000000 in
theorem samerows_any (A C : Option Addr) (n m c d : Nat) (la lb : List Msg) (w : World) (hA : Rd w 3 A n (mv la)) (hC : Rd w 3 C m (mv lb)) (hn : n ≤ 1000000) (hm : m ≤ 1000000) :
    Calls Try.prog 20 #[.slice A n c, .slice C m d] w fun e w' => e = .returned (.bool (decide (la = lb))) ∧ Below w.heap.size w w' := by
  have h1 := hA.mlen
  have h2 := hC.mlen
  by_cases hnm : n = m
  · subst hnm
    have HL := hide h1
    have HM := hide h2
    clear h1 h2 hm
    go_enter Try.func20, Try.ntmps20
    go_wp2
    go_loopw [5] (fun i wr => ∃ k : Nat, k ≤ n ∧ i = .int .i64 k ∧ Hid (la.take k = lb.take k) ∧ Below w.heap.size w wr) (fun i _ => n - (intOf i).toNat)
    case atStart => exact ⟨0, Nat.zero_le _, rfl, hide (by simp), Below.refl _ _⟩
    case round =>
      obtain ⟨k, hk, rfl, HT, hbe⟩ := hrel
      by_cases hlt : k < n
      · obtain ⟨b, o, x, rfl, hbs, HX, p0, p1, p2⟩ := (hA.below hbe).msg hlt
        obtain ⟨b2, o2, y, rfl, hbs2, HY, q0, q1, q2⟩ := (hC.below hbe).msg hlt
        by_cases hxy : x = y
        · subst hxy
          have hne := neq_row_yes x
          go_wp2
          go_region
          go_wp2
          go_roundw
          case rel => exact ⟨k + 1, by omega, by go_num, hide (by rw [take_snoc HX.out, take_snoc HY.out, HT.out]), hbe.drew⟩
          case measure => simp [intOf]; omega
        · have hne := neq_row_no x y hxy
          have hno : la ≠ lb := fun e => hxy (by have h := HX.out; rw [e, HY.out] at h; injection h with h; exact h.symm)
          go_wp2
          go_region
          go_wp2
          go_ret
          exact ⟨ret_bool (by simp [hno]), hbe.drew⟩
      · obtain rfl : k = n := by omega
        have he : la = lb := by
          have h := HT.out
          rwa [List.take_of_length_le (by rw [HL.out]; exact Nat.le_refl _), List.take_of_length_le (by rw [HM.out]; exact Nat.le_refl _)] at h
        go_wp2
        go_ret
        exact ⟨ret_bool (by simp [he]), hbe⟩
  · have hno : la ≠ lb := fun e => hnm (by rw [← h1, ← h2, e])
    have e1 : ((n : Int) != (m : Int)) = true := by rw [bne_iff_ne]; omega
    clear h1 h2
    go_enter Try.func20, Try.ntmps20
    go_wp2
    go_ret
    exact ⟨ret_bool (by simp [hno]), Below.refl _ _⟩
set_option maxHeartbeats 400000 in
theorem clones_any (A : Option Addr) (n c : Nat) (l : List Msg) (w : World) (hA : Rd w 3 A n (mv l)) (hn : n ≤ 1000000) :
    Calls Try.prog 30 #[.slice A n c] w fun e w' => ∃ v, e = .returned v ∧ w'.ownsRow w.heap.size 26 3 v n (mv l) ∧ Below w.heap.size w w' := by
  have hq := fun (W : World) => Lib.run_eql_slice_nil (P := Try.prog) W 22 26 A n c 0 0 underS
  cases A with
  | none =>
    have h0 : n = 0 := by
      rcases Nat.eq_zero_or_pos n with h | h
      · exact h
      · obtain ⟨b, o, e, _⟩ := hA.2 h; cases e
    subst h0
    obtain rfl : l = [] := List.eq_nil_of_length_eq_zero hA.mlen
    go_enter Try.func30, Try.ntmps30
    go_wp2
    go_ret
    exact ⟨_, rfl, World.ownsRow_nil _ _ _ _, Below.refl _ _⟩
  | some ad =>
    go_enter Try.func30, Try.ntmps30
    go_wp2_with (at_builtin; refine wpList_append_rd _ rfl (.tmp 5) (.tmp 6) _ rfl w.heap.size 26 _ 3 12 underS infoS rfl (by omega) (.slice (some ⟨w.heap.size, 0, none⟩) 0 0) 0 [] rfl (own_made w) (some ad) n c (mv l) rfl (hA.alloc _) (mv_one l) (by omega) (by omega) (by simp) ?_; intro v1 w1 hown hg _)
    go_ret
    rw [Nat.zero_add, List.nil_append] at hown
    exact ⟨_, rfl, hown, ((Below.refl _ _).alloc (Nat.le_refl _) _).grown hg (by simp) (by simp [Value.ownBlock])⟩
set_option maxHeartbeats 400000 in
theorem cloner_any (A : Option Addr) (n c : Nat) (l : List Msg) (w : World) (hA : Rd w 3 A n (mv l)) (hn : n ≤ 1000000) :
    Calls Try.prog 24 #[.slice A n c] w fun e w' => ∃ v, e = .returned v ∧ w'.ownsRow w.heap.size 46 3 v n (mv l) ∧ Below w.heap.size w w' := by
  have hq := fun (W : World) => Lib.run_eql_slice_nil (P := Try.prog) W 34 46 A n c 0 0 underR
  cases A with
  | none =>
    have h0 : n = 0 := by
      rcases Nat.eq_zero_or_pos n with h | h
      · exact h
      · obtain ⟨b, o, e, _⟩ := hA.2 h; cases e
    subst h0
    obtain rfl : l = [] := List.eq_nil_of_length_eq_zero hA.mlen
    go_enter Try.func24, Try.ntmps24
    go_wp2
    go_ret
    exact ⟨_, rfl, World.ownsRow_nil _ _ _ _, Below.refl _ _⟩
  | some ad =>
    go_enter Try.func24, Try.ntmps24
    go_wp2_with (at_builtin; refine wpList_append_rd _ rfl (.tmp 5) (.tmp 6) _ rfl w.heap.size 46 _ 3 12 underR infoR rfl (by omega) (.slice (some ⟨w.heap.size, 0, none⟩) 0 0) 0 [] rfl (own_made w) (some ad) n c (mv l) rfl (hA.alloc _) (mv_one l) (by omega) (by omega) (by simp) ?_; intro v1 w1 hown hg _)
    go_ret
    rw [Nat.zero_add, List.nil_append] at hown
    exact ⟨_, rfl, hown, ((Below.refl _ _).alloc (Nat.le_refl _) _).grown hg (by simp) (by simp [Value.ownBlock])⟩
/-- Newer: a later index, or the same index and a later number. -/
def newer (a b : Msg) : Bool := decide (b.i < a.i) || (decide (a.i = b.i) && decide (b.q < a.q))
theorem newer_cases (a b : Msg) : (b.i < a.i ∧ newer a b = true) ∨ (¬ b.i < a.i ∧ a.i ≠ b.i ∧ newer a b = false) ∨ (a.i = b.i ∧ b.q < a.q ∧ newer a b = true) ∨ (a.i = b.i ∧ ¬ b.q < a.q ∧ newer a b = false) := by
  unfold newer
  by_cases h : b.i < a.i
  · left; exact ⟨h, by simp [h]⟩
  · by_cases h2 : a.i = b.i
    · by_cases h3 : b.q < a.q
      · right; right; left; exact ⟨h2, h3, by simp [h2, h3]⟩
      · right; right; right; exact ⟨h2, h3, by simp [h2, h3]⟩
    · right; left; exact ⟨h, h2, by simp [h, h2]⟩
theorem newer_any (a b : Msg) (w : World) :
    Calls Try.prog 14 #[.agg #[.int .u16 a.s, .int .u32 a.i, .int .u32 a.q], .agg #[.int .u16 b.s, .int .u32 b.i, .int .u32 b.q]] w fun e w' => e = .returned (.bool (newer a b)) ∧ Below w.heap.size w w' := by
  have hW : Below w.heap.size w ((w.alloc (.cells #[.int .u16 a.s, .int .u32 a.i, .int .u32 a.q] 26)).alloc (.cells #[.int .u16 b.s, .int .u32 b.i, .int .u32 b.q] 26)) := ((Below.refl _ _).alloc (Nat.le_refl _) _).alloc (by simp) _
  have hcs := newer_cases a b
  obtain ⟨R, hR⟩ : ∃ R, R = newer a b := ⟨_, rfl⟩
  rw [← hR] at hcs ⊢
  clear hR
  obtain ⟨a0, a1, a2⟩ := a
  obtain ⟨b0, b1, b2⟩ := b
  simp only at hcs hW ⊢
  rcases hcs with ⟨h, rfl⟩ | ⟨h, h', rfl⟩ | ⟨h, h', rfl⟩ | ⟨h, h', rfl⟩
  · go_enter Try.func14, Try.ntmps14
    go_wp2
    go_ret
    exact ⟨rfl, hW⟩
  · have h2 : (a1 == b1) = false := by rw [beq_eq_false_iff_ne]; exact h'
    go_enter Try.func14, Try.ntmps14
    go_wp2
    go_ret
    exact ⟨rfl, hW⟩
  · subst h
    have h2 : ¬ a1 < a1 := by omega
    go_enter Try.func14, Try.ntmps14
    go_wp2
    go_ret
    exact ⟨rfl, hW⟩
  · subst h
    have h2 : ¬ a1 < a1 := by omega
    go_enter Try.func14, Try.ntmps14
    go_wp2
    go_ret
    exact ⟨rfl, hW⟩
theorem rnewer_any (a b : Msg) (w : World) :
    Calls Try.prog 15 #[.agg #[.int .u16 a.s, .int .u32 a.i, .int .u32 a.q], .agg #[.int .u16 b.s, .int .u32 b.i, .int .u32 b.q]] w fun e w' => e = .returned (.bool (newer a b)) ∧ Below w.heap.size w w' := by
  have hW : Below w.heap.size w ((w.alloc (.cells #[.int .u16 a.s, .int .u32 a.i, .int .u32 a.q] 26)).alloc (.cells #[.int .u16 b.s, .int .u32 b.i, .int .u32 b.q] 26)) := ((Below.refl _ _).alloc (Nat.le_refl _) _).alloc (by simp) _
  have hcs := newer_cases a b
  obtain ⟨R, hR⟩ : ∃ R, R = newer a b := ⟨_, rfl⟩
  rw [← hR] at hcs ⊢
  clear hR
  obtain ⟨a0, a1, a2⟩ := a
  obtain ⟨b0, b1, b2⟩ := b
  simp only at hcs hW ⊢
  rcases hcs with ⟨h, rfl⟩ | ⟨h, h', rfl⟩ | ⟨h, h', rfl⟩ | ⟨h, h', rfl⟩
  · go_enter Try.func15, Try.ntmps15
    go_wp2
    go_ret
    exact ⟨rfl, hW⟩
  · have h2 : (a1 == b1) = false := by rw [beq_eq_false_iff_ne]; exact h'
    go_enter Try.func15, Try.ntmps15
    go_wp2
    go_ret
    exact ⟨rfl, hW⟩
  · subst h
    have h2 : ¬ a1 < a1 := by omega
    go_enter Try.func15, Try.ntmps15
    go_wp2
    go_ret
    exact ⟨rfl, hW⟩
  · subst h
    have h2 : ¬ a1 < a1 := by omega
    go_enter Try.func15, Try.ntmps15
    go_wp2
    go_ret
    exact ⟨rfl, hW⟩
end Go.Proofs.Ytajhfmioidmacaa
