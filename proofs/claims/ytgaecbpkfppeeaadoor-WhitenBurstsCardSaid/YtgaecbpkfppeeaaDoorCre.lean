/-
  The walks of the further statements on checksums: each returns true, and nothing that was there is written.
-/
import Derived.Test.YtgaecbpkfppeeaaDoorCrd
import Derived.Test.YtgaecbpkfppeeaaDoorCrc
namespace Go.Proofs.YtgaecbpkfppeeaaDoor
set_option linter.unusedVariables false
set_option linter.unusedSimpArgs false
open Go.RowKit

theorem tail_bytes {s : Nat} {l : List Nat} (hs : s < 16777216) (h : ∀ x ∈ l, x < 256) : ∀ x ∈ l ++ ctail (csum s l), x < 256 := by
  intro x hx
  rcases List.mem_append.1 hx with hx | hx
  · exact h x hx
  · exact ctail_lt _ (csum_lt _ _ hs) x hx
theorem cout_bytes {s : Nat} {l : List Nat} (h : ∀ x ∈ l, x < 256) : ∀ x ∈ cout s l, x < 256 := by
  intro x hx
  unfold cout at hx
  split at hx
  · simp at hx
  · split at hx
    · exact h x (List.mem_of_mem_take hx)
    · simp at hx
theorem cout_le (s : Nat) (l : List Nat) : (cout s l).length ≤ l.length := by
  unfold cout
  split
  · simp
  · split
    · rw [List.length_take]; omega
    · simp
theorem mod24 (a : Nat) : a % 16777216 < 16777216 := Nat.mod_lt _ (by omega)
set_option maxHeartbeats 1000000 in
theorem crcAppends_walk (a0 : Int) (a1 : Option Addr) (len1 cap1 : Nat) (z1 : List Int) (w : World) (w0 : (Lit.int .u32 a0).wf = true) (w1 : IsRow .u8 w a1 len1 cap1 z1) (hT : Tab w) :
    Calls Tryd.prog 5 #[.int .u32 a0, .slice a1 len1 cap1] w fun e w' => e = .returned (.bool true) ∧ Below w.heap.size w w' := by
  obtain ⟨a, rfl⟩ : ∃ a : Nat, a0 = (a : Int) := Int.eq_ofNat_of_zero_le (wf_u32 w0).1
  have ha : a < 4294967296 := by have := (wf_u32 w0).2; omega
  obtain ⟨l, hA, hl, hc, hm⟩ := w1.rd
  unfold maxLen at hm
  clear w0 w1
  by_cases hbig : 65536 < len1
  · have hbig' : (65536 : Int) < (len1 : Int) := by omega
    go_enter Tryd.func5, Tryd.ntmps5
    go_wp2_with fail
    refine (lives_any _ hT).mono ?_
    rintro e w1 ⟨rfl, hb1⟩
    go_wp2
    go_ret
    exact ⟨rfl, hb1⟩
  · have hbig' : (len1 : Int) ≤ (65536 : Int) := by omega
    go_enter Tryd.func5, Tryd.ntmps5
    go_wp2_with fail
    refine (lives_any _ hT).mono ?_
    rintro e w1 ⟨rfl, B1⟩
    go_wp2_with fail
    refine (copied_any _ _ _ l _ (hA.below B1) (by omega)).mono ?_
    rintro e w2 ⟨v2, rfl, hown2, hb2⟩
    obtain ⟨A2, c2, rfl, hc2, hm2, hr2⟩ := own_rd hown2
    have B2 := B1.trans (hb2.mono B1.size)
    go_wp2_with fail
    refine (check_any a ha _ _ _ l _ (hT.below B2) hr2 hl hc2 (by omega)).mono ?_
    rintro e w3 ⟨v3, rfl, hown3, hb3⟩
    obtain ⟨A3, c3, rfl, hc3, hm3, hr3⟩ := own_rd hown3
    have B3 := B2.trans (hb3.mono B2.size)
    go_wp2_with fail
    refine (rcheck_any a ha _ _ _ l _ (hA.below B3) hl hc (by omega)).mono ?_
    rintro e w4 ⟨v4, rfl, hown4, hb4⟩
    obtain ⟨A4, c4, rfl, hc4, hm4, hr4⟩ := own_rd hown4
    have hr3 := hr3.below hb4
    have B4 := B3.trans (hb4.mono B3.size)
    go_wp2_with fail
    refine (copied_any _ _ _ l _ (hA.below B4) (by omega)).mono ?_
    rintro e w5 ⟨v5, rfl, hown5, hb5⟩
    obtain ⟨A5, c5, rfl, hc5, hm5, hr5⟩ := own_rd hown5
    have hr3 := hr3.below hb5
    have hr4 := hr4.below hb5
    have B5 := B4.trans (hb5.mono B4.size)
    go_wp2_with fail
    refine (append_any a ha _ _ _ l _ (hT.below B5) hr5 hl (by omega)).mono ?_
    rintro e w6 ⟨v6, rfl, hown6, hb6⟩
    obtain ⟨A6, c6, rfl, hc6, hm6, hr6⟩ := own_rd hown6
    have hr3 := hr3.below hb6
    have hr4 := hr4.below hb6
    have B6 := B5.trans (hb6.mono B5.size)
    go_wp2_with fail
    refine (rappend_any a ha _ _ _ l _ (hA.below B6) hl (by omega)).mono ?_
    rintro e w7 ⟨v7, rfl, hown7, hb7⟩
    obtain ⟨A7, c7, rfl, hc7, hm7, hr7⟩ := own_rd hown7
    have hr3 := hr3.below hb7
    have hr4 := hr4.below hb7
    have B7 := B6.trans (hb7.mono B6.size)
    go_wp2_with fail
    refine (same_any _ _ _ _ _ _ _ _ _ (hr6.below hb7) hr7 (tail_bytes (mod24 a) hl) (tail_bytes (mod24 a) hl)).mono ?_
    rintro e w' ⟨rfl, rfl⟩
    rw [decide_eq_true rfl]
    clear hown2 hown3 hown4 hown5 hown6 hown7
    obtain ⟨E, hE⟩ : ∃ E, E = cerr (a % 16777216) l := ⟨_, rfl⟩
    rw [← hE]
    clear hE
    go_wp2_with fail
    refine (same_any _ _ _ _ _ _ _ _ _ hr3 hr4 (cout_bytes hl) (cout_bytes hl)).mono ?_
    rintro e w' ⟨rfl, rfl⟩
    rw [decide_eq_true rfl]
    go_wp2
    go_ret
    exact ⟨rfl, B7⟩
set_option maxHeartbeats 2000000 in
theorem crcContinues_walk (a0 : Int) (a1 : Option Addr) (len1 cap1 : Nat) (z1 : List Int) (a2 : Option Addr) (len2 cap2 : Nat) (z2 : List Int) (w : World) (w0 : (Lit.int .u32 a0).wf = true) (w1 : IsRow .u8 w a1 len1 cap1 z1) (w2 : IsRow .u8 w a2 len2 cap2 z2) (hT : Tab w) :
    Calls Tryd.prog 6 #[.int .u32 a0, .slice a1 len1 cap1, .slice a2 len2 cap2] w fun e w' => e = .returned (.bool true) ∧ Below w.heap.size w w' := by
  obtain ⟨a, rfl⟩ : ∃ a : Nat, a0 = (a : Int) := Int.eq_ofNat_of_zero_le (wf_u32 w0).1
  have ha : a < 4294967296 := by have := (wf_u32 w0).2; omega
  obtain ⟨l, hA, hl, hc, hm⟩ := w1.rd
  obtain ⟨l', hA', hl', hc', hm'⟩ := w2.rd
  unfold maxLen at hm hm'
  clear w0 w1 w2
  by_cases hbig : 32768 < len1 ∨ 32768 < len2
  · rcases (show (32768 : Int) < (len1 : Int) ∨ ((len1 : Int) ≤ 32768 ∧ (32768 : Int) < (len2 : Int)) by omega) with h | ⟨h, h'⟩
    all_goals
      go_enter Tryd.func6, Tryd.ntmps6
      go_wp2_with fail
      refine (lives_any _ hT).mono ?_
      rintro e w1 ⟨rfl, hb1⟩
      go_wp2
      go_ret
      exact ⟨rfl, hb1⟩
  · have h1 : (len1 : Int) ≤ 32768 := by omega
    have h2 : (len2 : Int) ≤ 32768 := by omega
    clear hbig
    go_enter Tryd.func6, Tryd.ntmps6
    go_wp2_with fail
    refine (lives_any _ hT).mono ?_
    rintro e w1 ⟨rfl, B1⟩
    go_wp2_with fail
    refine (copied_any _ _ _ l _ (hA.below B1) (by omega)).mono ?_
    rintro e w2 ⟨v2, rfl, hown2, hb2⟩
    have B2 := B1.trans (hb2.mono B1.size)
    have hA2 := hA.below B2
    have hA2' := hA'.below B2
    have hlen := hA.blen
    have hlen' := hA'.blen
    go_wp2_with (at_builtin; refine wpList_append_rd _ rfl (.tmp 22) (.tmp 23) _ rfl w.heap.size 5 (.int .u8 0) 1 1 under8 info8 rfl (by omega) v2 len1 (bv l) rfl (ownsRow_weak hown2 B1.size) a2 len2 cap2 (bv l') rfl hA2' (bv_one l') (by omega) (by omega) B2.size ?_; intro v3 w3 hown3 hg _)
    have B3 : Below w.heap.size w w3 := B2.grown hg B2.size (fun q hq => Nat.le_trans B1.size (hown2.lt q hq).1)
    rw [← bv_append] at hown3
    obtain ⟨A3, c3, rfl, hc3, hm3, hr3⟩ := own_rd hown3
    clear hg hown2 hown3
    refine (copied_any _ _ _ l _ (hA.below B3) (by omega)).mono ?_
    rintro e w4 ⟨v4, rfl, hown4, hb4⟩
    obtain ⟨A4, c4, rfl, hc4, hm4, hr4⟩ := own_rd hown4
    have B4 := B3.trans (hb4.mono B3.size)
    have hr3 := hr3.below hb4
    clear hown4
    go_wp2_with fail
    refine (append_any a ha _ _ _ l _ (hT.below B4) hr4 hl (by omega)).mono ?_
    rintro e w5 ⟨v5, rfl, hown5, hb5⟩
    obtain ⟨A5, c5, rfl, hc5, hm5, hr5⟩ := own_rd hown5
    have B5 := B4.trans (hb5.mono B4.size)
    have hr3 := hr3.below hb5
    clear hown5
    obtain ⟨m, hml⟩ : ∃ m, m = l ++ ctail (csum (a % 16777216) l) := ⟨_, rfl⟩
    have hmb : ∀ x ∈ m, x < 256 := by rw [hml]; exact tail_bytes (mod24 a) hl
    have hm0 : csum (a % 16777216) m = 0 := by rw [hml]; exact csum_tail _ _ (mod24 a)
    have hmlen : m.length = len1 + 3 := by rw [hml, List.length_append, ctail_length, hlen]
    have hmt : m.take len1 = l := by rw [hml, List.take_left' hlen]
    rw [← hml] at hr5
    have e1 := cerr_ok hmlen hm0
    rw [hmt] at e1
    have E1 := hide e1
    have HM0 := hide hm0
    clear hml hm0 hmt e1
    go_wp2_with fail
    refine (copied_any _ _ _ m _ hr5 (by omega)).mono ?_
    rintro e w6 ⟨v6, rfl, hown6, hb6⟩
    obtain ⟨A6, c6, rfl, hc6, hm6, hr6⟩ := own_rd hown6
    have B6 := B5.trans (hb6.mono B5.size)
    have hr3 := hr3.below hb6
    have hr5 := hr5.below hb6
    clear hown6
    go_wp2_with fail
    refine (check_any a ha _ _ _ m _ (hT.below B6) hr6 hmb hc6 (by omega)).mono ?_
    rintro e w7 ⟨v7, rfl, hown7, hb7⟩
    rw [E1.out.1]
    rw [E1.out.2, hlen] at hown7
    obtain ⟨A7, c7, rfl, hc7, hm7, hr7⟩ := own_rd hown7
    have B7 := B6.trans (hb7.mono B6.size)
    have hr3 := hr3.below hb7
    have hr5 := hr5.below hb7
    clear hown7 hr6
    go_wp2_with fail
    refine (copied_any _ _ _ l _ (hA.below B7) (by omega)).mono ?_
    rintro e w8 ⟨v8, rfl, hown8, hb8⟩
    obtain ⟨A8, c8, rfl, hc8, hm8, hr8⟩ := own_rd hown8
    have B8 := B7.trans (hb8.mono B7.size)
    have hr3 := hr3.below hb8
    have hr5 := hr5.below hb8
    have hr7 := hr7.below hb8
    clear hown8
    go_wp2_with fail
    refine (sum_any a ha _ _ _ l _ (hT.below B8) hr8 hl (by omega)).mono ?_
    rintro e w' ⟨rfl, rfl⟩
    have hs1 := csum_lt (a % 16777216) l (mod24 a)
    have happ := csum_append (a % 16777216) l l'
    obtain ⟨s1, hs⟩ : ∃ s, s = csum (a % 16777216) l := ⟨_, rfl⟩
    rw [← hs] at hs1 happ ⊢
    have HAP := hide happ
    have HS := hide hs
    clear hs happ
    go_wp2_with fail
    refine (copied_any _ _ _ l' _ (hA'.below B8) (by omega)).mono ?_
    rintro e w9 ⟨v9, rfl, hown9, hb9⟩
    obtain ⟨A9, c9, rfl, hc9, hm9, hr9⟩ := own_rd hown9
    have B9 := B8.trans (hb9.mono B8.size)
    have hr3 := hr3.below hb9
    have hr5 := hr5.below hb9
    have hr7 := hr7.below hb9
    clear hown9
    go_wp2_with fail
    refine (sum_any s1 (by omega) _ _ _ l' _ (hT.below B9) hr9 hl' (by omega)).mono ?_
    rintro e w' ⟨rfl, rfl⟩
    rw [Nat.mod_eq_of_lt hs1, ← HAP.out]
    go_wp2_with fail
    refine (sum_any a ha _ _ _ (l ++ l') _ (hT.below B9) hr3 (by intro x hx; rcases List.mem_append.1 hx with hx | hx; exact hl x hx; exact hl' x hx) (by omega)).mono ?_
    rintro e w' ⟨rfl, rfl⟩
    go_wp2_with fail
    refine (sum_any a ha _ _ _ m _ (hT.below B9) hr5 hmb (by omega)).mono ?_
    rintro e w' ⟨rfl, rfl⟩
    rw [HM0.out]
    go_wp2_with fail
    refine (same_any _ _ _ _ _ _ l l _ hr7 (hA.below B9) hl hl).mono ?_
    rintro e w' ⟨rfl, rfl⟩
    rw [decide_eq_true rfl]
    go_wp2
    go_ret
    exact ⟨rfl, B9⟩
end Go.Proofs.YtgaecbpkfppeeaaDoor
