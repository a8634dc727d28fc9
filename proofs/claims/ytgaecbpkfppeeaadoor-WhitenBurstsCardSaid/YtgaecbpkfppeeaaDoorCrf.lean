/-
  The walk of the statement on inverted bits: it returns true, and nothing that was there is written.
-/
import Derived.Test.YtgaecbpkfppeeaaDoorCre
namespace Go.Proofs.YtgaecbpkfppeeaaDoor
set_option linter.unusedVariables false
set_option linter.unusedSimpArgs false
open Go.RowKit

theorem wf_i64 {n : Int} (h : (Lit.int .i64 n).wf = true) : -9223372036854775808 ≤ n ∧ n ≤ 9223372036854775807 := by
  simp [Lit.wf, IntKind.min, IntKind.max, IntKind.signed, IntKind.bits] at h
  omega
set_option maxHeartbeats 2000000 in
theorem crcDetects_walk (a0 : Option Addr) (len0 cap0 : Nat) (z0 : List Int) (a1 a2 : Int) (w : World) (w0 : IsRow .u8 w a0 len0 cap0 z0) (w1 : (Lit.int .i64 a1).wf = true) (w2 : (Lit.int .u32 a2).wf = true) (hT : Tab w) :
    Calls Tryd.prog 8 #[.slice a0 len0 cap0, .int .i64 a1, .int .u32 a2] w fun e w' => e = .returned (.bool true) ∧ Below w.heap.size w w' := by
  obtain ⟨p, rfl⟩ : ∃ p : Nat, a2 = (p : Int) := Int.eq_ofNat_of_zero_le (wf_u32 w2).1
  have hp : p < 4294967296 := by have := (wf_u32 w2).2; omega
  have hat := wf_i64 w1
  obtain ⟨l, hA, hl, hc, hm⟩ := w0.rd
  unfold maxLen at hm
  clear w0 w1 w2
  obtain ⟨q, hq⟩ : ∃ q, q = p % 16777216 := ⟨_, rfl⟩
  have hq2 : q < 16777216 := by omega
  have hqi : (p : Int) % 16777216 = (q : Int) := by omega
  clear hq
  by_cases hbig : 4096 < len0 ∨ q = 0
  · rcases (show (4096 : Int) < (len0 : Int) ∨ ((len0 : Int) ≤ 4096 ∧ q = 0) by omega) with h | ⟨h, h'⟩
    · go_enter Tryd.func8, Tryd.ntmps8
      go_wp2_with fail
      refine (lives_any _ hT).mono ?_
      rintro e w1 ⟨rfl, hb1⟩
      go_wp2
      go_ret
      exact ⟨rfl, hb1⟩
    · subst h'
      go_enter Tryd.func8, Tryd.ntmps8
      go_wp2_with fail
      refine (lives_any _ hT).mono ?_
      rintro e w1 ⟨rfl, hb1⟩
      go_wp2
      go_ret
      exact ⟨rfl, hb1⟩
  · have h1 : (len0 : Int) ≤ 4096 := by omega
    have hq0 : q ≠ 0 := by omega
    have hq1 : ((q : Int) == 0) = false := by rw [beq_eq_false_iff_ne]; omega
    clear hbig
    have hlen := hA.blen
    obtain ⟨m, hml⟩ : ∃ m, m = l ++ ctail (csum (5592405 % 16777216) l) := ⟨_, rfl⟩
    have hmb : ∀ x ∈ m, x < 256 := by rw [hml]; exact tail_bytes (mod24 _) hl
    have hm0 : csum (5592405 % 16777216) m = 0 := by rw [hml]; exact csum_tail _ _ (mod24 _)
    have hmlen : m.length = len0 + 3 := by rw [hml, List.length_append, ctail_length, hlen]
    have HM := hide hml
    have HM0 := hide hm0
    have HML := hide hmlen
    clear hml hm0 hmlen hlen
    go_enter Tryd.func8, Tryd.ntmps8
    go_wp2_with fail
    refine (lives_any _ hT).mono ?_
    rintro e w1 ⟨rfl, B1⟩
    go_wp2_with fail
    refine (copied_any _ _ _ l _ (hA.below B1) (by omega)).mono ?_
    rintro e w2 ⟨v2, rfl, hown2, hb2⟩
    obtain ⟨A2, c2, rfl, hc2, hm2, hr2⟩ := own_rd hown2
    have B2 := B1.trans (hb2.mono B1.size)
    clear hown2
    go_wp2_with fail
    refine (append_any 5592405 (by omega) _ _ _ l _ (hT.below B2) hr2 hl (by omega)).mono ?_
    rintro e w3 ⟨v3, rfl, hown3, hb3⟩
    obtain ⟨A3, c3, rfl, hc3, hm3, hr3⟩ := own_rd hown3
    have B3 := B2.trans (hb3.mono B2.size)
    rw [← HM.out] at hr3
    clear hown3
    go_wp2_with fail
    refine (flip_any _ _ _ m a1 q _ hr3 hmb (by omega) (by omega) hat).mono ?_
    rintro e w4 ⟨v4, ok, rfl, hfl, hb4⟩
    have B4 := B3.trans (hb4.mono B3.size)
    cases ok
    · go_wp2
      go_ret
      exact ⟨rfl, B4⟩
    · obtain ⟨a, rfl, hfit, hown4⟩ := hfl rfl
      obtain ⟨A4, c4, rfl, hc4, hm4, hr4⟩ := own_rd hown4
      have hfit' : cfits m.length a q 24 := by rw [HML.out]; exact hfit
      have hne := csum_burst_ne (5592405 % 16777216) m a q HM0.out hq2 hq0 hfit'
      have e1 := cerr_bad (n := len0) (by rw [cburst_length, HML.out]) hne
      have E1 := hide e1
      clear e1 hne hown4
      go_wp2_with fail
      refine (check_any 5592405 (by omega) _ _ _ (cburst m a q 24) _ (hT.below B4) hr4 (cburst_bytes hmb _ _ _) hc4 (by omega)).mono ?_
      rintro e w5 ⟨v5, rfl, hown5, hb5⟩
      rw [E1.out.1]
      rw [E1.out.2] at hown5
      obtain ⟨A5, c5, rfl, hc5, hm5, hr5⟩ := own_rd hown5
      have B5 := B4.trans (hb5.mono B4.size)
      go_wp2
      go_ret
      exact ⟨rfl, B5⟩
end Go.Proofs.YtgaecbpkfppeeaaDoor
