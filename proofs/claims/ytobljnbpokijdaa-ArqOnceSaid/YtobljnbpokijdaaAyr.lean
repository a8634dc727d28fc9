/-
  The walk of the law ArqOnce.
-/
import Derived.Test.YtobljnbpokijdaaAyq

namespace Go.Proofs.Ytobljnbpokijdaa
set_option linter.unusedVariables false
set_option linter.unusedSimpArgs false
open Go.RowKit

set_option maxRecDepth 100000 in
set_option maxHeartbeats 20000000 in
theorem arqOnce_walk (A : Option Addr) (n c : Nat) (ss : List Stp) (w : World) (h0 : SRd w A n ss ∧ n ≤ c ∧ c ≤ maxLen) :
    Calls Try.prog 4 #[.slice A n c] w fun e w' => e = .returned (.bool true) ∧ Below w.heap.size w w' := by
  obtain ⟨hA, hnc, hm⟩ := h0
  by_cases hbig : 100 < n
  · have hbig' : (100 : Int) < (n : Int) := by omega
    go_enter Try.func4, Try.ntmps4
    go_wp2_with fail
    refine (lives_any _).mono ?_
    rintro e w1 ⟨rfl, hb1⟩
    go_wp2
    go_ret
    exact ⟨rfl, hb1⟩
  · have hbig' : (n : Int) ≤ (100 : Int) := by omega
    go_enter Try.func4, Try.ntmps4
    go_upto_region 5 with (go_at_call 7; refine (lives_any _).mono ?_; rintro e w1 ⟨rfl, hb1⟩)
    go_cut [3] (fun s3 wx => ∃ g3 : Nat, s3 = .pointer (some ⟨g3, 0, none⟩) ∧ OnRel w.heap.size w g3 E0 wx)
    case first =>
      go_wp2_with fail
      refine (new_any _).mono ?_
      rintro e w2 ⟨rfl, hb2⟩
      go_wp2_with fail
      refine (new_any _).mono ?_
      rintro e w3 ⟨rfl, hb3⟩
      go_wp2_with fail
      have B3 := bseq (bseq hb1 hb2) hb3
      go_meet
      case rel => exact ⟨w3.heap.size, rfl, M0, Emem.start _ _ _, Blk.new _ _ _, B3.size, bal B3 _⟩
    case rest =>
      obtain ⟨g3, rfl, hR⟩ := hcut
      go_wp2_with fail
      go_loopg [4] n (fun g i wr => ∃ k : Nat, g = n - k ∧ k ≤ n ∧ i = .int .i64 k ∧ ∃ E, Inv E ∧ OkE k E ∧ OnRel w.heap.size w g3 E wr)
      case atStart => exact ⟨0, rfl, Nat.zero_le _, rfl, E0, Inv.start, OkE.start, hR⟩
      case round =>
        obtain ⟨k, rfl, hk, rfl, E, hI, hOk, hR⟩ := hrel
        by_cases hlt : k < n
        · obtain ⟨b, o, x, rfl, hbw, HX, c0, c1, c2, c3, hp⟩ := hA.at_ hlt
          have hkn : (k : Int) < (n : Int) := by omega
          go_upto_region 9 with (fail)
          go_cut [] (fun wx => OnRel w.heap.size w g3 (mv E x.d x.lost x.p.abs) wx)
          case first =>
            exact on_r9 _ _ _ _ _ _ _ _ _ _ _ _ _ _ _ _ _ _ _ _ _ _ _ _ _ _ _ _ _ _ _ _ _ _ _ _ _ _ _ _ _ _ hR hOk hlt (by omega) hbw rfl c0 c1 c2 c3 hp ‹_› ‹_› (fun c x t v u h => by cases t <;> exact h)
          case rest =>
            have hR' := hcut
            have hI' := hI.mv x.d x.lost x.p.abs
            have hO' := hOk.mv x.d x.lost x.p.abs
            clear hcut hI hOk hR c0 c1 c2 c3
            obtain ⟨E', hE'⟩ : ∃ E', E' = mv E x.d x.lost x.p.abs := ⟨_, rfl⟩
            rw [← hE'] at hR' hI' hO'
            clear hE'
            have hR2 := hR'
            obtain ⟨M, hE, kx, hg3, hbe⟩ := hR2
            obtain ⟨⟨k0, hD0⟩, ⟨k1, hD1⟩⟩ := hI'
            have hrn : ∀ i, i < 4 → (M.r i).n ≤ 100000 := fun i hi => by rw [hE.row hi]; have := hO'.r i hi; omega
            obtain ⟨w1, rfl⟩ : ∃ y, y = wc := ⟨_, rfl⟩
            have HX1 := hide (show w1.heap[g3]? = some (.cells (enCells E' M) 52 (0, 0)) from kx)
            go_wp2_with (with_reducible refine wpList_load_row rfl _ (.tmp 3) rfl g3 rfl _ _ _ _ HX1.out Try.underlying52 rfl (by kernel_rfl) ?_)
            refine (orderly_0 E' M w.heap.size k0 [g3] _ hE hD0 hrn hO'.s0.len).mono ?_
            rintro e w2 ⟨rfl, hb2⟩
            have HX2 := hide (show w2.heap[g3]? = some (.cells (enCells E' M) 52 (0, 0)) from kx.below hb2 kx.lt)
            go_wp2_with ((with_reducible refine wpList_load_row_w ?hwq _ (.tmp 3) rfl g3 rfl _ _ _ _ HX2.out Try.underlying52 rfl (by kernel_rfl) ?restq); (case hwq => rfl))
            refine (orderly_1 E' M w.heap.size k1 [g3] _ (hE.keep (.of_below hb2)) hD1 hrn hO'.s1.len).mono ?_
            rintro e w4 ⟨rfl, hb4⟩
            go_wp2
            go_roundg (n - (k + 1))
            case measure => omega
            case rel => exact ⟨k + 1, rfl, by omega, by go_num, E', ⟨⟨k0, hD0⟩, ⟨k1, hD1⟩⟩, hO', (hR'.keep hb2).keep hb4⟩
        · obtain rfl : k = n := by omega
          obtain ⟨M, hE, kx, hg3, hbe⟩ := hR
          go_wp2
          go_ret
          exact ⟨rfl, hbe⟩
end Go.Proofs.Ytobljnbpokijdaa
