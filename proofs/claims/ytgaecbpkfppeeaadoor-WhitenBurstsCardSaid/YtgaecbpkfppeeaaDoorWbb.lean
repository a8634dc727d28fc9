/-
  The walks of package whiten's and its reference's functions on byte strings: Same, copied, sequence, Stream, Apply. Each function's contract.
-/
import Derived.Test.YtgaecbpkfppeeaaDoorWba
namespace Go.Proofs.YtgaecbpkfppeeaaDoor.Wh

set_option linter.unusedVariables false
set_option linter.unusedSimpArgs false
open Go.RowKit Go.Proofs.YtgaecbpkfppeeaaDoor

set_option maxHeartbeats 400000 in
theorem copied_any (A : Option Addr) (n c : Nat) (l : List Nat) (w : World) (hA : Rd w 1 A n (bv l)) (hn : n ≤ 140737488351232) :
    Calls Tryd.prog 24 #[.slice A n c] w fun e w' => ∃ A' c', e = .returned (.slice A' n c') ∧ n ≤ c' ∧ Rd w' 1 A' n (bv l) ∧ Below w.heap.size w w' := by
  go_enter Tryd.func24, Tryd.ntmps24
  go_wp2_with (at_builtin; refine wpList_append_rd _ rfl (.tmp 3) (.tmp 4) _ rfl w.heap.size 5 (.int .u8 0) 1 1 under8 info8 rfl (by omega) (.slice (some ⟨w.heap.size, 0, none⟩) 0 0) 0 [] rfl (own_made w) A n c (bv l) rfl (hA.alloc _) (bv_one l) (by omega) (by omega) (by simp) ?_; intro v1 w1 hown hg _)
  go_ret
  obtain ⟨A', c', rfl, hc', _, hr⟩ := own_rd hown
  exact ⟨A', c', ret_slice (by omega), by omega, by simpa using hr, ((Below.refl _ _).alloc (Nat.le_refl _) _).grown hg (by simp) (by simp [Value.ownBlock])⟩

theorem or_bit (j p s : Nat) (hj : j < 8) (hp : p < 2 ^ j) (hs : s < 128) : bits BinOp.or IntKind.u8 (p : Int) (wrap64 ((s : Int) / 64 * 2 ^ j) % 256) = ((p + 2 ^ j * (s / 64) : Nat) : Int) := by
  have h : ∀ (j : Fin 8) (p : Fin 128) (b : Fin 2), p.1 < 2 ^ j.1 → bits BinOp.or IntKind.u8 ((p.1 : Nat) : Int) (wrap64 (((b.1 : Nat) : Int) * 2 ^ j.1) % 256) = ((p.1 + 2 ^ j.1 * b.1 : Nat) : Int) := by decide +kernel
  have hp' : p < 128 := Nat.lt_of_lt_of_le hp (Nat.le_trans (Nat.pow_le_pow_right (by omega) (show j ≤ 7 by omega)) (by decide))
  exact h ⟨j, hj⟩ ⟨p, hp'⟩ ⟨s / 64, by omega⟩ hp
theorem seq_step (r0 n k j : Nat) (hf : r0 < 128) (hj : j < 8) {W : World} {G : Nat} (h : Blk W G 5 (bv (wrow n r0 k j)).toArray) :
    Blk ((W.setCell ⟨G, k, none⟩ (.int .u8 (bits BinOp.or IntKind.u8 ((wpart (wit (8 * k) r0) j : Nat) : Int) (wrap64 (((wit (8 * k + j) r0 : Nat) : Int) / 64 * 2 ^ j) % 256)))).drew) G 5 (bv (wrow n r0 k (j + 1))).toArray := by
  have hw : wit (8 * k + j) r0 = wit j (wit (8 * k) r0) := by rw [Nat.add_comm, wit_add]
  rw [or_bit j _ _ hj (wpart_lt _ (wit_lt _ _ hf) j) (wit_lt _ _ hf)]
  have := (h.set_ k (.int .u8 ((wpart (wit (8 * k) r0) j + 2 ^ j * (wit (8 * k + j) r0 / 64) : Nat) : Int))).drew
  rw [bv_set, wrow_set n r0 k j _ (by rw [hw]; rfl)] at this
  exact this
set_option maxHeartbeats 1000000 in
theorem sequence_any (ch : Int) (n : Nat) (hn : n ≤ 140737488351232) (w : World) :
    Calls Tryd.prog 33 #[.int .i64 ch, .int .i64 (n : Int)] w fun e w' => e = .returned (.slice (some ⟨w.heap.size, 0, none⟩) n n) ∧ Blk w' w.heap.size 5 (bv (wseq n (wfirst ch))).toArray ∧ Below w.heap.size w w' := by
  have hmk := run_make_row' (P := Tryd.prog) 23 5 (.int .u8 0) 1 under8 info8 rfl .i64 .i64 n (by omega) (by omega)
  have hf := wfirst_lt ch
  go_enter Tryd.func33, Tryd.ntmps33
  go_wp2_with (go_at_call 34; refine (first_any _ _).mono ?_; rintro e w' ⟨rfl, rfl⟩)
  rw [zeros_bv]
  clear hmk
  obtain ⟨r0, hr0⟩ : ∃ r0, r0 = wfirst ch := ⟨_, rfl⟩
  obtain ⟨G, hG⟩ : ∃ G, G = w.heap.size := ⟨_, rfl⟩
  rw [← hr0] at hf ⊢
  rw [← hG]
  have HG := hide hG
  have HR := hide hr0
  clear hr0 hG
  go_loopw [5, 16] (fun r i wr => ∃ k : Nat, k ≤ n ∧ i = .int .i64 k ∧ r = .int .i64 ((wit (8 * k) r0 : Nat) : Int) ∧ Blk wr G 5 (bv (wseq k r0 ++ List.replicate (n - k) 0)).toArray ∧ Below G w wr) (fun _ i _ => n - (intOf i).toNat)
  case atStart => exact ⟨0, Nat.zero_le _, rfl, rfl, by rw [HG.out]; simpa [wseq] using Blk.new w _ _, by rw [HG.out]; exact (Below.refl _ _).alloc (Nat.le_refl _) _⟩
  case round =>
    obtain ⟨k, hk, rfl, rfl, hblk, hbel⟩ := hrel
    by_cases hlt : k < n
    · rw [wrow_zero n r0 k hlt] at hblk
      obtain ⟨wo, rfl⟩ : ∃ wo : World, wo = wr := ⟨_, rfl⟩
      go_wp2
      go_loopw [5, 19] (fun r i wr => ∃ j : Nat, j ≤ 8 ∧ i = .int .i64 j ∧ r = .int .i64 ((wit (8 * k + j) r0 : Nat) : Int) ∧ Blk wr G 5 (bv (wrow n r0 k j)).toArray ∧ Below G w wr) (fun _ i _ => 8 - (intOf i).toNat)
      case atStart => exact ⟨0, Nat.zero_le _, rfl, rfl, hblk, hbel⟩
      case round =>
        obtain ⟨j, hj, rfl, rfl, hblk2, hbel2⟩ := hrel
        by_cases hlj : j < 8
        · have hcell : wr.cell? ⟨G, k, none⟩ = some (.int .u8 ((wpart (wit (8 * k) r0) j : Nat) : Int)) := by
            rw [hblk2.cell]; simp [bv, wrow_get]
          have hfr : wr.frozen? ⟨G, k, none⟩ = false := hblk2.frozen k
          go_wp2_with (go_at_call 35; refine (step_any _ (wit_lt _ _ hf) _).mono ?_; rintro e w' ⟨rfl, rfl⟩)
          go_region
          go_wp2
          go_roundw
          case rel => exact ⟨j + 1, by omega, by go_num, rfl, seq_step r0 n k j hf hlj hblk2, (hbel2.setCell (p := ⟨G, k, none⟩) (Nat.le_refl _) _).drew⟩
          case measure => simp [intOf]; omega
        · obtain rfl : j = 8 := by omega
          rw [wrow_eight] at hblk2
          go_wp2
          go_roundw
          case rel => exact ⟨k + 1, by omega, by go_num, rfl, hblk2, hbel2⟩
          case measure => simp [intOf]; omega
    · obtain rfl : k = n := by omega
      go_wp2
      go_ret
      rw [← HG.out, ← HR.out]
      exact ⟨rfl, by simpa using hblk, hbel⟩

/-- 0, or n, or the most: as Stream has it. -/
def wlen (n : Int) : Nat := (min (max n 0) 65536).toNat
set_option maxHeartbeats 400000 in
theorem stream_any (ch n : Int) (w : World) :
    Calls Tryd.prog 32 #[.int .i64 ch, .int .i64 n] w fun e w' => ∃ A c, e = .returned (.slice A (wlen n) c) ∧ Rd w' 1 A (wlen n) (bv (wseq (wlen n) (wfirst ch))) ∧ Below w.heap.size w w' := by
  obtain ⟨M, hM⟩ : ∃ M : Nat, M = wlen n := ⟨_, rfl⟩
  have hb : M ≤ 65536 := by rw [hM]; unfold wlen; omega
  have hc : (n < 0 ∧ (0 : Int) = (M : Int)) ∨ (65536 < n ∧ (65536 : Int) = (M : Int)) ∨ (0 ≤ n ∧ n ≤ 65536 ∧ n = (M : Int)) := by
    rw [hM]; unfold wlen
    rcases (show n < 0 ∨ 65536 < n ∨ (0 ≤ n ∧ n ≤ 65536) from by omega) with h | h | ⟨h, h'⟩
    · exact .inl ⟨h, by omega⟩
    · exact .inr (.inl ⟨h, by omega⟩)
    · exact .inr (.inr ⟨h, h', by omega⟩)
  rw [← hM]
  clear hM
  rcases hc with ⟨h, hM⟩ | ⟨h, hM⟩ | ⟨h, h', hM⟩
  all_goals
    have HM := hide hM
    clear hM
    go_enter Tryd.func32, Tryd.ntmps32
    go_wp2_with fail
    rw [HM.out]
    refine (sequence_any ch M (by omega) _).mono ?_
    rintro e w1 ⟨rfl, hblk, hbel⟩
    go_wp2
    go_ret
    exact ⟨_, _, rfl, hblk.rd (by rw [bv_length, wseq_length]), hbel⟩
set_option maxHeartbeats 1000000 in
theorem apply_any (ch : Int) (A : Option Addr) (n c : Nat) (l : List Nat) (w : World) (hA : Rd w 1 A n (bv l)) (hl : ∀ x ∈ l, x < 256) (hn : n ≤ 140737488351232) :
    Calls Tryd.prog 23 #[.int .i64 ch, .slice A n c] w fun e w' => ∃ A' c', e = .returned (.slice A' n c') ∧ n ≤ c' ∧ Rd w' 1 A' n (bv (wapply ch l)) ∧ Below w.heap.size w w' := by
  have hlen := hA.blen
  go_enter Tryd.func23, Tryd.ntmps23
  go_wp2_with (go_at_call 33; refine (sequence_any ch n hn _).mono ?_; rintro e w1 ⟨rfl, hblk, hbel⟩)
  obtain ⟨G, hG⟩ : ∃ G, G = w.heap.size := ⟨_, rfl⟩
  rw [← hG] at hblk hbel ⊢
  have HG := hide hG
  have HL := hide hlen
  clear hG hlen
  go_loopw [14] (fun i wr => ∃ k : Nat, k ≤ n ∧ i = .int .i64 k ∧ Blk wr G 5 (bv ((wapply ch l).take k ++ (wseq n (wfirst ch)).drop k)).toArray ∧ Below G w wr) (fun i _ => n - (intOf i).toNat)
  case atStart => exact ⟨0, Nat.zero_le _, rfl, by simpa using hblk, hbel⟩
  case round =>
    obtain ⟨k, hk, rfl, hb, hbe⟩ := hrel
    by_cases hlt : k < n
    · obtain ⟨b, o, x, rfl, hbs, hcx, HX⟩ := (hA.below (HG.out ▸ hbe)).byte hlt
      obtain ⟨y, hy⟩ := wseq_some n (wfirst ch) k hlt
      have hcell : wr.cell? ⟨G, k, none⟩ = some (.int .u8 (y : Int)) := hb.byte (by rw [turn_get _ _ _ (by rw [wapply_length, HL.out]; exact hk), hy])
      have hfr : wr.frozen? ⟨G, k, none⟩ = false := hb.frozen k
      have HY := hide hy
      clear hy
      go_wp2
      go_roundw
      case rel =>
        refine ⟨k + 1, by omega, by go_num, ?_, hbe.setCell (p := ⟨G, k, none⟩) (Nat.le_refl _) _⟩
        rw [u8_xor _ _ (wseq_bytes _ _ (wfirst_lt ch) _ (List.mem_of_getElem? HY.out)) (hl _ (List.mem_of_getElem? HX.out))]
        have := hb.set_ k (.int .u8 ((y ^^^ x : Nat) : Int))
        rw [bv_set, turn_set _ _ _ _ (by rw [wapply_get ch l k x y HX.out (by rw [HL.out]; exact HY.out), Nat.xor_comm]) (by rw [wseq_length]; exact hlt)] at this
        exact this
      case measure => simp [intOf]; omega
    · obtain rfl : k = n := by omega
      rw [List.take_of_length_le (by rw [wapply_length, HL.out]; exact Nat.le_refl _), List.drop_of_length_le (by rw [wseq_length]; exact Nat.le_refl _), List.append_nil] at hb
      go_wp2
      go_ret
      rw [← HG.out]
      exact ⟨_, _, rfl, Nat.le_refl _, hb.rd (by rw [bv_length, wapply_length, HL.out]), hbe⟩

end Go.Proofs.YtgaecbpkfppeeaaDoor.Wh
