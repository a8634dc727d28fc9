/-
  The walk of the reference's Encode. Its contract.
-/
import Derived.Test.YticefenffmebpaaDab
namespace Go.Proofs.Yticefenffmebpaa
set_option linter.unusedVariables false
set_option linter.unusedSimpArgs false
open Go.RowKit

set_option maxHeartbeats 1000000 in
theorem rencode_any (sn ne md id : Int) (A : Option Addr) (n c : Nat) (l : List Nat) (w : World) (hA : Rd w 1 A n (bv l)) (hn : n ≤ 1000) :
    Calls Try.prog 15 #[.agg #[.int .i64 sn, .int .i64 ne, .int .i64 md, .int .i64 id, .slice A n c]] w fun e w' => ∃ v, e = .returned (.tuple #[v, .int .i64 ((dchk sn ne md id n : Nat) : Int)]) ∧
      w'.ownsRow w.heap.size 5 1 v (if dchk sn ne md id n = 0 then n + 2 else 0) (bv (if dchk sn ne md id n = 0 then denc sn ne md id l else [])) ∧ Below w.heap.size w w' := by
  have hB : Below w.heap.size w (w.alloc (.cells #[.int .i64 sn, .int .i64 ne, .int .i64 md, .int .i64 id, .slice A n c] 26)) := (Below.refl _ _).alloc (Nat.le_refl _) _
  have hbx : Blk (w.alloc (.cells #[.int .i64 sn, .int .i64 ne, .int .i64 md, .int .i64 id, .slice A n c] 26)) w.heap.size 26 #[.int .i64 sn, .int .i64 ne, .int .i64 md, .int .i64 id, .slice A n c] := Blk.new _ _ _
  by_cases h0 : dchk sn ne md id n = 0
  · rw [if_pos h0, if_pos h0, h0]
    obtain ⟨⟨k1, k2, k3⟩, i1, i2, hn2, _⟩ := dchk_zero h0
    obtain ⟨sn, rfl, hsn⟩ := dok_nat k1
    obtain ⟨ne, rfl, hne⟩ := dok_nat k2
    obtain ⟨md, rfl, hmd⟩ := dok_nat k3
    obtain ⟨id, rfl⟩ : ∃ y : Nat, id = (y : Int) := Int.eq_ofNat_of_zero_le (by omega)
    have HZ := hide h0
    clear k1 k2 k3 h0
    go_enter Try.func15, Try.ntmps15
    go_wp2_with fail
    refine (rcheck_any sn ne md id A n c _).mono ?_
    rintro e w1 ⟨rfl, hb1⟩
    rw [HZ.out]
    have hbx := hbx.below hb1 hbx.lt
    have hB := hB.trans (hb1.mono hB.size)
    have q0 := hbx.cell 0
    have q1 := hbx.cell 1
    have q2 := hbx.cell 2
    have q3 := hbx.cell 3
    have q4 := hbx.cell 4
    simp only [List.getElem?_toArray, List.getElem?_cons_zero, List.getElem?_cons_succ] at q0 q1 q2 q3 q4
    have q4' : ∀ o, (w1.alloc o).cell? ⟨w.heap.size, 4, none⟩ = some (.slice A n c) := fun o => (hbx.alloc o).cell 4
    obtain ⟨hd, hhd⟩ : ∃ hd : Nat, hd = id + 4 * ne + 8 * sn + 16 * md := ⟨_, rfl⟩
    have hd256 : hd < 256 := by omega
    have hcell : (id : Int) + 4 * (ne : Int) + 8 * (sn : Int) + 16 * (md : Int) = (hd : Int) := by omega
    have hlen := hA.blen
    have hown : (w1.alloc (.cells #[.int .u8 ((id : Int) + 4 * (ne : Int) + 8 * (sn : Int) + 16 * (md : Int)), .int .u8 (n : Int)] 5)).ownsRow w.heap.size 5 1 (.slice (some ⟨w1.heap.size, 0, none⟩) 2 2) 2 (bv [hd, n]) := by
      rw [hcell]
      exact own_blk (Blk.new w1 _ _) hB.size rfl (by decide)
    have hB2 := hB.alloc hB.size (.cells #[.int .u8 ((id : Int) + 4 * (ne : Int) + 8 * (sn : Int) + 16 * (md : Int)), .int .u8 (n : Int)] 5)
    have hA2 := hA.below hB2
    have hsz : w.heap.size ≤ (w1.alloc (.cells #[.int .u8 ((id : Int) + 4 * (ne : Int) + 8 * (sn : Int) + 16 * (md : Int)), .int .u8 (n : Int)] 5)).heap.size := hB2.size
    have HH := hide hhd
    have HC := hide hcell
    clear hhd hcell
    go_wp2_with (at_builtin; refine wpList_append_rd _ rfl (.tmp 33) (.tmp 36) _ rfl w.heap.size 5 (.int .u8 0) 1 1 under8 info8 rfl (by omega) _ 2 (bv [hd, n]) rfl hown A n c (bv l) rfl hA2 (bv_one _) (by omega) (by omega) hsz ?_; intro v3 w3 hown3 hg3 _)
    have hB3 := hB2.grown hg3 hsz (fun q hq => (hown.lt q hq).1)
    rw [← bv_append] at hown3
    go_wp2
    go_ret2
    refine ⟨_, rfl, ?_, hB3⟩
    have e1 : denc sn ne md id l = [hd, n] ++ l := by
      simp only [denc, dhead, hlen, List.cons_append, List.nil_append]
      congr 1
      have := HH.out
      omega
    rw [e1, Nat.add_comm n 2]
    exact hown3
  · rw [if_neg h0, if_neg h0]
    have h1 : (((dchk sn ne md id n : Nat) : Int) == 0) = false := by rw [beq_eq_false_iff_ne]; omega
    obtain ⟨E, hE⟩ : ∃ E, E = dchk sn ne md id n := ⟨_, rfl⟩
    rw [← hE] at h1 ⊢
    have HE := hide hE
    clear hE h0
    go_enter Try.func15, Try.ntmps15
    go_wp2_with fail
    refine (rcheck_any sn ne md id A n c _).mono ?_
    rintro e w1 ⟨rfl, hb1⟩
    rw [← HE.out]
    go_wp2
    go_ret2
    exact ⟨_, rfl, World.ownsRow_nil _ _ _ _, hB.trans (hb1.mono hB.size)⟩
end Go.Proofs.Yticefenffmebpaa
