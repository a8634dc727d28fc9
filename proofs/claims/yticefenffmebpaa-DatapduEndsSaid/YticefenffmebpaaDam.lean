/-
  The walk of the law DatapduEnds.
-/
import Derived.Test.YticefenffmebpaaDai
import Derived.Test.YticefenffmebpaaDaj
namespace Go.Proofs.Yticefenffmebpaa
set_option linter.unusedVariables false
set_option linter.unusedSimpArgs false
open Go.RowKit

set_option maxHeartbeats 1000000 in
theorem ends_early (sn ne md id : Int) (A : Option Addr) (n c : Nat) (l : List Nat) (cut : Int) (M : Option Addr) (k d : Nat) (more : List Nat) (w : World) (hA : Rd w 1 A n (bv l)) (h : 1000 < n ∨ k < 1 ∨ 100 < k) :
    Calls Try.prog 8 #[.agg #[.int .i64 sn, .int .i64 ne, .int .i64 md, .int .i64 id, .slice A n c], .int .i64 cut, .slice M k d] w fun e w' => e = .returned (.bool true) ∧ Below w.heap.size w w' := by
  have hbx : Blk (w.alloc (.cells #[.int .i64 sn, .int .i64 ne, .int .i64 md, .int .i64 id, .slice A n c] 26)) w.heap.size 26 #[.int .i64 sn, .int .i64 ne, .int .i64 md, .int .i64 id, .slice A n c] := Blk.new _ _ _
  have hB : Below w.heap.size w (w.alloc (.cells #[.int .i64 sn, .int .i64 ne, .int .i64 md, .int .i64 id, .slice A n c] 26)) := (Below.refl _ _).alloc (Nat.le_refl _) _
  have hc : (1000 : Int) < (n : Int) ∨ (¬ (1000 : Int) < (n : Int)) ∧ (k : Int) < 1 ∨ (¬ (1000 : Int) < (n : Int)) ∧ ¬ (k : Int) < 1 ∧ (100 : Int) < (k : Int) := by omega
  clear h
  rcases hc with h | ⟨h, h'⟩ | ⟨h, h', h2⟩
  all_goals
    go_enter Try.func8, Try.ntmps8
    go_wp2_with fail
    refine (example_any _).mono ?_
    rintro e w1 ⟨rfl, hb1⟩
    go_wp2
    go_ret
    exact ⟨rfl, hB.trans (hb1.mono hB.size)⟩
set_option maxHeartbeats 1000000 in
theorem ends_bad (sn ne md id : Int) (A : Option Addr) (n c : Nat) (l : List Nat) (cut : Int) (M : Option Addr) (k d : Nat) (more : List Nat) (w : World) (hA : Rd w 1 A n (bv l)) (h1 : ¬ (1000 : Int) < (n : Int)) (h2 : ¬ (k : Int) < 1) (h3 : ¬ (100 : Int) < (k : Int)) (hz : dchk sn ne md id n ≠ 0) :
    Calls Try.prog 8 #[.agg #[.int .i64 sn, .int .i64 ne, .int .i64 md, .int .i64 id, .slice A n c], .int .i64 cut, .slice M k d] w fun e w' => e = .returned (.bool true) ∧ Below w.heap.size w w' := by
  have hbx : Blk (w.alloc (.cells #[.int .i64 sn, .int .i64 ne, .int .i64 md, .int .i64 id, .slice A n c] 26)) w.heap.size 26 #[.int .i64 sn, .int .i64 ne, .int .i64 md, .int .i64 id, .slice A n c] := Blk.new _ _ _
  have hB : Below w.heap.size w (w.alloc (.cells #[.int .i64 sn, .int .i64 ne, .int .i64 md, .int .i64 id, .slice A n c] 26)) := (Below.refl _ _).alloc (Nat.le_refl _) _
  have hnz : (((dchk sn ne md id n : Nat) : Int) != 0) = true := by rw [bne_iff_ne]; omega
  obtain ⟨E, hE⟩ : ∃ E, E = dchk sn ne md id n := ⟨_, rfl⟩
  rw [← hE] at hnz
  have HE := hide hE
  clear hE hz
  go_enter Try.func8, Try.ntmps8
  go_wp2_with fail
  refine (check_any sn ne md id A n c _).mono ?_
  rintro e w1 ⟨rfl, hb1⟩
  rw [← HE.out]
  have B1 := hB.trans (hb1.mono hB.size)
  go_wp2_with fail
  refine (example_any _).mono ?_
  rintro e w2 ⟨rfl, hb2⟩
  go_wp2
  go_ret
  exact ⟨rfl, B1.trans (hb2.mono B1.size)⟩
set_option maxHeartbeats 2000000 in
theorem ends_good (sn ne md id : Int) (A : Option Addr) (n c : Nat) (l : List Nat) (cut : Int) (M : Option Addr) (k d : Nat) (more : List Nat) (w : World) (hA : Rd w 1 A n (bv l)) (hl : ∀ x ∈ l, x < 256) (hM : Rd w 1 M k (bv more)) (hml : ∀ x ∈ more, x < 256) (h1 : ¬ (1000 : Int) < (n : Int)) (h2 : ¬ (k : Int) < 1) (h3 : ¬ (100 : Int) < (k : Int)) (hz : dchk sn ne md id n = 0) :
    Calls Try.prog 8 #[.agg #[.int .i64 sn, .int .i64 ne, .int .i64 md, .int .i64 id, .slice A n c], .int .i64 cut, .slice M k d] w fun e w' => e = .returned (.bool true) ∧ Below w.heap.size w w' := by
  have hbx : Blk (w.alloc (.cells #[.int .i64 sn, .int .i64 ne, .int .i64 md, .int .i64 id, .slice A n c] 26)) w.heap.size 26 #[.int .i64 sn, .int .i64 ne, .int .i64 md, .int .i64 id, .slice A n c] := Blk.new _ _ _
  have hB : Below w.heap.size w (w.alloc (.cells #[.int .i64 sn, .int .i64 ne, .int .i64 md, .int .i64 id, .slice A n c] 26)) := (Below.refl _ _).alloc (Nat.le_refl _) _
  have hlen := hA.blen
  have hlm := hM.blen
  have hz' : dchk sn ne md id l.length = 0 := by rw [hlen]; exact hz
  have hn255 : n ≤ 255 := (dchk_zero hz).2.2.2.1
  have hbytes := denc_bytes hz' hl
  have hdl : (denc sn ne md id l).length = n + 2 := by simp [denc, hlen]
  have hcutp := fun j (hj : j < n + 2) => dcut (k := j) hz' (by omega)
  have hmorep := dmore (more := more) hz' (by omega)
  obtain ⟨L, hL⟩ : ∃ L, L = denc sn ne md id l := ⟨_, rfl⟩
  rw [← hL] at hbytes hdl hmorep
  rw [← hL] at hcutp
  have HL := hide hL
  have HZ := hide hz
  have HC := hide hcutp
  have HM := hide hmorep
  have HDL := hide hdl
  clear hL hz hcutp hmorep hz' hdl
  go_enter Try.func8, Try.ntmps8
  go_wp2_with fail
  refine (check_any sn ne md id A n c _).mono ?_
  rintro e w1 ⟨rfl, hb1⟩
  rw [HZ.out]
  have B1 := hB.trans (hb1.mono hB.size)
  have hbx1 := hbx.below hb1 hbx.lt
  have q0 := hbx1.cell 0
  have q1 := hbx1.cell 1
  have q2 := hbx1.cell 2
  have q3 := hbx1.cell 3
  have q4 := hbx1.cell 4
  simp only [List.getElem?_toArray, List.getElem?_cons_zero, List.getElem?_cons_succ] at q0 q1 q2 q3 q4
  go_wp2_with fail
  refine (encode_any sn ne md id A n c l _ (hA.below B1) (by omega)).mono ?_
  rintro e w2 ⟨v2, rfl, hown2, hb2⟩
  rw [HZ.out, if_pos rfl, if_pos rfl, ← HL.out] at hown2
  rw [HZ.out]
  obtain ⟨A2, c2, hv2, hc2, _, hr2⟩ := own_rd hown2
  obtain ⟨b2, o2, rfl, hb2lt, _⟩ := hr2.2 (by omega)
  rw [hv2]
  have B2 := B1.trans (hb2.mono B1.size)
  clear hown2
  have hcs : cut < 0 ∨ (0 ≤ cut ∧ (n : Int) + 2 ≤ cut) ∨ (∃ j : Nat, cut = (j : Int) ∧ j < n + 2) := by
    rcases (show cut < 0 ∨ (0 ≤ cut ∧ (n : Int) + 2 ≤ cut) ∨ (0 ≤ cut ∧ cut < (n : Int) + 2) by omega) with h | h | h
    · exact .inl h
    · exact .inr (.inl h)
    · exact .inr (.inr ⟨cut.toNat, by omega, by omega⟩)
  have h22 : ¬ (n : Int) + 2 < 2 := by omega
  rcases hcs with hcut | ⟨hcut, hcut2⟩ | ⟨j, rfl, hj⟩
  · go_wp2_with fail
    refine (example_any _).mono ?_
    rintro e w3 ⟨rfl, hb3⟩
    go_wp2
    go_ret
    exact ⟨rfl, B2.trans (hb3.mono B2.size)⟩
  · have hcut' : ¬ cut < 0 := by omega
    go_wp2_with fail
    refine (example_any _).mono ?_
    rintro e w3 ⟨rfl, hb3⟩
    go_wp2
    go_ret
    exact ⟨rfl, B2.trans (hb3.mono B2.size)⟩
  · have hj' : ¬ (n : Int) + 2 ≤ (j : Int) := by omega
    have C1 := hide (HC.out j hj)
    have hrj : Rd w2 1 (some ⟨b2, o2, none⟩) j (bv (L.take j)) := by
      have := hr2.take (k := j) (by omega)
      rw [bv_take] at this
      exact this
    have htj : ∀ x ∈ L.take j, x < 256 := fun x hx => hbytes x (List.mem_of_mem_take hx)
    go_wp2_with fail
    refine (dec_bad (L.take j) 3 C1.out (by decide) (some ⟨b2, o2, none⟩) j c2 w2 hrj htj (by omega) (by omega)).mono ?_
    rintro e w3 ⟨A3, c3, rfl, hb3⟩
    have B3 := B2.trans (hb3.mono B2.size)
    have B3' := (B3.alloc B3.size (.cells #[.int .i64 0, .int .i64 0, .int .i64 0, .int .i64 0, .slice A3 0 c3] 26)).alloc (B3.alloc B3.size (.cells #[.int .i64 0, .int .i64 0, .int .i64 0, .int .i64 0, .slice A3 0 c3] 26)).size (.cells #[] 5)
    have hr3 := ((hr2.below hb3).alloc (.cells #[.int .i64 0, .int .i64 0, .int .i64 0, .int .i64 0, .slice A3 0 c3] 26)).alloc (.cells #[] 5)
    have hM3 := hM.below B3'
    have hown : ((w3.alloc (.cells #[.int .i64 0, .int .i64 0, .int .i64 0, .int .i64 0, .slice A3 0 c3] 26)).alloc (.cells #[] 5)).ownsRow w.heap.size 5 1 (.slice (some ⟨w3.heap.size + 1, 0, none⟩) 0 0) 0 [] := own_made2 (by simp) (by have := B3.size; omega)
    have hsz := B3'.size
    have hnil := hide (List.nil_append (bv L))
    have hL4 : (L ++ more).length = n + 2 + k := by rw [List.length_append, HDL.out, hlm]
    have HL4 := hide hL4
    have hb4 : ∀ x ∈ L ++ more, x < 256 := by
      intro x hx
      rcases List.mem_append.1 hx with h | h
      · exact hbytes x h
      · exact hml x h
    clear hL4 hrj htj hr2
    go_wp2_with (first
      | (at_builtin; refine wpList_append_rd _ rfl (.tmp 74) (.tmp 75) _ rfl w.heap.size 5 (.int .u8 0) 1 1 under8 info8 rfl (by omega) _ 0 [] rfl hown (some ⟨b2, o2, none⟩) (n + 2) c2 (bv L) rfl hr3 (bv_one _) (by omega) (by omega) hsz ?_; intro v4 w4 hown4 hg4 _; have B4 := B3'.grown hg4 hsz (fun q hq => (hown.lt q hq).1); have hM4 := hM.below B4; have hsz4 := B4.size)
      | (at_builtin; refine wpList_append_rd _ rfl (.tmp 76) (.tmp 77) _ rfl w.heap.size 5 (.int .u8 0) 1 1 under8 info8 rfl (by omega) _ (0 + (n + 2)) ([] ++ bv L) rfl hown4 M k d (bv more) rfl hM4 (bv_one _) (by omega) (by omega) hsz4 ?_; intro v5 w5 hown5 hg5 _; have B5 := B4.grown hg5 hsz4 (fun q hq => (hown4.lt q hq).1); obtain ⟨A5, c5, hv5, hc5, _, hr5⟩ := own_rd hown5; rw [hv5]))
    rw [List.nil_append, ← bv_append, Nat.zero_add] at hr5
    rw [Nat.zero_add] at hc5
    refine (dec_bad (L ++ more) 2 HM.out (by decide) A5 (n + 2 + k) c5 w5 hr5 hb4 hc5 (by omega)).mono ?_
    rintro e w6 ⟨A6, c6, rfl, hb6⟩
    have B6 := (B5.trans (hb6.mono B5.size)).alloc (B5.trans (hb6.mono B5.size)).size (.cells #[.int .i64 0, .int .i64 0, .int .i64 0, .int .i64 0, .slice A6 0 c6] 26)
    go_wp2_with fail
    refine (example_any _).mono ?_
    rintro e w7 ⟨rfl, hb7⟩
    go_wp2
    go_ret
    exact ⟨rfl, B6.trans (hb7.mono B6.size)⟩
theorem datapduEnds_walk (sn ne md id : Int) (A : Option Addr) (n c : Nat) (l : List Nat) (cut : Int) (M : Option Addr) (k d : Nat) (more : List Nat) (w : World) (h0 : Rd w 1 A n (bv l) ∧ (∀ x ∈ l, x < 256) ∧ n ≤ c ∧ c ≤ maxLen) (h1 : (Lit.int .i64 cut).wf = true) (h2 : Rd w 1 M k (bv more) ∧ (∀ x ∈ more, x < 256) ∧ k ≤ d ∧ d ≤ maxLen) :
    Calls Try.prog 8 #[.agg #[.int .i64 sn, .int .i64 ne, .int .i64 md, .int .i64 id, .slice A n c], .int .i64 cut, .slice M k d] w fun e w' => e = .returned (.bool true) ∧ Below w.heap.size w w' := by
  by_cases h : 1000 < n ∨ k < 1 ∨ 100 < k
  · exact ends_early sn ne md id A n c l cut M k d more w h0.1 h
  · by_cases hz : dchk sn ne md id n = 0
    · exact ends_good sn ne md id A n c l cut M k d more w h0.1 h0.2.1 h2.1 h2.2.1 (by omega) (by omega) (by omega) hz
    · exact ends_bad sn ne md id A n c l cut M k d more w h0.1 (by omega) (by omega) (by omega) hz
end Go.Proofs.Yticefenffmebpaa
