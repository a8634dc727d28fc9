/-
  The walks of SamePacket, SamePDU and exampleHolds. Each function's contract.
-/
import Derived.Test.YticefenffmebpaaDac
import Derived.Test.YticefenffmebpaaDad
import Derived.Test.YticefenffmebpaaDae
import Derived.Test.YticefenffmebpaaDah
namespace Go.Proofs.Yticefenffmebpaa
set_option linter.unusedVariables false
set_option linter.unusedSimpArgs false
open Go.RowKit

theorem samepkt_any (id : Int) (A B : Option Addr) (n c m d : Nat) (l : List Nat) (w : World) (hA : Rd w 1 A n (bv l)) (hB : Rd w 1 B m (bv l)) (hl : ∀ x ∈ l, x < 256) :
    Calls Try.prog 26 #[.agg #[.int .i64 id, .slice A n c], .agg #[.int .i64 id, .slice B m d]] w fun e w' => e = .returned (.bool true) ∧ Below w.heap.size w w' := by
  have hW : Below w.heap.size w ((w.alloc (.cells #[.int .i64 id, .slice A n c] 24)).alloc (.cells #[.int .i64 id, .slice B m d] 24)) := ((Below.refl _ _).alloc (Nat.le_refl _) _).alloc (by simp) _
  have hA2 := hA.below hW
  have hB2 := hB.below hW
  go_enter Try.func26, Try.ntmps26
  go_wp2_with fail
  refine (same_any A B n m c d l l _ hA2 hB2 hl hl).mono ?_
  rintro e w' ⟨rfl, rfl⟩
  rw [decide_eq_true rfl]
  go_wp2
  go_ret
  exact ⟨rfl, hW⟩
theorem samepdu_any (sn ne md id : Int) (A B : Option Addr) (n c m d : Nat) (l : List Nat) (w : World) (hA : Rd w 1 A n (bv l)) (hB : Rd w 1 B m (bv l)) (hl : ∀ x ∈ l, x < 256) :
    Calls Try.prog 19 #[.agg #[.int .i64 sn, .int .i64 ne, .int .i64 md, .int .i64 id, .slice A n c], .agg #[.int .i64 sn, .int .i64 ne, .int .i64 md, .int .i64 id, .slice B m d]] w fun e w' => e = .returned (.bool true) ∧ Below w.heap.size w w' := by
  have hW : Below w.heap.size w ((w.alloc (.cells #[.int .i64 sn, .int .i64 ne, .int .i64 md, .int .i64 id, .slice A n c] 26)).alloc (.cells #[.int .i64 sn, .int .i64 ne, .int .i64 md, .int .i64 id, .slice B m d] 26)) := ((Below.refl _ _).alloc (Nat.le_refl _) _).alloc (by simp) _
  have hA2 := hA.below hW
  have hB2 := hB.below hW
  go_enter Try.func19, Try.ntmps19
  go_wp2_with fail
  refine (samepkt_any id A B n c m d l _ hA2 hB2 hl).mono ?_
  rintro e w1 ⟨rfl, hb1⟩
  go_wp2
  go_ret
  exact ⟨rfl, hW.trans (hb1.mono hW.size)⟩
/-- Decode at bytes that are refused. -/
theorem dec_bad (l : List Nat) (E : Nat) (he : derr l = E) (h0 : E ≠ 0) (A : Option Addr) (n c : Nat) (w : World) (hA : Rd w 1 A n (bv l)) (hl : ∀ x ∈ l, x < 256) (hnc : n ≤ c) (hn : n ≤ 10000) :
    Calls Try.prog 17 #[.slice A n c] w fun e w' => ∃ A' c', e = .returned (.tuple #[.agg #[.int .i64 0, .int .i64 0, .int .i64 0, .int .i64 0, .slice A' 0 c'], .int .i64 (E : Int)]) ∧ Below w.heap.size w w' := by
  refine (decode_any A n c l w hA hl hnc hn).mono ?_
  rintro e w1 ⟨v, rfl, hown, hb⟩
  obtain ⟨e1, e2, e3, e4, e5⟩ := ddec_bad (l := l) (by rw [he]; exact h0)
  rw [e1, e2, e3, e4, he]
  rw [e5] at hown
  obtain ⟨A', c', rfl, _⟩ := own_rd hown
  exact ⟨A', c', rfl, hb⟩
/-- Decode at bytes that are accepted. -/
theorem dec_ok (l : List Nat) (he : derr l = 0) (A : Option Addr) (n c : Nat) (w : World) (hA : Rd w 1 A n (bv l)) (hl : ∀ x ∈ l, x < 256) (hnc : n ≤ c) (hn : n ≤ 10000) :
    Calls Try.prog 17 #[.slice A n c] w fun e w' => ∃ A' c', e = .returned (.tuple #[.agg #[.int .i64 ((l.getD 0 0 / 8 % 2 : Nat) : Int), .int .i64 ((l.getD 0 0 / 4 % 2 : Nat) : Int), .int .i64 ((l.getD 0 0 / 16 % 2 : Nat) : Int), .int .i64 ((l.getD 0 0 % 4 : Nat) : Int), .slice A' (l.drop 2).length c'], .int .i64 0]) ∧ Rd w' 1 A' (l.drop 2).length (bv (l.drop 2)) ∧ (l.drop 2).length ≤ c' ∧ Below w.heap.size w w' := by
  refine (decode_any A n c l w hA hl hnc hn).mono ?_
  rintro e w1 ⟨v, rfl, hown, hb⟩
  obtain ⟨e1, e2, e3, e4, e5⟩ := ddec_ok (l := l) he
  rw [e1, e2, e3, e4, he]
  rw [e5] at hown
  obtain ⟨A', c', rfl, h1, h2, h3⟩ := own_rd hown
  exact ⟨A', c', rfl, h3, h1, hb⟩
set_option maxHeartbeats 1000000 in
theorem example_any (w : World) : Calls Try.prog 9 #[] w fun e w' => e = .returned (.bool true) ∧ Below w.heap.size w w' := by
  have ha1 : Rd (w.alloc (.cells #[.int .u8 7] 5)) 1 (some ⟨w.heap.size, 0, none⟩) 1 (bv [7]) := (Blk.new w _ _).rd rfl
  have hB1 : Below w.heap.size w (w.alloc (.cells #[.int .u8 7] 5)) := (Below.refl _ _).alloc (Nat.le_refl _) _
  go_enter Try.func9, Try.ntmps9
  go_wp2_with fail
  refine (encode_any 1 0 1 2 (some ⟨w.heap.size, 0, none⟩) 1 1 [7] _ ha1 (by decide)).mono ?_
  rintro e w1 ⟨v1, rfl, hown1, hb1⟩
  rw [show dchk 1 0 1 2 1 = 0 from rfl] at hown1 ⊢
  rw [if_pos rfl, if_pos rfl, show denc 1 0 1 2 [7] = [26, 1, 7] from rfl] at hown1
  obtain ⟨A1, c1, hv1, _, _, hr1⟩ := own_rd hown1
  rw [hv1]
  have B1 := hB1.trans (hb1.mono hB1.size)
  clear hown1
  go_wp2_with fail
  refine (dec_ok [1, 0] rfl (some ⟨w1.heap.size, 0, none⟩) 2 2 _ ((Blk.new w1 5 _).rd (l := bv [1, 0]) rfl) (by decide) (by decide) (by decide)).mono ?_
  rintro e w2 ⟨A2, c2, rfl, _, _, hb2⟩
  have B2 := (B1.alloc B1.size (.cells #[.int .u8 1, .int .u8 0] 5)).trans (hb2.mono (B1.alloc B1.size _).size)
  have r2 := (hr1.alloc (.cells #[.int .u8 1, .int .u8 0] 5)).below hb2
  have hp2 : Blk (w2.alloc (.cells #[.int .i64 0, .int .i64 0, .int .i64 0, .int .i64 1, .slice A2 0 c2] 26)) w2.heap.size 26 #[.int .i64 0, .int .i64 0, .int .i64 0, .int .i64 1, .slice A2 0 c2] := Blk.new _ _ _
  have B2' := B2.alloc B2.size (.cells #[.int .i64 0, .int .i64 0, .int .i64 0, .int .i64 1, .slice A2 0 c2] 26)
  have r2' := r2.alloc (.cells #[.int .i64 0, .int .i64 0, .int .i64 0, .int .i64 1, .slice A2 0 c2] 26)
  go_wp2_with fail
  refine (dec_bad [2, 0] 1 rfl (by decide) (some ⟨w2.heap.size + 1, 0, none⟩) 2 2 _ ((blk_new2 (t := 5) (by simp)).rd (l := bv [2, 0]) rfl) (by decide) (by decide) (by decide)).mono ?_
  rintro e w3 ⟨A3, c3, rfl, hb3⟩
  have B3 := (B2'.alloc B2'.size (.cells #[.int .u8 2, .int .u8 0] 5)).trans (hb3.mono (B2'.alloc B2'.size _).size)
  have r3 := (r2'.alloc (.cells #[.int .u8 2, .int .u8 0] 5)).below hb3
  have hp3 := (hp2.alloc (.cells #[.int .u8 2, .int .u8 0] 5)).below hb3 (hp2.alloc _).lt
  have B3' := B3.alloc B3.size (.cells #[.int .i64 0, .int .i64 0, .int .i64 0, .int .i64 0, .slice A3 0 c3] 26)
  have r3' := r3.alloc (.cells #[.int .i64 0, .int .i64 0, .int .i64 0, .int .i64 0, .slice A3 0 c3] 26)
  have hp3' := hp3.alloc (.cells #[.int .i64 0, .int .i64 0, .int .i64 0, .int .i64 0, .slice A3 0 c3] 26)
  go_wp2_with fail
  refine (dec_bad [33, 0] 2 rfl (by decide) (some ⟨w3.heap.size + 1, 0, none⟩) 2 2 _ ((blk_new2 (t := 5) (by simp)).rd (l := bv [33, 0]) rfl) (by decide) (by decide) (by decide)).mono ?_
  rintro e w4 ⟨A4, c4, rfl, hb4⟩
  have B4 := (B3'.alloc B3'.size (.cells #[.int .u8 33, .int .u8 0] 5)).trans (hb4.mono (B3'.alloc B3'.size _).size)
  have r4 := (r3'.alloc (.cells #[.int .u8 33, .int .u8 0] 5)).below hb4
  have hp4 := (hp3'.alloc (.cells #[.int .u8 33, .int .u8 0] 5)).below hb4 (hp3'.alloc _).lt
  have B4' := B4.alloc B4.size (.cells #[.int .i64 0, .int .i64 0, .int .i64 0, .int .i64 0, .slice A4 0 c4] 26)
  have r4' := r4.alloc (.cells #[.int .i64 0, .int .i64 0, .int .i64 0, .int .i64 0, .slice A4 0 c4] 26)
  have hp4' := hp4.alloc (.cells #[.int .i64 0, .int .i64 0, .int .i64 0, .int .i64 0, .slice A4 0 c4] 26)
  go_wp2_with fail
  refine (dec_bad [1] 3 rfl (by decide) (some ⟨w4.heap.size + 1, 0, none⟩) 1 1 _ ((blk_new2 (t := 5) (by simp)).rd (l := bv [1]) rfl) (by decide) (by decide) (by decide)).mono ?_
  rintro e w5 ⟨A5, c5, rfl, hb5⟩
  have B5 := (B4'.alloc B4'.size (.cells #[.int .u8 1] 5)).trans (hb5.mono (B4'.alloc B4'.size _).size)
  have r5 := (r4'.alloc (.cells #[.int .u8 1] 5)).below hb5
  have hp5 := (hp4'.alloc (.cells #[.int .u8 1] 5)).below hb5 (hp4'.alloc _).lt
  have B5' := B5.alloc B5.size (.cells #[.int .i64 0, .int .i64 0, .int .i64 0, .int .i64 0, .slice A5 0 c5] 26)
  have r5' := r5.alloc (.cells #[.int .i64 0, .int .i64 0, .int .i64 0, .int .i64 0, .slice A5 0 c5] 26)
  have hp5' := hp5.alloc (.cells #[.int .i64 0, .int .i64 0, .int .i64 0, .int .i64 0, .slice A5 0 c5] 26)
  have B6 := B5'.alloc B5'.size (.cells #[.int .u8 26, .int .u8 1, .int .u8 7] 5)
  have r6 := r5'.alloc (.cells #[.int .u8 26, .int .u8 1, .int .u8 7] 5)
  have hp6 := hp5'.alloc (.cells #[.int .u8 26, .int .u8 1, .int .u8 7] 5)
  have s3 := hp6.cell 3
  have s4 := hp6.cell 4
  simp only [List.getElem?_toArray, List.getElem?_cons_zero, List.getElem?_cons_succ] at s3 s4
  go_wp2_with fail
  refine (same_any A1 (some ⟨w5.heap.size + 1, 0, none⟩) 3 3 c1 3 [26, 1, 7] [26, 1, 7] _ r6 ((blk_new2 (t := 5) (by simp)).rd (l := bv [26, 1, 7]) rfl) (by decide) (by decide)).mono ?_
  rintro e w6 ⟨rfl, rfl⟩
  rw [decide_eq_true rfl]
  go_wp2_with fail
  refine (blank_any 1 A2 0 c2 _).mono ?_
  rintro e w7 ⟨rfl, hb7⟩
  rw [show dblank 1 0 = true from rfl]
  go_wp2
  go_ret
  exact ⟨rfl, B6.trans (hb7.mono B6.size)⟩
end Go.Proofs.Yticefenffmebpaa
