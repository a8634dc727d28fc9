/-
  The examples that each statement on instants asks for first: 'lives' returns true; the walks of the six statements.
-/
import Derived.Test.YtbpfloalncapcaaInb
import Derived.Deep.RegionHeld3
namespace Go.Proofs.Ytbpfloalncapcaa
set_option linter.unusedVariables false
set_option linter.unusedSimpArgs false
open Go.RowKit

theorem rd8_two (w : World) (c d : Chg) : Rd (w.alloc (.cells (chv [c, d]).toArray 31)) 8 (some ⟨w.heap.size, 0, none⟩) 2 (chv [c, d]) :=
  ⟨by rw [chv_length]; rfl, fun _ => ⟨w.heap.size, 0, rfl, by simp, fun j u hu => by rw [Nat.zero_add, (Blk.new w 31 _).cell]; simpa using hu⟩⟩
set_option maxHeartbeats 2000000 in
theorem lives_any (w : World) :
    Calls Try.prog 9 #[] w fun e w' => e = .returned (.bool true) ∧ Below w.heap.size w w' := by
  have hBa : Blk ((w.alloc (.cells #[.int .i64 1, .int .u16 5, .int .i64 0, .int .i64 0, .int .i64 0, .int .i64 0, .int .i64 0, .int .u64 0] 31)).alloc (.cells #[.int .i64 1, .int .u16 7, .int .i64 0, .int .i64 0, .int .i64 0, .int .i64 0, .int .i64 0, .int .u64 0] 31)) w.heap.size 31 #[.int .i64 1, .int .u16 5, .int .i64 0, .int .i64 0, .int .i64 0, .int .i64 0, .int .i64 0, .int .u64 0] := (Blk.new w 31 _).alloc _
  have hBb : Blk ((w.alloc (.cells #[.int .i64 1, .int .u16 5, .int .i64 0, .int .i64 0, .int .i64 0, .int .i64 0, .int .i64 0, .int .u64 0] 31)).alloc (.cells #[.int .i64 1, .int .u16 7, .int .i64 0, .int .i64 0, .int .i64 0, .int .i64 0, .int .i64 0, .int .u64 0] 31)) (w.heap.size + 1) 31 #[.int .i64 1, .int .u16 7, .int .i64 0, .int .i64 0, .int .i64 0, .int .i64 0, .int .i64 0, .int .u64 0] := blk_new2 (by simp)
  have hB : Below w.heap.size w ((w.alloc (.cells #[.int .i64 1, .int .u16 5, .int .i64 0, .int .i64 0, .int .i64 0, .int .i64 0, .int .i64 0, .int .u64 0] 31)).alloc (.cells #[.int .i64 1, .int .u16 7, .int .i64 0, .int .i64 0, .int .i64 0, .int .i64 0, .int .i64 0, .int .u64 0] 31)) := ((Below.refl _ _).alloc (Nat.le_refl _) _).alloc (by simp <;> omega) _
  go_enter Try.func9, Try.ntmps9
  go_wp2_with fail
  refine (add_any none 0 0 6 (⟨1, 7, 0, 0, 0, 0, 0, 0⟩ : Chg) [] _ (Rd.none_ _ _ _) (by omega) (by omega) (by decide)).mono ?_
  rintro e w1 ⟨A1, n1, c1, rfl, hr1, hb1⟩
  rw [show addL 6 (⟨1, 7, 0, 0, 0, 0, 0, 0⟩ : Chg) [] = ([(⟨1, 7, 0, 0, 0, 0, 0, 0⟩ : Chg)], 0) by decide +kernel] at hr1 ⊢
  obtain rfl : n1 = 1 := by simpa using hr1.clen.symm
  have hB := hB.trans (hb1.mono hB.size)
  have hBa := hBa.below hb1 hBa.lt
  have hBb := hBb.below hb1 hBb.lt
  have ap0 : w1.cell? ⟨w.heap.size, 0, none⟩ = some (.int .i64 1) := hBa.cell 0
  have ap1 : w1.cell? ⟨w.heap.size, 1, none⟩ = some (.int .u16 5) := hBa.cell 1
  have ap2 : w1.cell? ⟨w.heap.size, 2, none⟩ = some (.int .i64 0) := hBa.cell 2
  have ap3 : w1.cell? ⟨w.heap.size, 3, none⟩ = some (.int .i64 0) := hBa.cell 3
  have ap4 : w1.cell? ⟨w.heap.size, 4, none⟩ = some (.int .i64 0) := hBa.cell 4
  have ap5 : w1.cell? ⟨w.heap.size, 5, none⟩ = some (.int .i64 0) := hBa.cell 5
  have ap6 : w1.cell? ⟨w.heap.size, 6, none⟩ = some (.int .i64 0) := hBa.cell 6
  have ap7 : w1.cell? ⟨w.heap.size, 7, none⟩ = some (.int .u64 0) := hBa.cell 7
  have bp0 : w1.cell? ⟨w.heap.size + 1, 0, none⟩ = some (.int .i64 1) := hBb.cell 0
  have bp1 : w1.cell? ⟨w.heap.size + 1, 1, none⟩ = some (.int .u16 7) := hBb.cell 1
  have bp2 : w1.cell? ⟨w.heap.size + 1, 2, none⟩ = some (.int .i64 0) := hBb.cell 2
  have bp3 : w1.cell? ⟨w.heap.size + 1, 3, none⟩ = some (.int .i64 0) := hBb.cell 3
  have bp4 : w1.cell? ⟨w.heap.size + 1, 4, none⟩ = some (.int .i64 0) := hBb.cell 4
  have bp5 : w1.cell? ⟨w.heap.size + 1, 5, none⟩ = some (.int .i64 0) := hBb.cell 5
  have bp6 : w1.cell? ⟨w.heap.size + 1, 6, none⟩ = some (.int .i64 0) := hBb.cell 6
  have bp7 : w1.cell? ⟨w.heap.size + 1, 7, none⟩ = some (.int .u64 0) := hBb.cell 7
  go_wp2_with fail
  refine (add_any A1 1 c1 6 (⟨1, 7, 0, 0, 0, 0, 0, 0⟩ : Chg) [(⟨1, 7, 0, 0, 0, 0, 0, 0⟩ : Chg)] _ hr1 (by omega) (by omega) (by decide)).mono ?_
  rintro e w2 ⟨A2, n2, c2, rfl, hr2, hb2⟩
  rw [show addL 6 (⟨1, 7, 0, 0, 0, 0, 0, 0⟩ : Chg) [(⟨1, 7, 0, 0, 0, 0, 0, 0⟩ : Chg)] = ([(⟨1, 7, 0, 0, 0, 0, 0, 0⟩ : Chg)], 20) by decide +kernel] at hr2 ⊢
  obtain rfl : n2 = 1 := by simpa using hr2.clen.symm
  have hB := hB.trans (hb2.mono hB.size)
  clear ap0 ap1 ap2 ap3 ap4 ap5 ap6 ap7 bp0 bp1 bp2 bp3 bp4 bp5 bp6 bp7
  have hBa := hBa.below hb2 hBa.lt
  have hBb := hBb.below hb2 hBb.lt
  have aq0 : w2.cell? ⟨w.heap.size, 0, none⟩ = some (.int .i64 1) := hBa.cell 0
  have aq1 : w2.cell? ⟨w.heap.size, 1, none⟩ = some (.int .u16 5) := hBa.cell 1
  have aq2 : w2.cell? ⟨w.heap.size, 2, none⟩ = some (.int .i64 0) := hBa.cell 2
  have aq3 : w2.cell? ⟨w.heap.size, 3, none⟩ = some (.int .i64 0) := hBa.cell 3
  have aq4 : w2.cell? ⟨w.heap.size, 4, none⟩ = some (.int .i64 0) := hBa.cell 4
  have aq5 : w2.cell? ⟨w.heap.size, 5, none⟩ = some (.int .i64 0) := hBa.cell 5
  have aq6 : w2.cell? ⟨w.heap.size, 6, none⟩ = some (.int .i64 0) := hBa.cell 6
  have aq7 : w2.cell? ⟨w.heap.size, 7, none⟩ = some (.int .u64 0) := hBa.cell 7
  have bq0 : w2.cell? ⟨w.heap.size + 1, 0, none⟩ = some (.int .i64 1) := hBb.cell 0
  have bq1 : w2.cell? ⟨w.heap.size + 1, 1, none⟩ = some (.int .u16 7) := hBb.cell 1
  have bq2 : w2.cell? ⟨w.heap.size + 1, 2, none⟩ = some (.int .i64 0) := hBb.cell 2
  have bq3 : w2.cell? ⟨w.heap.size + 1, 3, none⟩ = some (.int .i64 0) := hBb.cell 3
  have bq4 : w2.cell? ⟨w.heap.size + 1, 4, none⟩ = some (.int .i64 0) := hBb.cell 4
  have bq5 : w2.cell? ⟨w.heap.size + 1, 5, none⟩ = some (.int .i64 0) := hBb.cell 5
  have bq6 : w2.cell? ⟨w.heap.size + 1, 6, none⟩ = some (.int .i64 0) := hBb.cell 6
  have bq7 : w2.cell? ⟨w.heap.size + 1, 7, none⟩ = some (.int .u64 0) := hBb.cell 7
  go_wp2_with fail
  refine (due_any (some ⟨w2.heap.size, 0, none⟩) 2 2 6 [(⟨1, 5, 0, 0, 0, 0, 0, 0⟩ : Chg), (⟨1, 7, 0, 0, 0, 0, 0, 0⟩ : Chg)] _ (rd8_two w2 (⟨1, 5, 0, 0, 0, 0, 0, 0⟩ : Chg) (⟨1, 7, 0, 0, 0, 0, 0, 0⟩ : Chg)) (by omega) (by omega) (by omega) (by decide)).mono ?_
  rintro e w3 ⟨R3, Q3, nr3, nq3, cr3, cq3, rfl, hrr, hrq, hb3⟩
  rw [show restL 6 [(⟨1, 5, 0, 0, 0, 0, 0, 0⟩ : Chg), (⟨1, 7, 0, 0, 0, 0, 0, 0⟩ : Chg)] = [(⟨1, 7, 0, 0, 0, 0, 0, 0⟩ : Chg)] by decide +kernel] at hrr
  rw [show dueL 6 [(⟨1, 5, 0, 0, 0, 0, 0, 0⟩ : Chg), (⟨1, 7, 0, 0, 0, 0, 0, 0⟩ : Chg)] = [(⟨1, 5, 0, 0, 0, 0, 0, 0⟩ : Chg)] by decide +kernel] at hrq
  obtain rfl : nr3 = 1 := by simpa using hrr.clen.symm
  obtain rfl : nq3 = 1 := by simpa using hrq.clen.symm
  clear aq0 aq1 aq2 aq3 aq4 aq5 aq6 aq7 bq0 bq1 bq2 bq3 bq4 bq5 bq6 bq7
  have hBa := (hBa.alloc _).below hb3 (hBa.alloc _).lt
  have hBb := (hBb.alloc _).below hb3 (hBb.alloc _).lt
  have hr2 := (hr2.alloc _).below hb3
  have hB := (hB.alloc hB.size _).trans (hb3.mono (by have := hB.size; simp; omega))
  have ar0 : w3.cell? ⟨w.heap.size, 0, none⟩ = some (.int .i64 1) := hBa.cell 0
  have ar1 : w3.cell? ⟨w.heap.size, 1, none⟩ = some (.int .u16 5) := hBa.cell 1
  have ar2 : w3.cell? ⟨w.heap.size, 2, none⟩ = some (.int .i64 0) := hBa.cell 2
  have ar3 : w3.cell? ⟨w.heap.size, 3, none⟩ = some (.int .i64 0) := hBa.cell 3
  have ar4 : w3.cell? ⟨w.heap.size, 4, none⟩ = some (.int .i64 0) := hBa.cell 4
  have ar5 : w3.cell? ⟨w.heap.size, 5, none⟩ = some (.int .i64 0) := hBa.cell 5
  have ar6 : w3.cell? ⟨w.heap.size, 6, none⟩ = some (.int .i64 0) := hBa.cell 6
  have ar7 : w3.cell? ⟨w.heap.size, 7, none⟩ = some (.int .u64 0) := hBa.cell 7
  have br0 : w3.cell? ⟨w.heap.size + 1, 0, none⟩ = some (.int .i64 1) := hBb.cell 0
  have br1 : w3.cell? ⟨w.heap.size + 1, 1, none⟩ = some (.int .u16 7) := hBb.cell 1
  have br2 : w3.cell? ⟨w.heap.size + 1, 2, none⟩ = some (.int .i64 0) := hBb.cell 2
  have br3 : w3.cell? ⟨w.heap.size + 1, 3, none⟩ = some (.int .i64 0) := hBb.cell 3
  have br4 : w3.cell? ⟨w.heap.size + 1, 4, none⟩ = some (.int .i64 0) := hBb.cell 4
  have br5 : w3.cell? ⟨w.heap.size + 1, 5, none⟩ = some (.int .i64 0) := hBb.cell 5
  have br6 : w3.cell? ⟨w.heap.size + 1, 6, none⟩ = some (.int .i64 0) := hBb.cell 6
  have br7 : w3.cell? ⟨w.heap.size + 1, 7, none⟩ = some (.int .u64 0) := hBb.cell 7
  go_wp2_with fail
  refine (plan_any 10 0 (by omega) _).mono ?_
  rintro e w' ⟨rfl, rfl⟩
  rw [show plan 10 0 = 16 by decide +kernel]
  go_wp2_with fail
  refine (plan_any 65535 4 (by omega) _).mono ?_
  rintro e w' ⟨rfl, rfl⟩
  rw [show plan 65535 4 = 9 by decide +kernel]
  go_wp2_with fail
  refine (check_any 6 1 7 0 0 0 0 0 0 (by omega) (by omega) _).mono ?_
  rintro e w4 ⟨rfl, hb4⟩
  rw [show ck 6 1 7 = 0 by decide +kernel]
  clear ar0 ar1 ar2 ar3 ar4 ar5 ar6 ar7 br0 br1 br2 br3 br4 br5 br6 br7
  have hBa := hBa.below hb4 hBa.lt
  have hBb := hBb.below hb4 hBb.lt
  have hr2 := hr2.below hb4
  have hrr := hrr.below hb4
  have hrq := hrq.below hb4
  have hB := hB.trans (hb4.mono hB.size)
  have as0 : w4.cell? ⟨w.heap.size, 0, none⟩ = some (.int .i64 1) := hBa.cell 0
  have as1 : w4.cell? ⟨w.heap.size, 1, none⟩ = some (.int .u16 5) := hBa.cell 1
  have as2 : w4.cell? ⟨w.heap.size, 2, none⟩ = some (.int .i64 0) := hBa.cell 2
  have as3 : w4.cell? ⟨w.heap.size, 3, none⟩ = some (.int .i64 0) := hBa.cell 3
  have as4 : w4.cell? ⟨w.heap.size, 4, none⟩ = some (.int .i64 0) := hBa.cell 4
  have as5 : w4.cell? ⟨w.heap.size, 5, none⟩ = some (.int .i64 0) := hBa.cell 5
  have as6 : w4.cell? ⟨w.heap.size, 6, none⟩ = some (.int .i64 0) := hBa.cell 6
  have as7 : w4.cell? ⟨w.heap.size, 7, none⟩ = some (.int .u64 0) := hBa.cell 7
  have bs0 : w4.cell? ⟨w.heap.size + 1, 0, none⟩ = some (.int .i64 1) := hBb.cell 0
  have bs1 : w4.cell? ⟨w.heap.size + 1, 1, none⟩ = some (.int .u16 7) := hBb.cell 1
  have bs2 : w4.cell? ⟨w.heap.size + 1, 2, none⟩ = some (.int .i64 0) := hBb.cell 2
  have bs3 : w4.cell? ⟨w.heap.size + 1, 3, none⟩ = some (.int .i64 0) := hBb.cell 3
  have bs4 : w4.cell? ⟨w.heap.size + 1, 4, none⟩ = some (.int .i64 0) := hBb.cell 4
  have bs5 : w4.cell? ⟨w.heap.size + 1, 5, none⟩ = some (.int .i64 0) := hBb.cell 5
  have bs6 : w4.cell? ⟨w.heap.size + 1, 6, none⟩ = some (.int .i64 0) := hBb.cell 6
  have bs7 : w4.cell? ⟨w.heap.size + 1, 7, none⟩ = some (.int .u64 0) := hBb.cell 7
  go_wp2_with fail
  refine (check_any 6 1 5 0 0 0 0 0 0 (by omega) (by omega) _).mono ?_
  rintro e w5 ⟨rfl, hb5⟩
  rw [show ck 6 1 5 = 18 by decide +kernel]
  clear as0 as1 as2 as3 as4 as5 as6 as7 bs0 bs1 bs2 bs3 bs4 bs5 bs6 bs7
  have hBa := hBa.below hb5 hBa.lt
  have hBb := hBb.below hb5 hBb.lt
  have hr2 := hr2.below hb5
  have hrr := hrr.below hb5
  have hrq := hrq.below hb5
  have hB := hB.trans (hb5.mono hB.size)
  have at0 : w5.cell? ⟨w.heap.size, 0, none⟩ = some (.int .i64 1) := hBa.cell 0
  have at1 : w5.cell? ⟨w.heap.size, 1, none⟩ = some (.int .u16 5) := hBa.cell 1
  have at2 : w5.cell? ⟨w.heap.size, 2, none⟩ = some (.int .i64 0) := hBa.cell 2
  have at3 : w5.cell? ⟨w.heap.size, 3, none⟩ = some (.int .i64 0) := hBa.cell 3
  have at4 : w5.cell? ⟨w.heap.size, 4, none⟩ = some (.int .i64 0) := hBa.cell 4
  have at5 : w5.cell? ⟨w.heap.size, 5, none⟩ = some (.int .i64 0) := hBa.cell 5
  have at6 : w5.cell? ⟨w.heap.size, 6, none⟩ = some (.int .i64 0) := hBa.cell 6
  have at7 : w5.cell? ⟨w.heap.size, 7, none⟩ = some (.int .u64 0) := hBa.cell 7
  have bt0 : w5.cell? ⟨w.heap.size + 1, 0, none⟩ = some (.int .i64 1) := hBb.cell 0
  have bt1 : w5.cell? ⟨w.heap.size + 1, 1, none⟩ = some (.int .u16 7) := hBb.cell 1
  have bt2 : w5.cell? ⟨w.heap.size + 1, 2, none⟩ = some (.int .i64 0) := hBb.cell 2
  have bt3 : w5.cell? ⟨w.heap.size + 1, 3, none⟩ = some (.int .i64 0) := hBb.cell 3
  have bt4 : w5.cell? ⟨w.heap.size + 1, 4, none⟩ = some (.int .i64 0) := hBb.cell 4
  have bt5 : w5.cell? ⟨w.heap.size + 1, 5, none⟩ = some (.int .i64 0) := hBb.cell 5
  have bt6 : w5.cell? ⟨w.heap.size + 1, 6, none⟩ = some (.int .i64 0) := hBb.cell 6
  have bt7 : w5.cell? ⟨w.heap.size + 1, 7, none⟩ = some (.int .u64 0) := hBb.cell 7
  go_wp2_with fail
  refine (check_any 7 1 7 0 0 0 0 0 0 (by omega) (by omega) _).mono ?_
  rintro e w6 ⟨rfl, hb6⟩
  rw [show ck 7 1 7 = 18 by decide +kernel]
  clear at0 at1 at2 at3 at4 at5 at6 at7 bt0 bt1 bt2 bt3 bt4 bt5 bt6 bt7
  have hBa := hBa.below hb6 hBa.lt
  have hBb := hBb.below hb6 hBb.lt
  have hr2 := hr2.below hb6
  have hrr := hrr.below hb6
  have hrq := hrq.below hb6
  have hB := hB.trans (hb6.mono hB.size)
  have au0 : w6.cell? ⟨w.heap.size, 0, none⟩ = some (.int .i64 1) := hBa.cell 0
  have au1 : w6.cell? ⟨w.heap.size, 1, none⟩ = some (.int .u16 5) := hBa.cell 1
  have au2 : w6.cell? ⟨w.heap.size, 2, none⟩ = some (.int .i64 0) := hBa.cell 2
  have au3 : w6.cell? ⟨w.heap.size, 3, none⟩ = some (.int .i64 0) := hBa.cell 3
  have au4 : w6.cell? ⟨w.heap.size, 4, none⟩ = some (.int .i64 0) := hBa.cell 4
  have au5 : w6.cell? ⟨w.heap.size, 5, none⟩ = some (.int .i64 0) := hBa.cell 5
  have au6 : w6.cell? ⟨w.heap.size, 6, none⟩ = some (.int .i64 0) := hBa.cell 6
  have au7 : w6.cell? ⟨w.heap.size, 7, none⟩ = some (.int .u64 0) := hBa.cell 7
  have bu0 : w6.cell? ⟨w.heap.size + 1, 0, none⟩ = some (.int .i64 1) := hBb.cell 0
  have bu1 : w6.cell? ⟨w.heap.size + 1, 1, none⟩ = some (.int .u16 7) := hBb.cell 1
  have bu2 : w6.cell? ⟨w.heap.size + 1, 2, none⟩ = some (.int .i64 0) := hBb.cell 2
  have bu3 : w6.cell? ⟨w.heap.size + 1, 3, none⟩ = some (.int .i64 0) := hBb.cell 3
  have bu4 : w6.cell? ⟨w.heap.size + 1, 4, none⟩ = some (.int .i64 0) := hBb.cell 4
  have bu5 : w6.cell? ⟨w.heap.size + 1, 5, none⟩ = some (.int .i64 0) := hBb.cell 5
  have bu6 : w6.cell? ⟨w.heap.size + 1, 6, none⟩ = some (.int .i64 0) := hBb.cell 6
  have bu7 : w6.cell? ⟨w.heap.size + 1, 7, none⟩ = some (.int .u64 0) := hBb.cell 7
  go_wp2_with fail
  refine (check_any 6 18 0 0 0 0 0 0 0 (by omega) (by omega) _).mono ?_
  rintro e w7 ⟨rfl, hb7⟩
  rw [show ck 6 18 0 = 12 by decide +kernel]
  clear au0 au1 au2 au3 au4 au5 au6 au7 bu0 bu1 bu2 bu3 bu4 bu5 bu6 bu7
  have hBa := hBa.below hb7 hBa.lt
  have hBb := hBb.below hb7 hBb.lt
  have hr2 := hr2.below hb7
  have hrr := hrr.below hb7
  have hrq := hrq.below hb7
  have hB := hB.trans (hb7.mono hB.size)
  have av0 : w7.cell? ⟨w.heap.size, 0, none⟩ = some (.int .i64 1) := hBa.cell 0
  have av1 : w7.cell? ⟨w.heap.size, 1, none⟩ = some (.int .u16 5) := hBa.cell 1
  have av2 : w7.cell? ⟨w.heap.size, 2, none⟩ = some (.int .i64 0) := hBa.cell 2
  have av3 : w7.cell? ⟨w.heap.size, 3, none⟩ = some (.int .i64 0) := hBa.cell 3
  have av4 : w7.cell? ⟨w.heap.size, 4, none⟩ = some (.int .i64 0) := hBa.cell 4
  have av5 : w7.cell? ⟨w.heap.size, 5, none⟩ = some (.int .i64 0) := hBa.cell 5
  have av6 : w7.cell? ⟨w.heap.size, 6, none⟩ = some (.int .i64 0) := hBa.cell 6
  have av7 : w7.cell? ⟨w.heap.size, 7, none⟩ = some (.int .u64 0) := hBa.cell 7
  have bv0 : w7.cell? ⟨w.heap.size + 1, 0, none⟩ = some (.int .i64 1) := hBb.cell 0
  have bv1 : w7.cell? ⟨w.heap.size + 1, 1, none⟩ = some (.int .u16 7) := hBb.cell 1
  have bv2 : w7.cell? ⟨w.heap.size + 1, 2, none⟩ = some (.int .i64 0) := hBb.cell 2
  have bv3 : w7.cell? ⟨w.heap.size + 1, 3, none⟩ = some (.int .i64 0) := hBb.cell 3
  have bv4 : w7.cell? ⟨w.heap.size + 1, 4, none⟩ = some (.int .i64 0) := hBb.cell 4
  have bv5 : w7.cell? ⟨w.heap.size + 1, 5, none⟩ = some (.int .i64 0) := hBb.cell 5
  have bv6 : w7.cell? ⟨w.heap.size + 1, 6, none⟩ = some (.int .i64 0) := hBb.cell 6
  have bv7 : w7.cell? ⟨w.heap.size + 1, 7, none⟩ = some (.int .u64 0) := hBb.cell 7
  go_wp2_with fail
  refine (same_any A2 _ 1 1 c2 1 [(⟨1, 7, 0, 0, 0, 0, 0, 0⟩ : Chg)] [(⟨1, 7, 0, 0, 0, 0, 0, 0⟩ : Chg)] _ (hr2.alloc _) (rd8_one w7 (⟨1, 7, 0, 0, 0, 0, 0, 0⟩ : Chg)) (by omega) (by omega)).mono ?_
  rintro e w8 ⟨rfl, hb8⟩
  rw [show decide ([(⟨1, 7, 0, 0, 0, 0, 0, 0⟩ : Chg)] = [(⟨1, 7, 0, 0, 0, 0, 0, 0⟩ : Chg)]) = true by decide +kernel]
  clear av0 av1 av2 av3 av4 av5 av6 av7 bv0 bv1 bv2 bv3 bv4 bv5 bv6 bv7
  have hBa := (hBa.alloc _).below hb8 (hBa.alloc _).lt
  have hBb := (hBb.alloc _).below hb8 (hBb.alloc _).lt
  have hr2 := (hr2.alloc _).below hb8
  have hrr := (hrr.alloc _).below hb8
  have hrq := (hrq.alloc _).below hb8
  have hB := (hB.alloc hB.size _).trans (hb8.mono (by have := hB.size; simp; omega))
  have ax0 : w8.cell? ⟨w.heap.size, 0, none⟩ = some (.int .i64 1) := hBa.cell 0
  have ax1 : w8.cell? ⟨w.heap.size, 1, none⟩ = some (.int .u16 5) := hBa.cell 1
  have ax2 : w8.cell? ⟨w.heap.size, 2, none⟩ = some (.int .i64 0) := hBa.cell 2
  have ax3 : w8.cell? ⟨w.heap.size, 3, none⟩ = some (.int .i64 0) := hBa.cell 3
  have ax4 : w8.cell? ⟨w.heap.size, 4, none⟩ = some (.int .i64 0) := hBa.cell 4
  have ax5 : w8.cell? ⟨w.heap.size, 5, none⟩ = some (.int .i64 0) := hBa.cell 5
  have ax6 : w8.cell? ⟨w.heap.size, 6, none⟩ = some (.int .i64 0) := hBa.cell 6
  have ax7 : w8.cell? ⟨w.heap.size, 7, none⟩ = some (.int .u64 0) := hBa.cell 7
  have bx0 : w8.cell? ⟨w.heap.size + 1, 0, none⟩ = some (.int .i64 1) := hBb.cell 0
  have bx1 : w8.cell? ⟨w.heap.size + 1, 1, none⟩ = some (.int .u16 7) := hBb.cell 1
  have bx2 : w8.cell? ⟨w.heap.size + 1, 2, none⟩ = some (.int .i64 0) := hBb.cell 2
  have bx3 : w8.cell? ⟨w.heap.size + 1, 3, none⟩ = some (.int .i64 0) := hBb.cell 3
  have bx4 : w8.cell? ⟨w.heap.size + 1, 4, none⟩ = some (.int .i64 0) := hBb.cell 4
  have bx5 : w8.cell? ⟨w.heap.size + 1, 5, none⟩ = some (.int .i64 0) := hBb.cell 5
  have bx6 : w8.cell? ⟨w.heap.size + 1, 6, none⟩ = some (.int .i64 0) := hBb.cell 6
  have bx7 : w8.cell? ⟨w.heap.size + 1, 7, none⟩ = some (.int .u64 0) := hBb.cell 7
  go_wp2_with fail
  refine (same_any R3 _ 1 1 cr3 1 [(⟨1, 7, 0, 0, 0, 0, 0, 0⟩ : Chg)] [(⟨1, 7, 0, 0, 0, 0, 0, 0⟩ : Chg)] _ (hrr.alloc _) (rd8_one w8 (⟨1, 7, 0, 0, 0, 0, 0, 0⟩ : Chg)) (by omega) (by omega)).mono ?_
  rintro e w9 ⟨rfl, hb9⟩
  rw [show decide ([(⟨1, 7, 0, 0, 0, 0, 0, 0⟩ : Chg)] = [(⟨1, 7, 0, 0, 0, 0, 0, 0⟩ : Chg)]) = true by decide +kernel]
  clear ax0 ax1 ax2 ax3 ax4 ax5 ax6 ax7 bx0 bx1 bx2 bx3 bx4 bx5 bx6 bx7
  have hBa := (hBa.alloc _).below hb9 (hBa.alloc _).lt
  have hBb := (hBb.alloc _).below hb9 (hBb.alloc _).lt
  have hr2 := (hr2.alloc _).below hb9
  have hrr := (hrr.alloc _).below hb9
  have hrq := (hrq.alloc _).below hb9
  have hB := (hB.alloc hB.size _).trans (hb9.mono (by have := hB.size; simp; omega))
  have ay0 : w9.cell? ⟨w.heap.size, 0, none⟩ = some (.int .i64 1) := hBa.cell 0
  have ay1 : w9.cell? ⟨w.heap.size, 1, none⟩ = some (.int .u16 5) := hBa.cell 1
  have ay2 : w9.cell? ⟨w.heap.size, 2, none⟩ = some (.int .i64 0) := hBa.cell 2
  have ay3 : w9.cell? ⟨w.heap.size, 3, none⟩ = some (.int .i64 0) := hBa.cell 3
  have ay4 : w9.cell? ⟨w.heap.size, 4, none⟩ = some (.int .i64 0) := hBa.cell 4
  have ay5 : w9.cell? ⟨w.heap.size, 5, none⟩ = some (.int .i64 0) := hBa.cell 5
  have ay6 : w9.cell? ⟨w.heap.size, 6, none⟩ = some (.int .i64 0) := hBa.cell 6
  have ay7 : w9.cell? ⟨w.heap.size, 7, none⟩ = some (.int .u64 0) := hBa.cell 7
  have by0 : w9.cell? ⟨w.heap.size + 1, 0, none⟩ = some (.int .i64 1) := hBb.cell 0
  have by1 : w9.cell? ⟨w.heap.size + 1, 1, none⟩ = some (.int .u16 7) := hBb.cell 1
  have by2 : w9.cell? ⟨w.heap.size + 1, 2, none⟩ = some (.int .i64 0) := hBb.cell 2
  have by3 : w9.cell? ⟨w.heap.size + 1, 3, none⟩ = some (.int .i64 0) := hBb.cell 3
  have by4 : w9.cell? ⟨w.heap.size + 1, 4, none⟩ = some (.int .i64 0) := hBb.cell 4
  have by5 : w9.cell? ⟨w.heap.size + 1, 5, none⟩ = some (.int .i64 0) := hBb.cell 5
  have by6 : w9.cell? ⟨w.heap.size + 1, 6, none⟩ = some (.int .i64 0) := hBb.cell 6
  have by7 : w9.cell? ⟨w.heap.size + 1, 7, none⟩ = some (.int .u64 0) := hBb.cell 7
  go_wp2_with fail
  refine (same_any Q3 _ 1 1 cq3 1 [(⟨1, 5, 0, 0, 0, 0, 0, 0⟩ : Chg)] [(⟨1, 5, 0, 0, 0, 0, 0, 0⟩ : Chg)] _ (hrq.alloc _) (rd8_one w9 (⟨1, 5, 0, 0, 0, 0, 0, 0⟩ : Chg)) (by omega) (by omega)).mono ?_
  rintro e w10 ⟨rfl, hb10⟩
  rw [show decide ([(⟨1, 5, 0, 0, 0, 0, 0, 0⟩ : Chg)] = [(⟨1, 5, 0, 0, 0, 0, 0, 0⟩ : Chg)]) = true by decide +kernel]
  clear ay0 ay1 ay2 ay3 ay4 ay5 ay6 ay7 by0 by1 by2 by3 by4 by5 by6 by7
  have hBa := (hBa.alloc _).below hb10 (hBa.alloc _).lt
  have hBb := (hBb.alloc _).below hb10 (hBb.alloc _).lt
  have hr2 := (hr2.alloc _).below hb10
  have hrr := (hrr.alloc _).below hb10
  have hrq := (hrq.alloc _).below hb10
  have hB := (hB.alloc hB.size _).trans (hb10.mono (by have := hB.size; simp; omega))
  go_wp2
  go_ret
  exact ⟨rfl, hB⟩

end Go.Proofs.Ytbpfloalncapcaa
