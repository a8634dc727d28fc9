/-
  The walk of orderly, side 0.
-/
import Derived.Test.YtobljnbpokijdaaAym
import Derived.Test.YtobljnbpokijdaaAyn
import Derived.Deep.RegionHeld3
import Derived.BigQuiet
import Derived.IntWalk
import Derived.Deep.QuietTactic

namespace Go.Proofs.Ytobljnbpokijdaa
set_option linter.unusedVariables false
set_option linter.unusedSimpArgs false
open Go.RowKit
theorem PRd.cut {w : World} {A : Option Addr} {n c k : Nat} {ps : List Pk} (h : PRd w A n ps) (hk : k ≤ n) (hc : n ≤ c) : PRd w (if c = k then A else Option.map (fun x => x.add (k * 2)) A) (n - k) (ps.drop k) := by
  rcases Nat.eq_or_lt_of_le hk with e | hlt
  · subst e
    have : ps.drop k = [] := List.drop_eq_nil_of_le (by rw [h.len]; exact Nat.le_refl _)
    rw [this, Nat.sub_self]
    exact PRd.nil _ _
  · rw [if_neg (by omega)]
    obtain ⟨b, o, e, _⟩ := h.1.2 (by omega)
    subst e
    have := h.drop hk
    simpa [Addr.add_lit] using this
set_option maxRecDepth 100000 in
set_option maxHeartbeats 100000000 in
theorem orderly_0 (E : En) (M : Mm) (base k : Nat) (Z : List Nat) (w : World) (hE : Emem base Z w E M) (hD : Dir (E.s 0) (E.s 1) (E.r 0) (E.r 3) k) (hn : ∀ i, i < 4 → (M.r i).n ≤ 100000) (hl : (E.s 0).q.length ≤ 64) :
    Calls Try.prog 23 #[.agg (enCells E M), .int .i64 0] w fun e w' => e = .returned (.bool true) ∧ Below w.heap.size w w' := by
  obtain ⟨AQ, cQ, hvQ, hcQ, hPQ⟩ := hE.row_slice (i := 0) (by decide)
  obtain ⟨AG, cG, hvG, hcG, hPG⟩ := hE.row_slice (i := 3) (by decide)
  have hrQ := hE.row (i := 0) (by decide)
  have hrG := hE.row (i := 3) (by decide)
  have haQ := hE.abs 0 (by decide)
  have haG := hE.abs 3 (by decide)
  have hH := hE.has 0 (by decide)
  have hnQ := hn 0 (by decide)
  have hnG := hn 3 (by decide)
  have hlen := hD.len
  have hk0 := hD.k0
  rw [← hrQ] at hlen hk0
  rw [← hrG] at hlen
  generalize hNQ : (M.r 0).n = nQ at *
  generalize hNG : (M.r 3).n = nG at *
  have hst : nG = k ∨ nG = k + 1 := by
    rcases hD.st with ⟨_, h⟩ | ⟨_, _, ⟨_, h⟩ | ⟨_, h⟩⟩ <;> omega
  have hqlen : (M.q 0).m = nQ - k := by
    rw [hH.len, hD.q, List.length_drop, hrQ]
  have hS1 : (M.r 3).qs.map Pk.abs = ((M.r 0).qs.take nG).map Pk.abs := by rw [haG, List.map_take, haQ, hrG]; exact hD.pre
  have hS2 : (M.q 0).qs.map Pk.abs = ((M.r 0).qs.drop k).map Pk.abs := by rw [hH.abs, List.map_drop, haQ, hD.q]
  have HT := hide hD.tak
  have HA := hide hD.ack
  have HRG := hide hrG
  have HS1 := hide hS1
  have HS2 := hide hS2
  have HV := hide (And.intro hvQ hvG)
  have HQL := hide hqlen
  clear hD hrQ hrG haQ haG hS1 hS2 hE hvQ hvG hqlen hNQ hNG hn
  simp only [enCells]
  rw [HV.out.1, HV.out.2]
  have HTK : Hid ((E.s 1).tak = (nG : Int)) := by show _ = _; rw [HT.out, HRG.out]
  simp only [HA.out, HTK.out]
  clear HT HA HTK HRG
  go_enter Try.func23, Try.ntmps23
  go_upto_region 0 with (fail)
  go_cut [2, 4] (fun s2 s4 wx => s2 = .pointer (some ⟨w.heap.size, 0, none⟩) ∧ s4 = .bool false ∧ Below w.heap.size w wx ∧ w.heap.size < wx.heap.size ∧ Blk wx w.heap.size 52 #[Value.int .i64 (E.s 0).sn, Value.int .i64 (E.s 0).ne, Value.slice (M.q 0).Q (M.q 0).m (M.q 0).c, Value.bool (E.s 0).op, Value.bool (E.s 0).em, Value.int .i64 (k : Int), Value.int .i64 (E.s 0).tak, Value.int .i64 (E.s 1).sn, Value.int .i64 (E.s 1).ne, Value.slice (M.q 1).Q (M.q 1).m (M.q 1).c, Value.bool (E.s 1).op, Value.bool (E.s 1).em, Value.int .i64 (E.s 1).ack, Value.int .i64 (nG : Int), Value.slice AQ nQ cQ, (M.r 1).v, (M.r 2).v, Value.slice AG nG cG])
  case first =>
    go_wp2
    go_meet
    case rel => exact ⟨rfl, rfl, bal (Below.refl _ _) _, by simp, Blk.new _ _ _⟩
  case rest =>
    obtain ⟨rfl, rfl, B1, hlt, kx⟩ := hcut
    obtain ⟨w1, rfl⟩ : ∃ y, y = wc := ⟨_, rfl⟩
    have hcell : ∀ {u : World}, Below w1.heap.size w1 u → u.cell? ⟨w.heap.size, 0, none⟩ = some (Value.int .i64 (E.s 0).sn) ∧ u.cell? ⟨w.heap.size, 1, none⟩ = some (Value.int .i64 (E.s 0).ne) ∧ u.cell? ⟨w.heap.size, 2, none⟩ = some (Value.slice (M.q 0).Q (M.q 0).m (M.q 0).c) ∧ u.cell? ⟨w.heap.size, 3, none⟩ = some (Value.bool (E.s 0).op) ∧ u.cell? ⟨w.heap.size, 4, none⟩ = some (Value.bool (E.s 0).em) ∧ u.cell? ⟨w.heap.size, 5, none⟩ = some (Value.int .i64 (k : Int)) ∧ u.cell? ⟨w.heap.size, 6, none⟩ = some (Value.int .i64 (E.s 0).tak) ∧ u.cell? ⟨w.heap.size, 7, none⟩ = some (Value.int .i64 (E.s 1).sn) ∧ u.cell? ⟨w.heap.size, 8, none⟩ = some (Value.int .i64 (E.s 1).ne) ∧ u.cell? ⟨w.heap.size, 9, none⟩ = some (Value.slice (M.q 1).Q (M.q 1).m (M.q 1).c) ∧ u.cell? ⟨w.heap.size, 10, none⟩ = some (Value.bool (E.s 1).op) ∧ u.cell? ⟨w.heap.size, 11, none⟩ = some (Value.bool (E.s 1).em) ∧ u.cell? ⟨w.heap.size, 12, none⟩ = some (Value.int .i64 (E.s 1).ack) ∧ u.cell? ⟨w.heap.size, 13, none⟩ = some (Value.int .i64 (nG : Int)) := fun h => ⟨(kx.below h hlt).cell 0, (kx.below h hlt).cell 1, (kx.below h hlt).cell 2, (kx.below h hlt).cell 3, (kx.below h hlt).cell 4, (kx.below h hlt).cell 5, (kx.below h hlt).cell 6, (kx.below h hlt).cell 7, (kx.below h hlt).cell 8, (kx.below h hlt).cell 9, (kx.below h hlt).cell 10, (kx.below h hlt).cell 11, (kx.below h hlt).cell 12, (kx.below h hlt).cell 13⟩
    go_upto_region 1 with (fail)
    go_cut [5, 6] (fun s5 s6 wx => ∃ g5 g6 : Nat, s5 = .pointer (some ⟨g5, 0, none⟩) ∧ s6 = .pointer (some ⟨g6, 0, none⟩) ∧ Below w1.heap.size w1 wx ∧ w1.heap.size ≤ g5 ∧ Blk wx g5 26 #[Value.int .i64 (E.s 0).sn, Value.int .i64 (E.s 0).ne, Value.slice (M.q 0).Q (M.q 0).m (M.q 0).c, Value.bool (E.s 0).op, Value.bool (E.s 0).em, Value.int .i64 (k : Int), Value.int .i64 (E.s 0).tak] ∧ Blk wx g6 26 #[Value.int .i64 (E.s 1).sn, Value.int .i64 (E.s 1).ne, Value.slice (M.q 1).Q (M.q 1).m (M.q 1).c, Value.bool (E.s 1).op, Value.bool (E.s 1).em, Value.int .i64 (E.s 1).ack, Value.int .i64 (nG : Int)])
    case first =>
      have HC := @hcell
      have hw : IntKind.i64.wrap (1 - 0) = 1 := by decide
      have hw2 : IntKind.i64.wrap 1 = 1 := by decide
      clear kx
      go_region_held3 (fun w' => w'.cell? ⟨w.heap.size, 0, none⟩ = some (Value.int .i64 (E.s 0).sn) ∧ w'.cell? ⟨w.heap.size, 1, none⟩ = some (Value.int .i64 (E.s 0).ne) ∧ w'.cell? ⟨w.heap.size, 2, none⟩ = some (Value.slice (M.q 0).Q (M.q 0).m (M.q 0).c) ∧ w'.cell? ⟨w.heap.size, 3, none⟩ = some (Value.bool (E.s 0).op) ∧ w'.cell? ⟨w.heap.size, 4, none⟩ = some (Value.bool (E.s 0).em) ∧ w'.cell? ⟨w.heap.size, 5, none⟩ = some (Value.int .i64 (k : Int)) ∧ w'.cell? ⟨w.heap.size, 6, none⟩ = some (Value.int .i64 (E.s 0).tak) ∧ w'.cell? ⟨w.heap.size, 7, none⟩ = some (Value.int .i64 (E.s 1).sn) ∧ w'.cell? ⟨w.heap.size, 8, none⟩ = some (Value.int .i64 (E.s 1).ne) ∧ w'.cell? ⟨w.heap.size, 9, none⟩ = some (Value.slice (M.q 1).Q (M.q 1).m (M.q 1).c) ∧ w'.cell? ⟨w.heap.size, 10, none⟩ = some (Value.bool (E.s 1).op) ∧ w'.cell? ⟨w.heap.size, 11, none⟩ = some (Value.bool (E.s 1).em) ∧ w'.cell? ⟨w.heap.size, 12, none⟩ = some (Value.int .i64 (E.s 1).ack) ∧ w'.cell? ⟨w.heap.size, 13, none⟩ = some (Value.int .i64 (nG : Int))) (((with_reducible refine HC ?_); (repeat' (first | (with_reducible exact Below.refl _ _) | (with_reducible refine bal ?_ _) | (with_reducible refine Below.drew ?_) | (with_reducible refine below_put7 ?_ ?_) | (with_reducible exact Nat.le_refl _) | (with_reducible exact Nat.le_succ _) | fail)))) (fail)
      all_goals
        go_wp2_with fail
        go_meet
        case rel =>
          refine ⟨_, _, rfl, rfl, ?_, ?_, ?_, ?_⟩
          · (repeat' (first | (with_reducible exact Below.refl _ _) | (with_reducible refine bal ?_ _) | (with_reducible refine Below.drew ?_) | (with_reducible refine below_put7 ?_ ?_) | (with_reducible exact Nat.le_refl _) | (with_reducible exact Nat.le_succ _) | fail))
          · (first | (with_reducible exact Nat.le_refl _) | (with_reducible exact Nat.le_succ _))
          · (repeat' (first | (with_reducible refine blk_put7 ?_) | (with_reducible refine blk_far7 ?_ ?_) | (with_reducible refine blk_new2 (by simp)) | (with_reducible refine Blk.alloc ?_ _) | (with_reducible refine Blk.drew ?_) | (with_reducible exact Nat.succ_ne_self _) | (with_reducible exact (Nat.succ_ne_self _).symm) | omega | fail))
          · (repeat' (first | (with_reducible refine blk_put7 ?_) | (with_reducible refine blk_far7 ?_ ?_) | (with_reducible refine blk_new2 (by simp)) | (with_reducible refine Blk.alloc ?_ _) | (with_reducible refine Blk.drew ?_) | (with_reducible exact Nat.succ_ne_self _) | (with_reducible exact (Nat.succ_ne_self _).symm) | omega | fail))
    case rest =>
      obtain ⟨g5, g6, rfl, rfl, B2, hg5, k5, k6⟩ := hcut
      have kx := kx.below B2 hlt
      obtain ⟨w2, rfl⟩ : ∃ y, y = wc := ⟨_, rfl⟩
      clear hcell
      go_upto_region 2 with (fail)
      go_cut [7, 8] (fun s7 s8 wx => s7 = .slice AQ nQ cQ ∧ s8 = .slice AG nG cG ∧ ∃ n, wx = w2.drewN n)
      case first =>
        have x1 : w2.cell? ⟨w.heap.size, 14, none⟩ = some (.slice AQ nQ cQ) := kx.cell 14
        have x2 : w2.cell? ⟨w.heap.size, 17, none⟩ = some (.slice AG nG cG) := kx.cell 17
        go_quiet (fail)
        all_goals
          go_wp2
          go_meet
          case rel => exact ⟨rfl, rfl, _, rfl⟩
      case rest =>
        obtain ⟨rfl, rfl, nd, rfl⟩ := hcut
        have B3 : Below w.heap.size w (w2.drewN nd) := bseq B1 (show Below w1.heap.size w1 (w2.drewN nd) from ⟨B2.os, B2.tape, B2.output, B2.size, B2.block⟩)
        have k5 : Blk (w2.drewN nd) g5 26 #[Value.int .i64 (E.s 0).sn, Value.int .i64 (E.s 0).ne, Value.slice (M.q 0).Q (M.q 0).m (M.q 0).c, Value.bool (E.s 0).op, Value.bool (E.s 0).em, Value.int .i64 (k : Int), Value.int .i64 (E.s 0).tak] := k5
        have k6 : Blk (w2.drewN nd) g6 26 #[Value.int .i64 (E.s 1).sn, Value.int .i64 (E.s 1).ne, Value.slice (M.q 1).Q (M.q 1).m (M.q 1).c, Value.bool (E.s 1).op, Value.bool (E.s 1).em, Value.int .i64 (E.s 1).ack, Value.int .i64 (nG : Int)] := k6
        generalize w2.drewN nd = w3 at *
        have D0 := Below.refl w3.heap.size w3
        have h1 : ¬ (nQ : Int) < (nG : Int) := by omega
        have h2 : ¬ (nQ : Int) < (k : Int) := by omega
        have h3 : (nG : Int) ≤ (nQ : Int) := by omega
        have h4 : (k : Int) ≤ (nQ : Int) := by omega
        have h5 : nQ ≤ cQ := hcQ
        have h6 : (nG : Int) ≤ (cQ : Int) := by omega
        have h7 : (0 : Int) ≤ (nG : Int) := by omega
        have h8 : (0 : Int) ≤ (k : Int) := by omega
        have h9 : nG ≤ cQ := by omega
        have S_ : ∀ {u : World}, Below w3.heap.size w3 u → u.cell? ⟨g5, 2, none⟩ = some (Value.slice (M.q 0).Q (M.q 0).m (M.q 0).c) ∧ u.cell? ⟨g5, 5, none⟩ = some (Value.int .i64 (k : Int)) := fun h => ⟨(k5.below h k5.lt).cell 2, (k5.below h k5.lt).cell 5⟩
        obtain ⟨AK, hAK⟩ : ∃ AK, (if cQ = k then AQ else Option.map (fun x => x.add (k * 2)) AQ) = AK := ⟨_, rfl⟩
        have hcut : ∀ {u : World}, Below w.heap.size w u → PRd u AK (nQ - k) ((M.r 0).qs.drop k) := fun h => by rw [← hAK]; exact (hPQ.below h).cut hk0 h5
        go_upto_region 3 with (fail)
        go_region_held3 (fun w' => w'.cell? ⟨g5, 2, none⟩ = some (Value.slice (M.q 0).Q (M.q 0).m (M.q 0).c) ∧ w'.cell? ⟨g5, 5, none⟩ = some (Value.int .i64 (k : Int))) (((with_reducible refine S_ ?_); (first | (with_reducible exact D0.drew) | (with_reducible exact D1) | (with_reducible exact D2)))) (first
          | ((go_at_call 24; (with_reducible refine (samepks_any AG AQ nG nG cG cQ (M.r 3).qs ((M.r 0).qs.take nG) _ ?_ ?_ HS1.out hnG).mono ?_); (exact hPG.below B3.drew); (exact (hPQ.below B3.drew).take hlen); rintro e v1 ⟨rfl, hb1⟩; have D1 : Below w3.heap.size w3 v1 := bseq D0.drew hb1))
          | ((go_at_call 24; (with_reducible refine (samepks_any (M.q 0).Q AK (M.q 0).m (nQ - k) (M.q 0).c (cQ - k) (M.q 0).qs ((M.r 0).qs.drop k) _ ?_ ?_ HS2.out ?_).mono ?_); (exact (hH.below (bseq B3 D1)).rd); (exact hcut (bseq B3 D1)); (exact (by rw [HQL.out]; omega)); rintro e v2 ⟨rfl, hb2⟩; have D2 : Below w3.heap.size w3 v2 := bseq D1 hb2)))
        go_upto_region 5 with (fail)
        obtain ⟨a0, a1, a2, a3, a4, a5, a6⟩ := at7 (k5.below D2 k5.lt)
        obtain ⟨b0, b1, b2, b3, b4, b5, b6⟩ := at7 (k6.below D2 k6.lt)
        have BE := bseq B3 D2
        clear k5 k6 S_ B1 B2 B3 D0 D1 D2 hH hPQ hPG kx h1 h2 h3 h4 h5 h6 h7 h8 h9
        rcases hst with hst | hst
        · have e1 : ((nG : Int) == (k : Int)) = true := by rw [hst]; simp
          clear hst
          go_wp2
          go_ret
          exact ⟨rfl, BE⟩
        · have e1 : ((nG : Int) == (k : Int)) = false := by rw [beq_eq_false_iff_ne]; omega
          have e2 : ((nG : Int) == (k : Int) + 1) = true := by rw [hst]; simp
          have e3 : IntKind.i64.wrap ((k : Int) + 1) = (k : Int) + 1 := IntWalk.i64_in _ (by omega)
          clear hst
          go_wp2
          go_ret
          exact ⟨rfl, BE⟩
end Go.Proofs.Ytobljnbpokijdaa
