/-
  The walk of moved. Its contract.
-/
import Derived.Test.YtobljnbpokijdaaAyi
import Derived.Test.YtobljnbpokijdaaAyc
import Derived.Test.YtobljnbpokijdaaAyd
import Derived.Test.YtobljnbpokijdaaAye
import Derived.Test.YtobljnbpokijdaaAyf
import Derived.Test.YtobljnbpokijdaaAyg
import Derived.Test.YtobljnbpokijdaaAyh
import Derived.BigQuiet
import Derived.Deep.QuietTactic
import Derived.Laws.Tables
import Derived.Laws.CopyOwn
namespace Go.Proofs.Ytobljnbpokijdaa
set_option linter.unusedVariables false
set_option linter.unusedSimpArgs false
open Go.RowKit

set_option maxRecDepth 100000 in
set_option maxHeartbeats 100000000 in
theorem moved_1 (Z : List Nat) (E : En) (M : Mm) (lost : Bool) (p : Pk) (base k : Nat) (w : World) (hbase : base ≤ w.heap.size) (hE : Emem base Z w E M) (hzr : ∀ z ∈ Z, base ≤ z ∧ z < w.heap.size) (hp : Pay w p) (hps : ∀ b ∈ foot p.A p.n, b < base) (hk : k ≤ 100000) (hok0 : Ok k (E.s 0)) (hok1 : Ok k (E.s 1)) (hn : ∀ i, i < 4 → (M.r i).n ≤ 100000) :
    Calls Try.prog 22 #[.agg (enCells E M), .agg (stCells ⟨1, lost, p⟩)] w (MvPost Z base (enQ E 1 p.abs) w) := by
  have ol0 := hok0.len
  have ol1 := hok1.len
  simp only [enCells, stCells]
  go_enter Try.func22, Try.ntmps22
  go_upto_region 0 with (fail)
  go_cut [2, 3, 4] (fun s2 s3 s4 wx => s2 = .pointer (some ⟨w.heap.size, 0, none⟩) ∧ s3 = .pointer (some ⟨w.heap.size + 1, 0, none⟩) ∧ s4 = .pointer (some ⟨w.heap.size + 2, 0, none⟩) ∧ Bx Z w base ⟨1, lost, p⟩ E M wx)
  case first =>
    have B0 : Below w.heap.size w w := Below.refl _ _
    have hE1 := (hE.more (Z' := Zs Z w) (fun z hz => by simp only [Zs, List.mem_cons] at hz; rcases hz with hz | hz | hz | hz; (right; omega); (right; omega); (right; omega); (left; exact hz)))
    have HB := fun (a b c : Obj) => bal (bal (bal B0 a) b) c
    have HE := hide hE1
    clear hE hE1
    go_wp2
    go_meet
    case rel => exact ⟨rfl, rfl, rfl, ((Blk.new _ _ _).alloc _).alloc _, (blk_new2 (by simp)).alloc _, blk_new2 (by simp), HE.out.keep (.of_below (HB _ _ _)), (HB _ _ _).mono hbase, hp.below (HB _ _ _), hps, hzr, fun z hz => (HB _ _ _).block z (hzr z hz).2⟩
  case rest =>
    obtain ⟨rfl, rfl, rfl, hB⟩ := hcut
    clear hE hp
    obtain ⟨w1, rfl⟩ : ∃ y, y = wc := ⟨_, rfl⟩
    obtain ⟨t0, t1, t2, t3⟩ := hB.ct
    go_upto_if 22 with (fail)
    clear t0 t1 t2 t3
    go_cut [] (fun wx => ∃ M', Bx Z w base ⟨1, lost, p⟩ (enQ E 1 p.abs) M' wx)
    case first =>
      go_upto_region 2 with (fail)
      go_cut [5, 6] (fun s5 s6 wx => ∃ (g5 : Nat) (Q : Option Addr) (m c : Nat) (qs : List Pk), s5 = .pointer (some ⟨g5, 0, none⟩) ∧ s6 = .int .i64 ((qerr p.abs.1 p.abs.2.length (E.s 1).q.length : Nat) : Int) ∧ Below w1.heap.size w1 wx ∧ Blk wx g5 26 #[.int .i64 (qst (E.s 1) p.abs).sn, .int .i64 (qst (E.s 1) p.abs).ne, .slice Q m c, .bool (qst (E.s 1) p.abs).op, .bool (qst (E.s 1) p.abs).em, .int .i64 (qst (E.s 1) p.abs).ack, .int .i64 (qst (E.s 1) p.abs).tak] ∧ Has wx Q m c qs (qst (E.s 1) p.abs).q ∧ ∀ b ∈ feetQ Q m qs, w1.heap.size ≤ b)
      case first =>
        exact mv_r2_1 _ _ _ _ _ _ _ _ _ _ _ _ _ _ _ _ _ _ _ _ _ _ _ _ _ _ _ _ _ _ _ _ _ _ _ _ _ _ _ _ _ _ _ _ _ _ _ _ _ _ _ _ _ _ _ _ _ _ _ _ _ _ _ _ _ _ _ _ _ _ _ _ _ _ _ _ _ _ _ _ _ _ _ _ _ _ _ _ _ _ _ _ _ _ _ _ _ _ _ _ _ _ _ _ _ _ _ _ _ _ _ _ _ _ _ _ hB hbase ol1 ‹_› ‹_›
      case rest =>
        obtain ⟨g5, Q, m, c, qs, rfl, rfl, B2, k5, hQ, hge⟩ := hcut
        have hof : ∀ b ∈ feetQ Q m qs, b ∉ Zs Z w ∧ ∀ j, j < 4 → (M.r j).g ≠ some b := fun b hb => hB.off (hge b hb)
        have hB := hB.below hbase B2
        clear hge B2
        go_upto_region 3 with (fail)
        go_cut [] (fun wx => Bx Z w base ⟨1, lost, p⟩ ⟨upd E.s 1 (qst (E.s 1) p.abs), E.r⟩ ⟨upd M.q 1 ⟨Q, m, c, qs⟩, M.r⟩ wx)
        case first =>
          obtain ⟨r0, r1, r2, r3, r4, r5, r6⟩ := at7 k5
          obtain ⟨c0, c1, c2, c3, c4, c5, c6, c7, c8, c9, c10, c11, c12, c13, c14, c15, c16, c17⟩ := hB.c
          obtain ⟨t0, t1, t2, t3⟩ := hB.ct
          have f0 := hB.f 7
          have f1 := hB.f 8
          have f2 := hB.f 9
          have f3 := hB.f 10
          have f4 := hB.f 11
          have f5 := hB.f 12
          have f6 := hB.f 13
          have HS := hide (hB.side1 hbase (qst (E.s 1) p.abs) ⟨Q, m, c, qs⟩ hQ (fun b hb => (hof b hb).1) (fun b hb => (hof b hb).2))
          clear hB
          go_wp2_with fail
          go_meet
          case rel => exact HS.out
        case rest =>
          have hB := hcut
          clear hcut hQ hof k5
          by_cases he : qerr p.abs.1 p.abs.2.length (E.s 1).q.length = 0
          · have HE := hide he
            have hz : (((qerr p.abs.1 p.abs.2.length (E.s 1).q.length : Nat) : Int) == 0) = true := by rw [he]; rfl
            clear he
            go_upto_region 5 with (fail)
            go_cut [] (fun wx => ∃ v' g', Bx Z w base ⟨1, lost, p⟩ ⟨upd E.s 1 (qst (E.s 1) p.abs), upd E.r 1 (E.r 1 ++ [p.abs])⟩ ⟨upd M.q 1 ⟨Q, m, c, qs⟩, upd M.r 1 ⟨v', (M.r 1).n + 1, (M.r 1).qs ++ [p], g'⟩⟩ wx)
            case first =>
              exact mv_r5_1 _ _ _ _ _ _ _ _ _ _ _ _ _ _ _ _ _ _ _ _ _ _ _ _ _ _ _ _ _ _ _ _ _ _ _ _ _ _ _ _ _ _ _ _ _ _ _ _ _ _ _ _ _ _ _ _ _ _ _ _ _ _ _ _ _ _ _ _ _ _ _ _ _ _ _ _ _ _ _ _ _ _ _ _ _ _ _ _ _ _ _ _ _ _ _ _ _ _ _ _ _ _ _ _ _ _ _ _ _ _ _ _ _ _ _ _ hB hbase (hn 1 (by decide)) ‹_› ‹_› (fun c x t v u h => by cases t <;> exact h)
            case rest =>
              obtain ⟨v', g', hB⟩ := hcut
              have hB2 : ∃ M', Bx Z w base ⟨1, lost, p⟩ (enQ E 1 p.abs) M' wc := ⟨_, by unfold enQ; rw [if_pos HE.out]; exact hB⟩
              have H2 := hide hB2
              clear hB hB2
              go_wp2
              go_meet
              case rel => exact H2.out
          · have HE := hide he
            have hz : (((qerr p.abs.1 p.abs.2.length (E.s 1).q.length : Nat) : Int) == 0) = false := by
              rw [beq_eq_false_iff_ne]
              omega
            have hB2 : ∃ M', Bx Z w base ⟨1, lost, p⟩ (enQ E 1 p.abs) M' wc := ⟨_, by unfold enQ; rw [if_neg he]; exact hB⟩
            have H2 := hide hB2
            clear he hB hB2
            go_wp2
            go_meet
            case rel => exact H2.out
    case rest =>
      obtain ⟨M', hB⟩ := hcut
      have HD := hide (mv_done hB hbase)
      have HX := hide (show wc.heap[w.heap.size]? = some (.cells (enCells (enQ E 1 p.abs) M') 52 (0, 0)) from hB.x)
      have HO := hide (show wc.heap[w.heap.size + 2]? = some (.cells zeroEn 52 (0, 0)) from hB.o)
      have H1 := hide (enCells_one hB.mem)
      obtain ⟨t0, t1, t2, t3⟩ := hB.ct
      clear hB
      go_wp2_with (first
        | (with_reducible refine wpList_load_row rfl _ (.tmp 2) rfl w.heap.size rfl _ _ _ _ HX.out Try.underlying52 rfl (by kernel_rfl) ?_)
        | (with_reducible refine wpList_store_row rfl _ (.tmp 4) (.tmp 110) rfl (w.heap.size + 2) (enCells (enQ E 1 p.abs) M') rfl rfl _ _ HO.out (by kernel_rfl) rfl H1.out ?_))
      exact bodyPost_ret (run_res_one rfl rfl HD.out.1 _ Try.underlying52 rfl (by kernel_rfl)) rfl HD.out.2
end Go.Proofs.Ytobljnbpokijdaa
