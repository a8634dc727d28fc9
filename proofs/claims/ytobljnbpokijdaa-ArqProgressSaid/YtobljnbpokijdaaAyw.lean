/-
  The walk of the law ArqProgress.
-/
import Derived.Test.YtobljnbpokijdaaAyv
import Derived.Test.YtobljnbpokijdaaAyu
import Derived.Test.YtobljnbpokijdaaAqt
import Derived.Deep.LoopGhost
import Derived.Deep.CutBlock

namespace Go.Proofs.Ytobljnbpokijdaa
set_option linter.unusedVariables false
set_option linter.unusedSimpArgs false
open Go.RowKit

theorem mv_q (E : En) (p : Pkt) : mv E 0 false p = enQ E 0 p := rfl
theorem mv_2 (E : En) (p : Pkt) : mv E 2 false p = mvS E 0 1 false := rfl
theorem mv_3 (E : En) (p : Pkt) : mv E 3 false p = mvS E 1 0 false := rfl
/-- One exchange, as two steps. -/
def XPost (w : World) (g3 : Nat) (E' : En) (wr : World) : Prop := OnRel w.heap.size w g3 E' wr
set_option maxRecDepth 100000 in
set_option maxHeartbeats 20000000 in
theorem arqProgress_walk (A : Option Addr) (n c : Nat) (ps : List Pk) (w : World) (h0 : PRd w A n ps ∧ n ≤ c ∧ c ≤ maxLen) :
    Calls Try.prog 6 #[.slice A n c] w fun e w' => e = .returned (.bool true) ∧ Below w.heap.size w w' := by
  obtain ⟨hP, hnc, hm⟩ := h0
  go_enter Try.func6, Try.ntmps6
  go_upto_region 3 with (go_at_call 7; refine (lives_any _).mono ?_; rintro e w1 ⟨rfl, hb1⟩)
  go_cut [3] (fun s3 wx => ∃ g3 : Nat, s3 = .pointer (some ⟨g3, 0, none⟩) ∧ OnRel w.heap.size w g3 E0 wx)
  case first =>
    go_wp2_with fail
    refine (new_any _).mono ?_
    rintro e w2 ⟨rfl, hb2⟩
    go_wp2_with fail
    refine (new_any _).mono ?_
    rintro e w3 ⟨rfl, hb3⟩
    go_wp2_with fail
    have B3 := bseq (bseq hb1 hb2) hb3
    go_meet
    case rel => exact ⟨w3.heap.size, rfl, M0, Emem.start _ _ _, Blk.new _ _ _, B3.size, bal B3 _⟩
  case rest =>
    obtain ⟨g3, rfl, hR⟩ := hcut
    go_wp2_with fail
    go_loopg [4] 64 (fun g i wr => ∃ k : Nat, g = 64 - k ∧ k ≤ n ∧ k ≤ 64 ∧ i = .int .i64 k ∧ ∃ E Q, PrE E Q 0 0 ∧ Q.length ≤ k ∧ OkE k E ∧ OnRel w.heap.size w g3 E wr)
    case atStart => exact ⟨0, rfl, Nat.zero_le _, Nat.zero_le _, rfl, E0, [], ⟨.inl rfl, rfl, .inl rfl, rfl, rfl, rfl, by simp⟩, Nat.le_refl _, OkE.start, hR⟩
    case round =>
      obtain ⟨k, rfl, hk, hk64, rfl, E, Q, hPr, hQl, hOk, hR⟩ := hrel
      by_cases hlt : k < n
      · by_cases h64 : k < 64
        · obtain ⟨b, o, p, rfl, hbw, HX, c0, c1, hp⟩ := hP.at1 hlt
          have hkn : (k : Int) < (n : Int) := by omega
          have hk64' : (k : Int) < 64 := by omega
          go_upto_region 7 with (fail)
          refine wp_mono (pg_r7 _ _ _ _ _ _ _ _ _ _ _ _ _ _ _ _ _ _ _ _ _ _ _ _ _ _ _ _ _ _ _ _ _ _ _ _ _ _ _ _ _ _ _ _ _ _ _ _ _ _ _ _ _ _ _ _ _ _ _ _ _ _ _ _ _ _ _ _ _ _ _ _ hR hOk hlt h64 hbw rfl c0 c1 hp (Q0 := fun _ _ _ => False) (fun _ _ h => h) (fun _ _ h => h) (fun _ _ _ _ _ h => h)) ?_
          intro e a' wc hq
          cases e with
          | normal =>
            obtain ⟨u13, u14, u15, u16, u17, u18, u19, u20, u21, u22, u23, u24, u25, u26, u27, u28, u29, hcut, rfl⟩ := hq
            have HR := hide hcut
            have HQ := hide (show (if qerr p.abs.1 p.abs.2.length Q.length = 0 then Q ++ [p.abs] else Q).length ≤ k + 1 from (by split; (simp; omega); omega))
            clear hcut c0 c1 hR
            go_wp2
            go_roundg (64 - (k + 1))
            case measure => omega
            case rel => exact ⟨k + 1, rfl, by omega, by omega, by go_num, _, _, by rw [mv_q]; exact hPr.queue p.abs, HQ.out, hOk.mv 0 false p.abs, HR.out⟩
          | _ => exact hq.elim
        · have hkn : (k : Int) < (n : Int) := by omega
          have hk64' : ¬ (k : Int) < 64 := by omega
          clear hlt h64
          obtain ⟨M, hE, kx, hg3, hbe⟩ := hR
          obtain ⟨A0, n0c, hv0, _, _⟩ := hE.row_slice (i := 0) (by decide)
          have hr0 := hE.row (i := 0) (by decide)
          rw [hPr.r0] at hr0
          have HR := hide (show OnRel w.heap.size w g3 E wr from ⟨M, hE, kx, hg3, hbe⟩)
          have x0 : wr.cell? ⟨g3, 14, none⟩ = some (.slice A0 Q.length n0c) := (kx.cell 14).trans (by show some (M.r 0).v = _; rw [hv0, hr0])
          have HOk := hide (hOk.mono hk64)
          have hn64 : Q.length ≤ 64 := by omega
          have HPr := hide hPr
          clear hE kx hv0 hr0 hOk hP hPr hQl
          go_wp2_with fail
          clear x0
          go_loopg [6] Q.length (fun g i wr => ∃ j : Nat, g = Q.length - j ∧ j ≤ Q.length ∧ i = .int .i64 j ∧ ∃ E σ, PrE E Q j σ ∧ OkE (64 + 2 * j) E ∧ OnRel w.heap.size w g3 E wr)
          case atStart => exact ⟨0, rfl, Nat.zero_le _, rfl, E, 0, HPr.out, HOk.out, HR.out⟩
          case round =>
            clear HR HOk HPr
            obtain ⟨j, rfl, hj, rfl, E2, σ, hPr, hOk, hR⟩ := hrel
            obtain ⟨M2, hE, kx, hg3, hbe⟩ := hR
            rename World => w5
            by_cases hlt2 : j < Q.length
            · have hjn : (j : Int) < (Q.length : Int) := by omega
              have hsz := hbe.size
              have hzr : ∀ z ∈ [g3], w.heap.size ≤ z ∧ z < w5.heap.size := fun z hz => by simp only [List.mem_singleton] at hz; subst hz; exact ⟨hg3, kx.lt⟩
              have hrn : ∀ i, i < 4 → (M2.r i).n ≤ 100000 := fun i hi => by rw [hE.row hi]; have := hOk.r i hi; omega
              have HM1 : Calls Try.prog 22 #[.agg (enCells E2 M2), .agg (stCells ⟨2, false, ⟨0, none, 0, 0, []⟩⟩)] w5 (MvPost [g3] w.heap.size (mv E2 2 false (0, [])) w5) := moved_any [g3] E2 M2 ⟨2, false, ⟨0, none, 0, 0, []⟩⟩ w.heap.size (64 + 2 * j) w5 hsz hE hzr (own1_blank 0 _ 0).1 (by simp [foot]) (by omega) hOk.s0 hOk.s1 hrn
              have HX := hide (show w5.heap[g3]? = some (.cells (enCells E2 M2) 52 (0, 0)) from kx)
              go_wp2_with (with_reducible refine wpList_load_row rfl _ (.tmp 3) rfl g3 rfl _ _ _ _ HX.out Try.underlying52 rfl (by kernel_rfl) ?_)
              refine HM1.mono ?_
              rintro e v1 ⟨M3, rfl, hE3, hb3, hz3⟩
              have hO3 := hOk.mv 2 false (0, [])
              have hE3' : Emem w.heap.size [g3] v1 (mv E2 2 false (0, [])) M3 := hE3
              have hsz1 := (hbe.trans hb3).size
              have k3 : Blk v1 g3 52 (enCells E2 M2) := (hz3 g3 (by simp)).trans kx
              have hzr1 : ∀ z ∈ [g3], w.heap.size ≤ z ∧ z < v1.heap.size := fun z hz => by simp only [List.mem_singleton] at hz; subst hz; exact ⟨hg3, k3.lt⟩
              have hrn1 : ∀ i, i < 4 → (M3.r i).n ≤ 100000 := fun i hi => by rw [hE3.row hi]; have := hO3.r i hi; exact Nat.le_trans this (by omega)
              have HM2 : Calls Try.prog 22 #[.agg (enCells (mv E2 2 false (0, [])) M3), .agg (stCells ⟨3, false, ⟨0, none, 0, 0, []⟩⟩)] v1 (MvPost [g3] w.heap.size (mv (mv E2 2 false (0, [])) 3 false (0, [])) v1) := moved_any [g3] (mv E2 2 false (0, [])) M3 ⟨3, false, ⟨0, none, 0, 0, []⟩⟩ w.heap.size (64 + 2 * j + 1) v1 hsz1 hE3' hzr1 (own1_blank 0 _ 0).1 (by simp [foot]) (by omega) hO3.s0 hO3.s1 hrn1
              clear hzr hrn HM1 hzr1 hrn1
              go_wp2_with fail
              refine HM2.mono ?_
              rintro e v2 ⟨M4, rfl, hE4, hb4, hz4⟩
              have hON := onRel_set k3 hg3 (hbe.trans hb3) hE4 hb4 hz4
              have HO := hide hON.1
              have HN := hide hON.2
              have H1 := hide (enCells_one hE4)
              have hO4 := hO3.mv 3 false (0, [])
              have hP4 := hPr.step hlt2
              clear hON HX HM2 hE3 hE3' k3 hz3 hz4 hE4
              go_wp2_with (with_reducible refine wpList_store_row rfl _ (.tmp 3) (.tmp 43) rfl g3 (enCells (mv (mv E2 2 false (0, [])) 3 false (0, [])) M4) rfl rfl _ _ HO.out (by kernel_rfl) rfl H1.out ?_)
              go_roundg (Q.length - (j + 1))
              case measure => omega
              case rel => exact ⟨j + 1, rfl, by omega, by go_num, _, 1 - σ, hP4, hO4.mono (by omega), HN.out⟩
            · obtain rfl : j = Q.length := by omega
              obtain ⟨A3, d3, hv3, _, hP3⟩ := hE.row_slice (i := 3) (by decide)
              obtain ⟨A1, d1, hv1, _, hP1⟩ := hE.row_slice (i := 0) (by decide)
              obtain ⟨A2, d2, hv2, _, _⟩ := hE.row_slice (i := 2) (by decide)
              have hr2 : (M2.r 2).n = 0 := by rw [hE.row (by decide), hPr.r2]; rfl
              have hm0 : (M2.q 0).m = 0 := by rw [(hE.has 0 (by decide)).len, hPr.s0]; simp
              have hab : (M2.r 3).qs.map Pk.abs = (M2.r 0).qs.map Pk.abs := by rw [hE.abs 3 (by decide), hE.abs 0 (by decide), hPr.r3, hPr.r0, List.take_length]
              have hn3 : (M2.r 3).n ≤ 100000 := by rw [hE.row (by decide), hPr.r3]; simp; omega
              have HAB := hide hab
              have X : ∀ {u : World}, Blk u g3 52 (enCells E2 M2) → u.cell? ⟨g3, 17, none⟩ = some (.slice A3 (M2.r 3).n d3) ∧ u.cell? ⟨g3, 14, none⟩ = some (.slice A1 (M2.r 0).n d1) ∧ u.cell? ⟨g3, 16, none⟩ = some (.slice A2 0 d2) ∧
                  u.cell? ⟨g3, 0, none⟩ = some (.int .i64 (E2.s 0).sn) ∧ u.cell? ⟨g3, 1, none⟩ = some (.int .i64 (E2.s 0).ne) ∧ u.cell? ⟨g3, 2, none⟩ = some (.slice (M2.q 0).Q 0 (M2.q 0).c) ∧ u.cell? ⟨g3, 3, none⟩ = some (.bool (E2.s 0).op) ∧ u.cell? ⟨g3, 4, none⟩ = some (.bool (E2.s 0).em) ∧ u.cell? ⟨g3, 5, none⟩ = some (.int .i64 (E2.s 0).ack) ∧ u.cell? ⟨g3, 6, none⟩ = some (.int .i64 (E2.s 0).tak) := fun k =>
                ⟨(k.cell 17).trans (by show some (M2.r 3).v = _; rw [hv3]), (k.cell 14).trans (by show some (M2.r 0).v = _; rw [hv1]), (k.cell 16).trans (by show some (M2.r 2).v = _; rw [hv2, hr2]), k.cell 0, k.cell 1, (k.cell 2).trans (by show some (Value.slice (M2.q 0).Q (M2.q 0).m (M2.q 0).c) = _; rw [hm0]), k.cell 3, k.cell 4, k.cell 5, k.cell 6⟩
              have HX := @X
              clear X hv1 hv2 hv3 hr2 hm0 hab hPr hOk hE
              obtain ⟨y0, y1, y2, y3, y4, y5, y6, y7, y8, y9⟩ := HX kx
              go_wp2_with fail
              refine (samepks_any A3 A1 (M2.r 3).n (M2.r 0).n d3 d1 (M2.r 3).qs (M2.r 0).qs _ hP3 hP1 HAB.out hn3).mono ?_
              rintro e v1 ⟨rfl, hb1⟩
              have k1 := kx.below hb1 kx.lt
              have hbe1 := bseq hbe hb1
              clear y0 y1 y2 y3 y4 y5 y6 y7 y8 y9
              obtain ⟨y0, y1, y2, y3, y4, y5, y6, y7, y8, y9⟩ := HX k1
              go_wp2_with fail
              refine (idle_any (E2.s 0).sn (E2.s 0).ne (E2.s 0).ack (E2.s 0).tak (E2.s 0).op (E2.s 0).em (M2.q 0).Q 0 (M2.q 0).c _).mono ?_
              rintro e v2 ⟨rfl, hb2⟩
              have k2 := k1.below hb2 k1.lt
              have hbe2 := bseq hbe1 hb2
              clear y0 y1 y2 y3 y4 y5 y6 y7 y8 y9
              obtain ⟨y0, y1, y2, y3, y4, y5, y6, y7, y8, y9⟩ := HX k2
              go_wp2
              go_ret
              exact ⟨by simp, hbe2⟩
      · have hkn : ¬ (k : Int) < (n : Int) := by omega
        clear hlt
        obtain ⟨M, hE, kx, hg3, hbe⟩ := hR
        obtain ⟨A0, n0c, hv0, _, _⟩ := hE.row_slice (i := 0) (by decide)
        have hr0 := hE.row (i := 0) (by decide)
        rw [hPr.r0] at hr0
        have HR := hide (show OnRel w.heap.size w g3 E wr from ⟨M, hE, kx, hg3, hbe⟩)
        have x0 : wr.cell? ⟨g3, 14, none⟩ = some (.slice A0 Q.length n0c) := (kx.cell 14).trans (by show some (M.r 0).v = _; rw [hv0, hr0])
        have HOk := hide (hOk.mono hk64)
        have hn64 : Q.length ≤ 64 := by omega
        have HPr := hide hPr
        clear hE kx hv0 hr0 hOk hP hPr hQl
        go_wp2_with fail
        clear x0
        go_loopg [6] Q.length (fun g i wr => ∃ j : Nat, g = Q.length - j ∧ j ≤ Q.length ∧ i = .int .i64 j ∧ ∃ E σ, PrE E Q j σ ∧ OkE (64 + 2 * j) E ∧ OnRel w.heap.size w g3 E wr)
        case atStart => exact ⟨0, rfl, Nat.zero_le _, rfl, E, 0, HPr.out, HOk.out, HR.out⟩
        case round =>
          clear HR HOk HPr
          obtain ⟨j, rfl, hj, rfl, E2, σ, hPr, hOk, hR⟩ := hrel
          obtain ⟨M2, hE, kx, hg3, hbe⟩ := hR
          rename World => w5
          by_cases hlt2 : j < Q.length
          · have hjn : (j : Int) < (Q.length : Int) := by omega
            have hsz := hbe.size
            have hzr : ∀ z ∈ [g3], w.heap.size ≤ z ∧ z < w5.heap.size := fun z hz => by simp only [List.mem_singleton] at hz; subst hz; exact ⟨hg3, kx.lt⟩
            have hrn : ∀ i, i < 4 → (M2.r i).n ≤ 100000 := fun i hi => by rw [hE.row hi]; have := hOk.r i hi; omega
            have HM1 : Calls Try.prog 22 #[.agg (enCells E2 M2), .agg (stCells ⟨2, false, ⟨0, none, 0, 0, []⟩⟩)] w5 (MvPost [g3] w.heap.size (mv E2 2 false (0, [])) w5) := moved_any [g3] E2 M2 ⟨2, false, ⟨0, none, 0, 0, []⟩⟩ w.heap.size (64 + 2 * j) w5 hsz hE hzr (own1_blank 0 _ 0).1 (by simp [foot]) (by omega) hOk.s0 hOk.s1 hrn
            have HX := hide (show w5.heap[g3]? = some (.cells (enCells E2 M2) 52 (0, 0)) from kx)
            go_wp2_with (with_reducible refine wpList_load_row rfl _ (.tmp 3) rfl g3 rfl _ _ _ _ HX.out Try.underlying52 rfl (by kernel_rfl) ?_)
            refine HM1.mono ?_
            rintro e v1 ⟨M3, rfl, hE3, hb3, hz3⟩
            have hO3 := hOk.mv 2 false (0, [])
            have hE3' : Emem w.heap.size [g3] v1 (mv E2 2 false (0, [])) M3 := hE3
            have hsz1 := (hbe.trans hb3).size
            have k3 : Blk v1 g3 52 (enCells E2 M2) := (hz3 g3 (by simp)).trans kx
            have hzr1 : ∀ z ∈ [g3], w.heap.size ≤ z ∧ z < v1.heap.size := fun z hz => by simp only [List.mem_singleton] at hz; subst hz; exact ⟨hg3, k3.lt⟩
            have hrn1 : ∀ i, i < 4 → (M3.r i).n ≤ 100000 := fun i hi => by rw [hE3.row hi]; have := hO3.r i hi; exact Nat.le_trans this (by omega)
            have HM2 : Calls Try.prog 22 #[.agg (enCells (mv E2 2 false (0, [])) M3), .agg (stCells ⟨3, false, ⟨0, none, 0, 0, []⟩⟩)] v1 (MvPost [g3] w.heap.size (mv (mv E2 2 false (0, [])) 3 false (0, [])) v1) := moved_any [g3] (mv E2 2 false (0, [])) M3 ⟨3, false, ⟨0, none, 0, 0, []⟩⟩ w.heap.size (64 + 2 * j + 1) v1 hsz1 hE3' hzr1 (own1_blank 0 _ 0).1 (by simp [foot]) (by omega) hO3.s0 hO3.s1 hrn1
            clear hzr hrn HM1 hzr1 hrn1
            go_wp2_with fail
            refine HM2.mono ?_
            rintro e v2 ⟨M4, rfl, hE4, hb4, hz4⟩
            have hON := onRel_set k3 hg3 (hbe.trans hb3) hE4 hb4 hz4
            have HO := hide hON.1
            have HN := hide hON.2
            have H1 := hide (enCells_one hE4)
            have hO4 := hO3.mv 3 false (0, [])
            have hP4 := hPr.step hlt2
            clear hON HX HM2 hE3 hE3' k3 hz3 hz4 hE4
            go_wp2_with (with_reducible refine wpList_store_row rfl _ (.tmp 3) (.tmp 43) rfl g3 (enCells (mv (mv E2 2 false (0, [])) 3 false (0, [])) M4) rfl rfl _ _ HO.out (by kernel_rfl) rfl H1.out ?_)
            go_roundg (Q.length - (j + 1))
            case measure => omega
            case rel => exact ⟨j + 1, rfl, by omega, by go_num, _, 1 - σ, hP4, hO4.mono (by omega), HN.out⟩
          · obtain rfl : j = Q.length := by omega
            obtain ⟨A3, d3, hv3, _, hP3⟩ := hE.row_slice (i := 3) (by decide)
            obtain ⟨A1, d1, hv1, _, hP1⟩ := hE.row_slice (i := 0) (by decide)
            obtain ⟨A2, d2, hv2, _, _⟩ := hE.row_slice (i := 2) (by decide)
            have hr2 : (M2.r 2).n = 0 := by rw [hE.row (by decide), hPr.r2]; rfl
            have hm0 : (M2.q 0).m = 0 := by rw [(hE.has 0 (by decide)).len, hPr.s0]; simp
            have hab : (M2.r 3).qs.map Pk.abs = (M2.r 0).qs.map Pk.abs := by rw [hE.abs 3 (by decide), hE.abs 0 (by decide), hPr.r3, hPr.r0, List.take_length]
            have hn3 : (M2.r 3).n ≤ 100000 := by rw [hE.row (by decide), hPr.r3]; simp; omega
            have HAB := hide hab
            have X : ∀ {u : World}, Blk u g3 52 (enCells E2 M2) → u.cell? ⟨g3, 17, none⟩ = some (.slice A3 (M2.r 3).n d3) ∧ u.cell? ⟨g3, 14, none⟩ = some (.slice A1 (M2.r 0).n d1) ∧ u.cell? ⟨g3, 16, none⟩ = some (.slice A2 0 d2) ∧
                u.cell? ⟨g3, 0, none⟩ = some (.int .i64 (E2.s 0).sn) ∧ u.cell? ⟨g3, 1, none⟩ = some (.int .i64 (E2.s 0).ne) ∧ u.cell? ⟨g3, 2, none⟩ = some (.slice (M2.q 0).Q 0 (M2.q 0).c) ∧ u.cell? ⟨g3, 3, none⟩ = some (.bool (E2.s 0).op) ∧ u.cell? ⟨g3, 4, none⟩ = some (.bool (E2.s 0).em) ∧ u.cell? ⟨g3, 5, none⟩ = some (.int .i64 (E2.s 0).ack) ∧ u.cell? ⟨g3, 6, none⟩ = some (.int .i64 (E2.s 0).tak) := fun k =>
              ⟨(k.cell 17).trans (by show some (M2.r 3).v = _; rw [hv3]), (k.cell 14).trans (by show some (M2.r 0).v = _; rw [hv1]), (k.cell 16).trans (by show some (M2.r 2).v = _; rw [hv2, hr2]), k.cell 0, k.cell 1, (k.cell 2).trans (by show some (Value.slice (M2.q 0).Q (M2.q 0).m (M2.q 0).c) = _; rw [hm0]), k.cell 3, k.cell 4, k.cell 5, k.cell 6⟩
            have HX := @X
            clear X hv1 hv2 hv3 hr2 hm0 hab hPr hOk hE
            obtain ⟨y0, y1, y2, y3, y4, y5, y6, y7, y8, y9⟩ := HX kx
            go_wp2_with fail
            refine (samepks_any A3 A1 (M2.r 3).n (M2.r 0).n d3 d1 (M2.r 3).qs (M2.r 0).qs _ hP3 hP1 HAB.out hn3).mono ?_
            rintro e v1 ⟨rfl, hb1⟩
            have k1 := kx.below hb1 kx.lt
            have hbe1 := bseq hbe hb1
            clear y0 y1 y2 y3 y4 y5 y6 y7 y8 y9
            obtain ⟨y0, y1, y2, y3, y4, y5, y6, y7, y8, y9⟩ := HX k1
            go_wp2_with fail
            refine (idle_any (E2.s 0).sn (E2.s 0).ne (E2.s 0).ack (E2.s 0).tak (E2.s 0).op (E2.s 0).em (M2.q 0).Q 0 (M2.q 0).c _).mono ?_
            rintro e v2 ⟨rfl, hb2⟩
            have k2 := k1.below hb2 k1.lt
            have hbe2 := bseq hbe1 hb2
            clear y0 y1 y2 y3 y4 y5 y6 y7 y8 y9
            obtain ⟨y0, y1, y2, y3, y4, y5, y6, y7, y8, y9⟩ := HX k2
            go_wp2
            go_ret
            exact ⟨by simp, hbe2⟩
end Go.Proofs.Ytobljnbpokijdaa
