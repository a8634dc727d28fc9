/-
  The walk of lives. Its contract: it returns true.
-/
import Derived.Test.YtobljnbpokijdaaAqp
import Derived.Test.YtobljnbpokijdaaAqq
import Derived.Test.YtobljnbpokijdaaAqr
import Derived.Test.YtobljnbpokijdaaAqs
namespace Go.Proofs.Ytobljnbpokijdaa
set_option linter.unusedVariables false
set_option linter.unusedSimpArgs false
open Go.RowKit
set_option maxRecDepth 100000 in
set_option maxHeartbeats 100000000 in
theorem lives_any (w : World) : Calls Try.prog 7 #[] w fun e w' => e = .returned (.bool true) ∧ Below w.heap.size w w' := by
  go_enter Try.func7, Try.ntmps7
  go_upto_region 1 with (fail)
  go_cut [1, 2] (fun s1 s2 wx => s1 = .pointer (some ⟨w.heap.size + 2, 0, none⟩) ∧ s2 = .pointer (some ⟨w.heap.size + 3, 0, none⟩) ∧ Below w.heap.size w wx ∧ Blk wx (w.heap.size + 2) 30 #[.int .i64 2, .slice (some ⟨w.heap.size, 0, none⟩) 1 1] ∧ Blk wx (w.heap.size + 3) 30 #[.int .i64 2, .slice (some ⟨w.heap.size + 1, 0, none⟩) 1 1] ∧ Pay wx ⟨2, some ⟨w.heap.size, 0, none⟩, 1, 1, [1]⟩ ∧ Pay wx ⟨2, some ⟨w.heap.size + 1, 0, none⟩, 1, 1, [2]⟩)
  case first =>
    exact lv_r1 _ _ _ _ _ _ _ _ _ _ _ _ _ _ _ _ _ _ _ _ _ _ _ _ _ _ _ _ _ _ _ _ _ _ _ _ _ _ _ _ _ _ _ _ _ _ _ _ _ _ _ _ _ _ _ _ _ _ _ _ _ _ _ _ _ _ _ _ _ _ _ _ _ _ _ _ _ _ _ _ _ _ _ _ _ _ _ _ _ _ _ _ _ _ _ _ _ _ _ _ _ _ _ _ _ _ _ _ _ _ _ _ _ _ _ _ _ _ _ _ _ _ _ _ _ _ _ _ _ _ _ _ _ _ _ _ _ _ _ _ _ _ _ _ _ _ _ ‹_› ‹_›
  case rest =>
    obtain ⟨rfl, rfl, B1, kx, ky, px, py⟩ := hcut
    obtain ⟨w1, rfl⟩ : ∃ w1, w1 = wc := ⟨_, rfl⟩
    obtain ⟨x0, x1⟩ := at2 kx
    have hX := ky.lt
    go_upto_region 2 with (fail)
    go_cut [3, 4] (fun s3 s4 wx => s4 = .int .i64 0 ∧ Below w1.heap.size w1 wx ∧ ∃ g Q cap qs, s3 = .pointer (some ⟨g, 0, none⟩) ∧ w1.heap.size ≤ g ∧ Blk wx g 26 #[.int .i64 0, .int .i64 0, .slice Q 1 cap, .bool false, .bool false, .int .i64 0, .int .i64 0] ∧ Has wx Q 1 cap qs [(2, [1])])
    case first =>
      exact lv_r2 _ _ _ _ _ _ _ _ _ _ _ _ _ _ _ _ _ _ _ _ _ _ _ _ _ _ _ _ _ _ _ _ _ _ _ _ _ _ _ _ _ _ _ _ _ _ _ _ _ _ _ _ _ _ _ _ _ _ _ _ _ _ _ _ _ _ _ _ _ _ _ _ _ _ _ _ _ _ _ _ _ _ _ _ _ _ _ _ _ _ _ _ _ _ _ _ _ _ _ _ _ _ _ _ _ _ _ _ _ _ _ _ _ _ _ _ _ _ _ _ _ _ _ _ _ _ _ _ _ _ _ _ _ _ _ _ _ _ _ _ _ _ _ _ _ _ kx ky px py ‹_› ‹_›
    case rest =>
      obtain ⟨rfl, B2, g, Q, cap, qs, rfl, hg, ka, hQ⟩ := hcut
      clear x0 x1
      go_upto_region 3 with (fail)
      go_cut [3, 5] (fun s3 s5 wx => s5 = .int .i64 0 ∧ s3 = .pointer (some ⟨g, 0, none⟩) ∧ Below w1.heap.size w1 wx ∧ ∃ Q cap qs, Blk wx g 26 #[.int .i64 0, .int .i64 0, .slice Q 2 cap, .bool false, .bool false, .int .i64 0, .int .i64 0] ∧ Has wx Q 2 cap qs [(2, [1]), (2, [2])])
      case first =>
        exact lv_r3 _ _ _ _ _ _ _ _ _ _ _ _ _ _ _ _ _ _ _ _ _ _ _ _ _ _ _ _ _ _ _ _ _ _ _ _ _ _ _ _ _ _ _ _ _ _ _ _ _ _ _ _ _ _ _ _ _ _ _ _ _ _ _ _ _ _ _ _ _ _ _ _ _ _ _ _ _ _ _ _ _ _ _ _ _ _ _ _ _ _ _ _ _ _ _ _ _ _ _ _ _ _ _ _ _ _ _ _ _ _ _ _ _ _ _ _ _ _ _ _ _ _ _ _ _ _ _ _ _ _ _ _ _ _ _ _ _ _ _ _ _ _ _ _ _ _ _ _ _ B2 hg ka hQ ky py ‹_› ‹_›
      case rest =>
        obtain ⟨rfl, rfl, B2, Q, cap, qs, ka, hQ⟩ := hcut
        go_upto_region 4 with (fail)
        go_cut [3, 6] (fun s3 s6 wx => s3 = .pointer (some ⟨g, 0, none⟩) ∧ Below w1.heap.size w1 wx ∧ ∃ Q cap qs g6 A6 c6, Blk wx g 26 #[.int .i64 0, .int .i64 0, .slice Q 2 cap, .bool true, .bool false, .int .i64 0, .int .i64 0] ∧ Has wx Q 2 cap qs [(2, [1]), (2, [2])] ∧ s6 = .pointer (some ⟨g6, 0, none⟩) ∧ Blk wx g6 32 #[.int .i64 0, .int .i64 0, .int .i64 1, .int .i64 2, .slice A6 1 c6] ∧ Pay wx ⟨2, A6, 1, c6, [1]⟩)
        case first =>
          exact lv_r4 _ _ _ _ _ _ _ _ _ _ _ _ _ _ _ _ _ _ _ _ _ _ _ _ _ _ _ _ _ _ _ _ _ _ _ _ _ _ _ _ _ _ _ _ _ _ _ _ _ _ _ _ _ _ _ _ _ _ _ _ _ _ _ _ _ _ _ _ _ _ _ _ _ _ _ _ _ _ _ _ _ _ _ _ _ _ _ _ _ _ _ _ _ _ _ _ _ _ _ _ _ _ _ _ _ _ _ _ _ _ _ _ _ _ _ _ _ _ _ _ _ _ _ _ _ _ _ _ _ _ _ _ _ _ _ _ _ _ _ _ _ _ _ _ _ _ _ _ B2 hg ka hQ ‹_› ‹_›
        case rest =>
          obtain ⟨rfl, B2, Q, cap, qs, g6, A6, c6, ka, hQ, rfl, k6, p6⟩ := hcut
          go_upto_region 5 with (fail)
          go_cut [7, 8] (fun s7 s8 wx => Below wc.heap.size wc wx ∧ ∃ g8 A8 c8, s8 = .pointer (some ⟨g8, 0, none⟩) ∧ Blk wx g8 32 #[.int .i64 0, .int .i64 0, .int .i64 1, .int .i64 2, .slice A8 1 c8] ∧ Pay wx ⟨2, A8, 1, c8, [1]⟩)
          case first =>
            exact lv_r5 _ _ _ _ _ _ _ _ _ _ _ _ _ _ _ _ _ _ _ _ _ _ _ _ _ _ _ _ _ _ _ _ _ _ _ _ _ _ _ _ _ _ _ _ _ _ _ _ _ _ _ _ _ _ _ _ _ _ _ _ _ _ _ _ _ _ _ _ _ _ _ _ _ _ _ _ _ _ _ _ _ _ _ _ _ _ _ _ _ _ _ _ _ _ _ _ _ _ _ _ _ _ _ _ _ _ _ _ _ _ _ _ _ _ _ _ _ _ _ _ _ _ _ _ _ _ _ _ _ _ _ _ _ _ _ _ _ _ _ _ _ _ _ _ _ _ _ ka hQ ‹_› ‹_›
          case rest =>
            obtain ⟨hb5, g8, A8, c8, rfl, k8, p8⟩ := hcut
            have B5 := bseq B2 hb5
            have ka := ka.below hb5 ka.lt
            have hQ := hQ.below hb5
            have k6 := k6.below hb5 k6.lt
            have p6 := p6.below hb5
            have kx := kx.below B5 kx.lt
            have ky := ky.below B5 ky.lt
            have px := px.below B5
            have py := py.below B5
            have BB := bseq B1 B5
            clear B1 B2 hb5 B5
            obtain ⟨w5, rfl⟩ : ∃ x, x = wc := ⟨_, rfl⟩
            have D0 := Below.refl w5.heap.size w5
            go_upto_region 6 with (fail)
            go_cut [9, 11, 12] (fun s9 s11 s12 wx => s11 = .bool false ∧ s12 = .bool true ∧ Below w5.heap.size w5 wx ∧ ∃ g9 Q9 c9 q9, s9 = .pointer (some ⟨g9, 0, none⟩) ∧ w5.heap.size ≤ g9 ∧ Blk wx g9 26 #[.int .i64 1, .int .i64 1, .slice Q9 1 c9, .bool false, .bool false, .int .i64 1, .int .i64 0] ∧ Has wx Q9 1 c9 q9 [(2, [2])])
            case first =>
              exact lv_r6 _ _ _ _ _ _ _ _ _ _ _ _ _ _ _ _ _ _ _ _ _ _ _ _ _ _ _ _ _ _ _ _ _ _ _ _ _ _ _ _ _ _ _ _ _ _ _ _ _ _ _ _ _ _ _ _ _ _ _ _ _ _ _ _ _ _ _ _ _ _ _ _ _ _ _ _ _ _ _ _ _ _ _ _ _ _ _ _ _ _ _ _ _ _ _ _ _ _ _ _ _ _ _ _ _ _ _ _ _ _ _ _ _ _ _ _ _ _ _ _ _ _ _ _ _ _ _ _ _ _ _ _ _ _ _ _ _ _ _ _ _ _ _ _ _ _ _ ka hQ ‹_› ‹_›
            case rest =>
              obtain ⟨rfl, rfl, B6, g9, Q9, c9, q9, rfl, hg9, k9, hQ9⟩ := hcut
              go_upto_region 7 with (fail)
              go_cut [9, 13] (fun s9 s13 wx => s9 = .pointer (some ⟨g9, 0, none⟩) ∧ Below w5.heap.size w5 wx ∧ ∃ Q9 c9 q9 g13 A13 c13, Blk wx g9 26 #[.int .i64 1, .int .i64 1, .slice Q9 1 c9, .bool true, .bool false, .int .i64 1, .int .i64 0] ∧ Has wx Q9 1 c9 q9 [(2, [2])] ∧ s13 = .pointer (some ⟨g13, 0, none⟩) ∧ Blk wx g13 32 #[.int .i64 1, .int .i64 1, .int .i64 0, .int .i64 2, .slice A13 1 c13] ∧ Pay wx ⟨2, A13, 1, c13, [2]⟩)
              case first =>
                exact lv_r7 _ _ _ _ _ _ _ _ _ _ _ _ _ _ _ _ _ _ _ _ _ _ _ _ _ _ _ _ _ _ _ _ _ _ _ _ _ _ _ _ _ _ _ _ _ _ _ _ _ _ _ _ _ _ _ _ _ _ _ _ _ _ _ _ _ _ _ _ _ _ _ _ _ _ _ _ _ _ _ _ _ _ _ _ _ _ _ _ _ _ _ _ _ _ _ _ _ _ _ _ _ _ _ _ _ _ _ _ _ _ _ _ _ _ _ _ _ _ _ _ _ _ _ _ _ _ _ _ _ _ _ _ _ _ _ _ _ _ _ _ _ _ _ _ _ _ B6 hg9 k9 hQ9 ‹_› ‹_›
              case rest =>
                obtain ⟨rfl, BX, Q9, c9, q9, g13, A13, c13, k9, hQ9, rfl, k13, p13⟩ := hcut
                have ka := ka.below BX ka.lt
                have hQ := hQ.below BX
                have k6 := k6.below BX k6.lt
                have p6 := p6.below BX
                have k8 := k8.below BX k8.lt
                have p8 := p8.below BX
                have kx := kx.below BX kx.lt
                have ky := ky.below BX ky.lt
                have px := px.below BX
                have py := py.below BX
                have BB := bseq BB BX
                clear BX B6
                obtain ⟨w7, rfl⟩ : ∃ x, x = wc := ⟨_, rfl⟩
                have D0 := Below.refl w7.heap.size w7
                go_upto_region 8 with (fail)
                go_cut [14, 15, 16] (fun s14 s15 s16 wx => s16 = .bool true ∧ Below w7.heap.size w7 wx ∧ ∃ g14 Q14 c14 q14 g15 A15 c15, s14 = .pointer (some ⟨g14, 0, none⟩) ∧ Blk wx g14 26 #[.int .i64 0, .int .i64 1, .slice Q14 0 c14, .bool false, .bool false, .int .i64 0, .int .i64 1] ∧ Has wx Q14 0 c14 q14 [] ∧ s15 = .pointer (some ⟨g15, 0, none⟩) ∧ Blk wx g15 30 #[.int .i64 2, .slice A15 1 c15] ∧ Pay wx ⟨2, A15, 1, c15, [1]⟩)
                case first =>
                  exact lv_r8 _ _ _ _ _ _ _ _ _ _ _ _ _ _ _ _ _ _ _ _ _ _ _ _ _ _ _ _ _ _ _ _ _ _ _ _ _ _ _ _ _ _ _ _ _ _ _ _ _ _ _ _ _ _ _ _ _ _ _ _ _ _ _ _ _ _ _ _ _ _ _ _ _ _ _ _ _ _ _ _ _ _ _ _ _ _ _ _ _ _ _ _ _ _ _ _ _ _ _ _ _ _ _ _ _ _ _ _ _ _ _ _ _ _ _ _ _ _ _ _ _ _ _ _ _ _ _ _ _ _ _ _ _ _ _ _ _ _ _ _ _ _ _ _ k6 p6 ‹_› ‹_›
                case rest =>
                  obtain ⟨rfl, BX, g14, Q14, c14, q14, g15, A15, c15, rfl, k14, hQ14, rfl, k15, p15⟩ := hcut
                  have ka := ka.below BX ka.lt
                  have hQ := hQ.below BX
                  have k6 := k6.below BX k6.lt
                  have p6 := p6.below BX
                  have k8 := k8.below BX k8.lt
                  have p8 := p8.below BX
                  have kx := kx.below BX kx.lt
                  have ky := ky.below BX ky.lt
                  have px := px.below BX
                  have py := py.below BX
                  have BB := bseq BB BX
                  have k9 := k9.below BX k9.lt
                  have k13 := k13.below BX k13.lt
                  have p13 := p13.below BX
                  clear BX
                  go_upto_region 9 with (fail)
                  go_cut [20] (fun s20 wx => s20 = .bool false ∧ Below wc.heap.size wc wx)
                  case first =>
                    exact lv_r9 _ _ _ _ _ _ _ _ _ _ _ _ _ _ _ _ _ _ _ _ _ _ _ _ _ _ _ _ _ _ _ _ _ _ _ _ _ _ _ _ _ _ _ _ _ _ _ _ _ _ _ _ _ _ _ _ _ _ _ _ _ _ _ _ _ _ _ _ _ _ _ _ _ _ _ _ _ _ _ _ _ _ _ _ _ _ _ _ _ _ _ _ _ _ _ _ _ _ _ _ _ _ _ _ _ _ _ _ _ _ _ _ _ _ _ _ _ _ _ _ _ _ _ _ _ _ _ _ _ _ _ _ _ _ _ _ _ _ _ _ _ _ _ _ _ _ k6 p6 k14 hQ14 ‹_› ‹_›
                  case rest =>
                    obtain ⟨rfl, BX⟩ := hcut
                    have ka := ka.below BX ka.lt
                    have hQ := hQ.below BX
                    have k6 := k6.below BX k6.lt
                    have p6 := p6.below BX
                    have k8 := k8.below BX k8.lt
                    have p8 := p8.below BX
                    have kx := kx.below BX kx.lt
                    have ky := ky.below BX ky.lt
                    have px := px.below BX
                    have py := py.below BX
                    have BB := bseq BB BX
                    have k9 := k9.below BX k9.lt
                    have k13 := k13.below BX k13.lt
                    have p13 := p13.below BX
                    have k14 := k14.below BX k14.lt
                    have k15 := k15.below BX k15.lt
                    have p15 := p15.below BX
                    clear BX
                    obtain ⟨w9, rfl⟩ : ∃ x, x = wc := ⟨_, rfl⟩
                    have D0 := Below.refl w9.heap.size w9
                    go_upto_region 10 with (fail)
                    go_cut [23] (fun s23 wx => s23 = .int .i64 1 ∧ Below w9.heap.size w9 wx)
                    case first =>
                      exact lv_r10 _ _ _ _ _ _ _ _ _ _ _ _ _ _ _ _ _ _ _ _ _ _ _ _ _ _ _ _ _ _ _ _ _ _ _ _ _ _ _ _ _ _ _ _ _ _ _ _ _ _ _ _ _ _ _ _ _ _ _ _ _ _ _ _ _ _ _ _ _ _ _ _ _ _ _ _ _ _ _ _ _ _ _ _ _ _ _ _ _ _ _ _ _ _ _ _ _ _ _ _ _ _ _ _ _ _ _ _ _ _ _ _ _ _ _ _ _ _ _ _ _ _ _ _ _ _ _ _ _ _ _ _ _ _ _ _ _ _ _ _ _ _ _ ka hQ ‹_› ‹_›
                    case rest =>
                      obtain ⟨rfl, BX⟩ := hcut
                      have ka := ka.below BX ka.lt
                      have hQ := hQ.below BX
                      have k6 := k6.below BX k6.lt
                      have p6 := p6.below BX
                      have k8 := k8.below BX k8.lt
                      have p8 := p8.below BX
                      have kx := kx.below BX kx.lt
                      have ky := ky.below BX ky.lt
                      have px := px.below BX
                      have py := py.below BX
                      have BB := bseq BB BX
                      have k9 := k9.below BX k9.lt
                      have k13 := k13.below BX k13.lt
                      have p13 := p13.below BX
                      have k14 := k14.below BX k14.lt
                      have k15 := k15.below BX k15.lt
                      have p15 := p15.below BX
                      clear BX
                      have HB := Below.refl wc.heap.size wc
                      have k3 := ka.below HB ka.lt
                      obtain ⟨a0, a1, a2, a3, a4, a5, a6⟩ := at7 k3
                      have m6 := k6.below HB k6.lt
                      obtain ⟨b0, b1, b2, b3, b4⟩ := at5 m6
                      have m8 := k8.below HB k8.lt
                      obtain ⟨c0, c1, c2, c3, c4⟩ := at5 m8
                      have m9 := k9.below HB k9.lt
                      obtain ⟨d0, d1, d2, d3, d4, d5, d6⟩ := at7 m9
                      have m13 := k13.below HB k13.lt
                      obtain ⟨e0, e1, e2, e3, e4⟩ := at5 m13
                      have m14 := k14.below HB k14.lt
                      obtain ⟨h0, h1, h2, h3, h4, h5, h6⟩ := at7 m14
                      have m15 := k15.below HB k15.lt
                      obtain ⟨i0, i1⟩ := at2 m15
                      have mx := kx.below HB kx.lt
                      obtain ⟨x0, x1⟩ := at2 mx
                      have my := ky.below HB ky.lt
                      obtain ⟨y0, y1⟩ := at2 my
                      go_wp2_with fail
                      refine (samepdu_any 0 0 1 2 A6 (some ⟨w.heap.size, 0, none⟩) 1 1 c6 1 [1] _ (p6.below HB).1 (px.below HB).1 (by decide)).mono ?_
                      rintro e wn ⟨rfl, hbn⟩
                      have HB := bseq HB hbn
                      clear a0 a1 a2 a3 a4 a5 a6 b0 b1 b2 b3 b4 c0 c1 c2 c3 c4 d0 d1 d2 d3 d4 d5 d6 e0 e1 e2 e3 e4 h0 h1 h2 h3 h4 h5 h6 i0 i1 x0 x1 y0 y1
                      have k3 := ka.below HB ka.lt
                      obtain ⟨a0, a1, a2, a3, a4, a5, a6⟩ := at7 k3
                      have m6 := k6.below HB k6.lt
                      obtain ⟨b0, b1, b2, b3, b4⟩ := at5 m6
                      have m8 := k8.below HB k8.lt
                      obtain ⟨c0, c1, c2, c3, c4⟩ := at5 m8
                      have m9 := k9.below HB k9.lt
                      obtain ⟨d0, d1, d2, d3, d4, d5, d6⟩ := at7 m9
                      have m13 := k13.below HB k13.lt
                      obtain ⟨e0, e1, e2, e3, e4⟩ := at5 m13
                      have m14 := k14.below HB k14.lt
                      obtain ⟨h0, h1, h2, h3, h4, h5, h6⟩ := at7 m14
                      have m15 := k15.below HB k15.lt
                      obtain ⟨i0, i1⟩ := at2 m15
                      have mx := kx.below HB kx.lt
                      obtain ⟨x0, x1⟩ := at2 mx
                      have my := ky.below HB ky.lt
                      obtain ⟨y0, y1⟩ := at2 my
                      go_wp2_with fail
                      refine (samepdu_any 0 0 1 2 A8 A6 1 1 c8 c6 [1] _ (p8.below HB).1 (p6.below HB).1 (by decide)).mono ?_
                      rintro e wn ⟨rfl, hbn⟩
                      have HB := bseq HB hbn
                      clear a0 a1 a2 a3 a4 a5 a6 b0 b1 b2 b3 b4 c0 c1 c2 c3 c4 d0 d1 d2 d3 d4 d5 d6 e0 e1 e2 e3 e4 h0 h1 h2 h3 h4 h5 h6 i0 i1 x0 x1 y0 y1
                      have k3 := ka.below HB ka.lt
                      obtain ⟨a0, a1, a2, a3, a4, a5, a6⟩ := at7 k3
                      have m6 := k6.below HB k6.lt
                      obtain ⟨b0, b1, b2, b3, b4⟩ := at5 m6
                      have m8 := k8.below HB k8.lt
                      obtain ⟨c0, c1, c2, c3, c4⟩ := at5 m8
                      have m9 := k9.below HB k9.lt
                      obtain ⟨d0, d1, d2, d3, d4, d5, d6⟩ := at7 m9
                      have m13 := k13.below HB k13.lt
                      obtain ⟨e0, e1, e2, e3, e4⟩ := at5 m13
                      have m14 := k14.below HB k14.lt
                      obtain ⟨h0, h1, h2, h3, h4, h5, h6⟩ := at7 m14
                      have m15 := k15.below HB k15.lt
                      obtain ⟨i0, i1⟩ := at2 m15
                      have mx := kx.below HB kx.lt
                      obtain ⟨x0, x1⟩ := at2 mx
                      have my := ky.below HB ky.lt
                      obtain ⟨y0, y1⟩ := at2 my
                      go_wp2_with fail
                      refine (samepdu_any 1 1 0 2 A13 (some ⟨w.heap.size + 1, 0, none⟩) 1 1 c13 1 [2] _ (p13.below HB).1 (py.below HB).1 (by decide)).mono ?_
                      rintro e wn ⟨rfl, hbn⟩
                      have HB := bseq HB hbn
                      clear a0 a1 a2 a3 a4 a5 a6 b0 b1 b2 b3 b4 c0 c1 c2 c3 c4 d0 d1 d2 d3 d4 d5 d6 e0 e1 e2 e3 e4 h0 h1 h2 h3 h4 h5 h6 i0 i1 x0 x1 y0 y1
                      have k3 := ka.below HB ka.lt
                      obtain ⟨a0, a1, a2, a3, a4, a5, a6⟩ := at7 k3
                      have m6 := k6.below HB k6.lt
                      obtain ⟨b0, b1, b2, b3, b4⟩ := at5 m6
                      have m8 := k8.below HB k8.lt
                      obtain ⟨c0, c1, c2, c3, c4⟩ := at5 m8
                      have m9 := k9.below HB k9.lt
                      obtain ⟨d0, d1, d2, d3, d4, d5, d6⟩ := at7 m9
                      have m13 := k13.below HB k13.lt
                      obtain ⟨e0, e1, e2, e3, e4⟩ := at5 m13
                      have m14 := k14.below HB k14.lt
                      obtain ⟨h0, h1, h2, h3, h4, h5, h6⟩ := at7 m14
                      have m15 := k15.below HB k15.lt
                      obtain ⟨i0, i1⟩ := at2 m15
                      have mx := kx.below HB kx.lt
                      obtain ⟨x0, x1⟩ := at2 mx
                      have my := ky.below HB ky.lt
                      obtain ⟨y0, y1⟩ := at2 my
                      go_wp2_with fail
                      refine (samepk_any 2 A15 (some ⟨w.heap.size, 0, none⟩) 1 1 c15 1 [1] _ (p15.below HB).1 (px.below HB).1 (by decide)).mono ?_
                      rintro e wn ⟨rfl, hbn⟩
                      have HB := bseq HB hbn
                      clear a0 a1 a2 a3 a4 a5 a6 b0 b1 b2 b3 b4 c0 c1 c2 c3 c4 d0 d1 d2 d3 d4 d5 d6 e0 e1 e2 e3 e4 h0 h1 h2 h3 h4 h5 h6 i0 i1 x0 x1 y0 y1
                      have k3 := ka.below HB ka.lt
                      obtain ⟨a0, a1, a2, a3, a4, a5, a6⟩ := at7 k3
                      have m6 := k6.below HB k6.lt
                      obtain ⟨b0, b1, b2, b3, b4⟩ := at5 m6
                      have m8 := k8.below HB k8.lt
                      obtain ⟨c0, c1, c2, c3, c4⟩ := at5 m8
                      have m9 := k9.below HB k9.lt
                      obtain ⟨d0, d1, d2, d3, d4, d5, d6⟩ := at7 m9
                      have m13 := k13.below HB k13.lt
                      obtain ⟨e0, e1, e2, e3, e4⟩ := at5 m13
                      have m14 := k14.below HB k14.lt
                      obtain ⟨h0, h1, h2, h3, h4, h5, h6⟩ := at7 m14
                      have m15 := k15.below HB k15.lt
                      obtain ⟨i0, i1⟩ := at2 m15
                      have mx := kx.below HB kx.lt
                      obtain ⟨x0, x1⟩ := at2 mx
                      have my := ky.below HB ky.lt
                      obtain ⟨y0, y1⟩ := at2 my
                      go_wp2_with fail
                      refine (new_any _).mono ?_
                      rintro e wn ⟨rfl, hbn⟩
                      have HB := bseq HB hbn
                      clear a0 a1 a2 a3 a4 a5 a6 b0 b1 b2 b3 b4 c0 c1 c2 c3 c4 d0 d1 d2 d3 d4 d5 d6 e0 e1 e2 e3 e4 h0 h1 h2 h3 h4 h5 h6 i0 i1 x0 x1 y0 y1
                      have k3 := ka.below HB ka.lt
                      obtain ⟨a0, a1, a2, a3, a4, a5, a6⟩ := at7 k3
                      have m6 := k6.below HB k6.lt
                      obtain ⟨b0, b1, b2, b3, b4⟩ := at5 m6
                      have m8 := k8.below HB k8.lt
                      obtain ⟨c0, c1, c2, c3, c4⟩ := at5 m8
                      have m9 := k9.below HB k9.lt
                      obtain ⟨d0, d1, d2, d3, d4, d5, d6⟩ := at7 m9
                      have m13 := k13.below HB k13.lt
                      obtain ⟨e0, e1, e2, e3, e4⟩ := at5 m13
                      have m14 := k14.below HB k14.lt
                      obtain ⟨h0, h1, h2, h3, h4, h5, h6⟩ := at7 m14
                      have m15 := k15.below HB k15.lt
                      obtain ⟨i0, i1⟩ := at2 m15
                      have mx := kx.below HB kx.lt
                      obtain ⟨x0, x1⟩ := at2 mx
                      have my := ky.below HB ky.lt
                      obtain ⟨y0, y1⟩ := at2 my
                      go_wp2_with fail
                      refine (idle_any 0 0 0 0 false false none 0 0 _).mono ?_
                      rintro e wn ⟨rfl, hbn⟩
                      have HB := bseq HB hbn
                      clear a0 a1 a2 a3 a4 a5 a6 b0 b1 b2 b3 b4 c0 c1 c2 c3 c4 d0 d1 d2 d3 d4 d5 d6 e0 e1 e2 e3 e4 h0 h1 h2 h3 h4 h5 h6 i0 i1 x0 x1 y0 y1
                      have k3 := ka.below HB ka.lt
                      obtain ⟨a0, a1, a2, a3, a4, a5, a6⟩ := at7 k3
                      have m6 := k6.below HB k6.lt
                      obtain ⟨b0, b1, b2, b3, b4⟩ := at5 m6
                      have m8 := k8.below HB k8.lt
                      obtain ⟨c0, c1, c2, c3, c4⟩ := at5 m8
                      have m9 := k9.below HB k9.lt
                      obtain ⟨d0, d1, d2, d3, d4, d5, d6⟩ := at7 m9
                      have m13 := k13.below HB k13.lt
                      obtain ⟨e0, e1, e2, e3, e4⟩ := at5 m13
                      have m14 := k14.below HB k14.lt
                      obtain ⟨h0, h1, h2, h3, h4, h5, h6⟩ := at7 m14
                      have m15 := k15.below HB k15.lt
                      obtain ⟨i0, i1⟩ := at2 m15
                      have mx := kx.below HB kx.lt
                      obtain ⟨x0, x1⟩ := at2 mx
                      have my := ky.below HB ky.lt
                      obtain ⟨y0, y1⟩ := at2 my
                      go_wp2_with fail
                      refine (idle_any 0 0 0 0 true false Q 2 cap _).mono ?_
                      rintro e wn ⟨rfl, hbn⟩
                      have HB := bseq HB hbn
                      clear a0 a1 a2 a3 a4 a5 a6 b0 b1 b2 b3 b4 c0 c1 c2 c3 c4 d0 d1 d2 d3 d4 d5 d6 e0 e1 e2 e3 e4 h0 h1 h2 h3 h4 h5 h6 i0 i1 x0 x1 y0 y1
                      have k3 := ka.below HB ka.lt
                      obtain ⟨a0, a1, a2, a3, a4, a5, a6⟩ := at7 k3
                      have m6 := k6.below HB k6.lt
                      obtain ⟨b0, b1, b2, b3, b4⟩ := at5 m6
                      have m8 := k8.below HB k8.lt
                      obtain ⟨c0, c1, c2, c3, c4⟩ := at5 m8
                      have m9 := k9.below HB k9.lt
                      obtain ⟨d0, d1, d2, d3, d4, d5, d6⟩ := at7 m9
                      have m13 := k13.below HB k13.lt
                      obtain ⟨e0, e1, e2, e3, e4⟩ := at5 m13
                      have m14 := k14.below HB k14.lt
                      obtain ⟨h0, h1, h2, h3, h4, h5, h6⟩ := at7 m14
                      have m15 := k15.below HB k15.lt
                      obtain ⟨i0, i1⟩ := at2 m15
                      have mx := kx.below HB kx.lt
                      obtain ⟨x0, x1⟩ := at2 mx
                      have my := ky.below HB ky.lt
                      obtain ⟨y0, y1⟩ := at2 my
                      go_wp2
                      go_ret
                      exact ⟨rfl, bseq BB HB⟩
end Go.Proofs.Ytobljnbpokijdaa
