/-
  The walk of the law ArqPlays.
-/
import Derived.Test.YtobljnbpokijdaaAqt
import Derived.Test.YtobljnbpokijdaaAqu
import Derived.Test.YtobljnbpokijdaaAqw
import Derived.Deep.CutBlock
import Derived.Deep.LoopGhost
namespace Go.Proofs.Ytobljnbpokijdaa
set_option linter.unusedVariables false
set_option linter.unusedSimpArgs false
open Go.RowKit
set_option maxRecDepth 100000 in
set_option maxHeartbeats 20000000 in
theorem arqPlays_walk (A : Option Addr) (n c : Nat) (os : List Opr) (w : World) (h0 : ORd w A n os ∧ n ≤ c ∧ c ≤ maxLen) :
    Calls Try.prog 3 #[.slice A n c] w fun e w' => e = .returned (.bool true) ∧ Below w.heap.size w w' := by
  obtain ⟨hA, hnc, hm⟩ := h0
  by_cases hbig : 100 < n
  · have hbig' : (100 : Int) < (n : Int) := by omega
    go_enter Try.func3, Try.ntmps3
    go_wp2_with fail
    refine (lives_any _).mono ?_
    rintro e w1 ⟨rfl, hb1⟩
    go_wp2
    go_ret
    exact ⟨rfl, hb1⟩
  · have hbig' : (n : Int) ≤ (100 : Int) := by omega
    go_enter Try.func3, Try.ntmps3
    go_upto_region 5 with (go_at_call 7; refine (lives_any _).mono ?_; rintro e w1 ⟨rfl, hb1⟩)
    go_cut [3, 4] (fun s3 s4 wx => Below w.heap.size w wx ∧ ∃ ga gb : Nat, s3 = .pointer (some ⟨ga, 0, none⟩) ∧ s4 = .pointer (some ⟨gb, 0, none⟩) ∧ ga ≠ gb ∧ w.heap.size ≤ ga ∧ w.heap.size ≤ gb ∧ Side wx ga ⟨0, 0, [], false, false, 0, 0⟩ none 0 0 ∧ Side wx gb ⟨0, 0, [], false, false, 0, 0⟩ none 0 0)
    case first =>
      go_wp2_with fail
      refine (new_any _).mono ?_
      rintro e w2 ⟨rfl, hb2⟩
      go_wp2_with fail
      refine (rnew_any _).mono ?_
      rintro e w3 ⟨rfl, hb3⟩
      go_wp2_with fail
      have B3 := bseq (bseq hb1 hb2) hb3
      go_meet
      case rel => exact ⟨bal (bal B3 _) _, w3.heap.size, w3.heap.size + 1, rfl, rfl, by omega, B3.size, Nat.le_succ_of_le B3.size, (Blk.new _ _ _).alloc _, blk_new2 (by simp)⟩
    case rest =>
      obtain ⟨B1, ga, gb, rfl, rfl, hne, hga, hgb, ka, kb⟩ := hcut
      go_wp2_with fail
      go_loopg [5] n (fun g i wr => ∃ k : Nat, g = n - k ∧ k ≤ n ∧ i = .int .i64 k ∧ PlRel w n ga gb k wr)
      case atStart => exact ⟨0, rfl, Nat.zero_le _, rfl, ⟨0, 0, [], false, false, 0, 0⟩, none, 0, 0, [], none, 0, 0, [], Ok.start, ⟨ka, kb, ⟨PRd.nil _ _, rfl, Nat.le_refl _⟩, ⟨PRd.nil _ _, rfl, Nat.le_refl _⟩, rowOff_nil _ _, rowOff_nil _ _, rowOff_nil _ _, rowOff_nil _ _⟩, B1⟩
      case round =>
        obtain ⟨k, rfl, hk, rfl, s, Qa, ma, ca, qa, Qb, mb, cb, qb, hok, hbo, hbe⟩ := hrel
        by_cases hlt : k < n
        · obtain ⟨b, o, x, rfl, hbw, HX, c0, c1, c2, c3, c4, c5, hp⟩ := hA.at_ hlt
          have hkn : (k : Int) < (n : Int) := by omega
          have hbo0 := hbo
          have hbs : b < wr.heap.size := Nat.lt_of_lt_of_le hbw hbe.size
          have hpw := hp.below hbe
          have E0 := (hbe.cell (p := ⟨b, o + k * 6, none⟩) hbw).trans c0
          have E1 := (hbe.cell (p := ⟨b, o + k * 6 + 1, none⟩) hbw).trans c1
          have E2 := (hbe.cell (p := ⟨b, o + k * 6 + 2, none⟩) hbw).trans c2
          have E3 := (hbe.cell (p := ⟨b, o + k * 6 + 3, none⟩) hbw).trans c3
          have E4 := (hbe.cell (p := ⟨b, o + k * 6 + 4, none⟩) hbw).trans c4
          have E5 := (hbe.cell (p := ⟨b, o + k * 6 + 5, none⟩) hbw).trans c5
          go_upto_region 9 with (fail)
          go_cut [6] (fun s6 wx => Below wr.heap.size wr wx ∧ ∃ gp : Nat, s6 = .pointer (some ⟨gp, 0, none⟩) ∧ wr.heap.size ≤ gp ∧ Blk wx gp 32 #[.int .i64 x.sn, .int .i64 x.ne, .int .i64 x.md, .int .i64 x.p.id, .slice x.p.A x.p.n x.p.c])
          case first =>
            go_wp2_with fail
            go_meet
            case rel => exact ⟨bal (Below.refl _ _) _, _, rfl, Nat.le_refl _, Blk.new _ _ _⟩
          case rest =>
            obtain ⟨B2, gp, rfl, hgp, kp⟩ := hcut
            go_upto_region 10 with (fail)
            go_cut [] (fun wx => Below wr.heap.size wr wx ∧ ∃ A' c', Blk wx gp 32 #[.int .i64 x.sn, .int .i64 x.ne, .int .i64 x.md, .int .i64 x.p.id, .slice A' x.p.n c'] ∧ Pay wx ⟨x.p.id, A', x.p.n, c', x.p.l⟩)
            case first =>
              obtain ⟨r0, r1, r2, r3, r4⟩ := at5 kp
              go_wp2_with fail
              refine (copiedp_any x.p.id x.p.A x.p.n x.p.c x.p.l _ (hpw.below B2).1 hp.2.2.2).mono ?_
              rintro e w4 ⟨A4, c4', rfl, hown4, hc4, hb4⟩
              have kq := kp.below hb4 kp.lt
              obtain ⟨r0, r1, r2, r3, r4⟩ := at5 kq
              obtain ⟨f0, f1, f2, f3, f4⟩ := fr5 kq
              obtain ⟨hpay4, hpb4⟩ := pay_own (id := x.p.id) hown4 hp.2.1 hc4 hp.2.2.2
              have hpl := kp.lt
              have hW4 : Own1 wc.heap.size w4 ⟨x.p.id, A4, x.p.n, c4', x.p.l⟩ := ⟨hpay4, hpb4⟩
              go_wp2_with fail
              go_meet
              case rel => exact ⟨bset (bset (bseq B2 hb4) hgp) hgp, A4, c4', by simpa using (kq.set_ 3 (.int .i64 x.p.id)).set_ 4 (.slice A4 x.p.n c4'), ((hW4.set hpl).set hpl).1⟩
            case rest =>
              obtain ⟨B3, A', c', kq, hpq⟩ := hcut
              have BW := hbe.trans (B3.mono hbe.size)
              have hbo := hbo.below B3
              have F0 := (B3.cell (p := ⟨b, o + k * 6, none⟩) hbs).trans E0
              have F1 := (B3.cell (p := ⟨b, o + k * 6 + 1, none⟩) hbs).trans E1
              have F2 := (B3.cell (p := ⟨b, o + k * 6 + 2, none⟩) hbs).trans E2
              have F3 := (B3.cell (p := ⟨b, o + k * 6 + 3, none⟩) hbs).trans E3
              have F4 := (B3.cell (p := ⟨b, o + k * 6 + 4, none⟩) hbs).trans E4
              have F5 := (B3.cell (p := ⟨b, o + k * 6 + 5, none⟩) hbs).trans E5
              have hpx := hpw.below B3
              have hbs := Nat.lt_of_lt_of_le hbs B3.size
              have hol := hok.len
              have hk100 : k ≤ 100000 := by omega
              have hgp0 : ga ≠ gp := fun e => by have := hbo0.a.lt; omega
              have hgp1 : gb ≠ gp := fun e => by have := hbo0.b.lt; omega
              clear E0 E1 E2 E3 E4 E5 hpw kp hbo0
              obtain ⟨w2, rfl⟩ : ∃ y, y = wc := ⟨_, rfl⟩
              go_upto_block 2 with (fail)
              go_cut [] (fun wx => PlRel w n ga gb (k + 1) wx)
              case first =>
                rcases (show x.d = 0 ∨ x.d = 1 ∨ x.d = 2 ∨ (x.d ≠ 0 ∧ x.d ≠ 1 ∧ x.d ≠ 2) by omega) with hd | hd | hd | ⟨hd0, hd1, hd2⟩
                · have hb0 : (x.d == 0) = true := by rw [hd]; rfl
                  clear hd
                  go_upto_region 14 with (fail)
                  go_cut [7] (fun s7 wx => s7 = .int .i64 ((qerr x.p.id x.p.l.length s.q.length : Nat) : Int) ∧ Below w.heap.size w wx ∧ ∃ Q1 m1 c1 q1, Side wx ga (qst s x.p.abs) Q1 m1 c1 ∧ Side wx gb s Qb mb cb ∧ Has wx Q1 m1 c1 q1 (qst s x.p.abs).q ∧ Has wx Qb mb cb qb s.q ∧ RowOff ga Q1 m1 ∧ RowOff gb Q1 m1)
                  case first =>
                    obtain ⟨r0, r1, r2, r3, r4, r5, r6⟩ := at7 (show Blk _ _ _ _ from hbo.a)
                    obtain ⟨s0, s1, s2, s3, s4⟩ := at5 kq
                    go_wp2_with fail
                    refine (queueS s Qa ma ca qa _ ⟨x.p.id, A', x.p.n, c', x.p.l⟩ hbo.ha hol hpq).mono ?_
                    rintro e v1 ⟨Q1, m1, c1, q1', rfl, hF1, hb1'⟩
                    have b3 := hbo.below hb1'
                    obtain ⟨r0, r1, r2, r3, r4, r5, r6⟩ := at7 (show Blk _ _ _ _ from b3.a)
                    obtain ⟨f0, f1, f2, f3, f4, f5, f6⟩ := fr7 (show Blk _ _ _ _ from b3.a)
                    have hz1 := hbo.a.lt
                    have hz2 := hbo.b.lt
                    have BV := BW.trans (hb1'.mono BW.size)
                    go_wp2_with fail
                    go_meet
                    case rel =>
                      refine ⟨rfl, below_put7 BV hga, Q1, m1, c1, q1', ?_, ?_, ?_, ?_, hF1.off hz1, hF1.off hz2⟩
                      · exact blk_put7 (show Blk _ _ _ _ from b3.a)
                      · exact blk_far7 (show Blk _ _ _ _ from b3.b) (Ne.symm hne)
                      · exact (hF1.put7 hz1).has
                      · exact b3.hb.put7 b3.ba (fun q hq => pay_off b3.a (b3.hb.rd.2 q hq))
                  case rest =>
                    obtain ⟨rfl, B4, Q1, m1, c1, q1, ka1, kb1, hA1, hB1, o1, o2⟩ := hcut
                    obtain ⟨w3, rfl⟩ : ∃ y, y = wc := ⟨_, rfl⟩
                    have hla := ka1.lt
                    have hlb := kb1.lt
                    have hpy := hp.below B4
                    have G4 := (B4.cell (p := ⟨b, o + k * 6 + 4, none⟩) hbw).trans c4
                    have G5 := (B4.cell (p := ⟨b, o + k * 6 + 5, none⟩) hbw).trans c5
                    obtain ⟨r0, r1, r2, r3, r4, r5, r6⟩ := at7 (show Blk _ _ _ _ from kb1)
                    go_upto_region 15 with (fail)
                    go_cut [8] (fun s8 wx => s8 = .int .i64 ((qerr x.p.id x.p.l.length s.q.length : Nat) : Int) ∧ Below w.heap.size w wx ∧ ∃ Q2 m2 c2 q2, Both wx ga gb (qst s x.p.abs) Q1 m1 c1 q1 Q2 m2 c2 q2)
                    case first =>
                      go_region_with (go_at_call 12; (refine (rqueueS s Qb mb cb qb _ x.p ?_ hol ?_).mono ?_); (exact hB1.below (Below.refl w3.heap.size w3).drew); (exact hpy.drew); rintro e v2 ⟨Q2, m2, c2, q2, rfl, hH2, hL2, hb2'⟩; have hbd : Below w3.heap.size w3 v2 := (Below.refl w3.heap.size w3).drew.trans hb2'; have ka2 := ka1.below hbd; have kb2 := kb1.below hbd; have hA2 := hA1.below hbd; obtain ⟨f0, f1, f2, f3, f4, f5, f6⟩ := fr7 (show Blk _ _ _ _ from kb2); obtain ⟨r0, r1, r2, r3, r4, r5, r6⟩ := at7 (show Blk _ _ _ _ from kb2))
                      all_goals
                        go_wp2_with fail
                        go_meet
                        case rel =>
                          refine ⟨rfl, below_put7 (B4.trans (hbd.mono B4.size)) hgb, Q2, m2, c2, q2, ?_, ?_, ?_, ?_, o1, o2, hL2.off hbo.ba hla, hL2.off hbo.bb hlb⟩
                          · exact blk_far7 (show Blk _ _ _ _ from ka2) hne
                          · exact blk_put7 (show Blk _ _ _ _ from kb2)
                          · exact hA2.put7 o2 (fun q hq => pay_off kb2 (hA2.rd.2 q hq))
                          · exact hH2.put7 (hL2.off hbo.bb hlb) (fun q hq => pay_off kb2 (hH2.rd.2 q hq))
                    case rest =>
                      obtain ⟨rfl, B6, Q2, m2, c2, q2, hbo6⟩ := hcut
                      go_wp2
                      go_meet
                      case rel => exact ⟨qst s x.p.abs, Q1, m1, c1, q1, Q2, m2, c2, q2, (hok.qst _).mono (by omega), hbo6, B6⟩
                · have hb0 : (x.d == 0) = false := by rw [hd]; rfl
                  have hb1 : (x.d == 1) = true := by rw [hd]; rfl
                  clear hd
                  go_upto_region 20 with (fail)
                  go_cut [] (fun wx => Below w.heap.size w wx ∧ ∃ Q1 c1 q1 p1, Side wx ga (sst s) Q1 ma c1 ∧ Side wx gb s Qb mb cb ∧ Has wx Q1 ma c1 q1 (sst s).q ∧ Has wx Qb mb cb qb s.q ∧ RowOff ga Q1 ma ∧ RowOff gb Q1 ma ∧ RowOff (w2.heap.size + 1) Q1 ma ∧ Blk wx w2.heap.size 32 #[.int .i64 s.sn, .int .i64 s.ne, .int .i64 (smd (sst s).em s.q.length), .int .i64 p1.id, .slice p1.A p1.n p1.c] ∧ Pay wx p1 ∧ p1.abs = spk (sst s).em s.q ∧ Blk wx (w2.heap.size + 1) 32 #[.int .i64 0, .int .i64 0, .int .i64 0, .int .i64 0, .slice none 0 0])
                  case first =>
                    have D2 := bal (bal (Below.refl w2.heap.size w2) (.cells #[.int .i64 0, .int .i64 0, .int .i64 0, .int .i64 0, .slice none 0 0] 32)) (.cells #[.int .i64 0, .int .i64 0, .int .i64 0, .int .i64 0, .slice none 0 0] 32)
                    have b2 := hbo.below D2
                    obtain ⟨r0, r1, r2, r3, r4, r5, r6⟩ := at7 (show Blk _ _ _ _ from b2.a)
                    have q1 : Blk ((w2.alloc (.cells #[.int .i64 0, .int .i64 0, .int .i64 0, .int .i64 0, .slice none 0 0] 32)).alloc (.cells #[.int .i64 0, .int .i64 0, .int .i64 0, .int .i64 0, .slice none 0 0] 32)) w2.heap.size 32 #[.int .i64 0, .int .i64 0, .int .i64 0, .int .i64 0, .slice none 0 0] := (Blk.new _ _ _).alloc _
                    have q2 : Blk ((w2.alloc (.cells #[.int .i64 0, .int .i64 0, .int .i64 0, .int .i64 0, .slice none 0 0] 32)).alloc (.cells #[.int .i64 0, .int .i64 0, .int .i64 0, .int .i64 0, .slice none 0 0] 32)) (w2.heap.size + 1) 32 #[.int .i64 0, .int .i64 0, .int .i64 0, .int .i64 0, .slice none 0 0] := blk_new2 (by simp)
                    have hla := hbo.a.lt
                    have hlb := hbo.b.lt
                    go_wp2_with fail
                    refine (sendS s Qa ma ca qa _ b2.ha hol).mono ?_
                    rintro e v1 ⟨Q1, c1, q1', p1, rfl, hF1, hO1, hp1, hb1'⟩
                    have b3 := b2.below hb1'
                    have q3 := q1.below hb1' q1.lt
                    have q4 := q2.below hb1' q2.lt
                    obtain ⟨r0, r1, r2, r3, r4, r5, r6⟩ := at7 (show Blk _ _ _ _ from b3.a)
                    obtain ⟨f0, f1, f2, f3, f4, f5, f6⟩ := fr7 (show Blk _ _ _ _ from b3.a)
                    obtain ⟨y0, y1, y2, y3, y4⟩ := at5 q3
                    obtain ⟨z0, z1, z2, z3, z4⟩ := fr5 q3
                    have n1 : ¬ ga = w2.heap.size := by omega
                    have n2 : ¬ gb = w2.heap.size := by omega
                    have n3 : ¬ ga = w2.heap.size + 1 := by omega
                    have hz1 : ga < ((w2.alloc (.cells #[.int .i64 0, .int .i64 0, .int .i64 0, .int .i64 0, .slice none 0 0] 32)).alloc (.cells #[.int .i64 0, .int .i64 0, .int .i64 0, .int .i64 0, .slice none 0 0] 32)).heap.size := by simp; omega
                    have hz2 : gb < ((w2.alloc (.cells #[.int .i64 0, .int .i64 0, .int .i64 0, .int .i64 0, .slice none 0 0] 32)).alloc (.cells #[.int .i64 0, .int .i64 0, .int .i64 0, .int .i64 0, .slice none 0 0] 32)).heap.size := by simp; omega
                    have hz3 : w2.heap.size < ((w2.alloc (.cells #[.int .i64 0, .int .i64 0, .int .i64 0, .int .i64 0, .slice none 0 0] 32)).alloc (.cells #[.int .i64 0, .int .i64 0, .int .i64 0, .int .i64 0, .slice none 0 0] 32)).heap.size := by simp; omega
                    have hz4 : w2.heap.size + 1 < ((w2.alloc (.cells #[.int .i64 0, .int .i64 0, .int .i64 0, .int .i64 0, .slice none 0 0] 32)).alloc (.cells #[.int .i64 0, .int .i64 0, .int .i64 0, .int .i64 0, .slice none 0 0] 32)).heap.size := by simp
                    have BV := (BW.trans (D2.mono BW.size)).trans (hb1'.mono (BW.trans (D2.mono BW.size)).size)
                    go_wp2_with fail
                    go_meet
                    case rel =>
                      refine ⟨below_put5 (below_put7 BV hga) BW.size, Q1, c1, q1', p1, ?_, ?_, ?_, ?_, hF1.off hz1, hF1.off hz2, hF1.off hz4, ?_, ?_, hp1, ?_⟩
                      · exact blk_far5 (blk_put7 (show Blk _ _ _ _ from b3.a)) n1
                      · exact blk_far5 (blk_far7 (show Blk _ _ _ _ from b3.b) (Ne.symm hne)) n2
                      · exact ((hF1.put7 hz1).put5 hz3).has
                      · exact (b3.hb.put7 b3.ba (fun q hq => pay_off b3.a (b3.hb.rd.2 q hq))).put5 (hbo.hb.offTop (Nat.le_refl _))
                      · exact blk_put5 (blk_far7 q3 (Ne.symm n1))
                      · exact ((hO1.put7 hz1).put5 hz3).1
                      · exact blk_far5 (blk_far7 q4 (Ne.symm n3)) (by simp)
                  case rest =>
                    obtain ⟨B4, Q1, c1, q1, p1, ka1, kb1, hA1, hB1, o1, o2, o3, kd1, hpy1, habs1, kd2⟩ := hcut
                    have o4 := hbo.hb.offTop (Nat.le_succ w2.heap.size)
                    have hla := hbo.a.lt
                    have hlb := hbo.b.lt
                    obtain ⟨w3, rfl⟩ : ∃ y, y = wc := ⟨_, rfl⟩
                    go_upto_region 21 with (fail)
                    go_cut [] (fun wx => Below w.heap.size w wx ∧ ∃ p2, Both wx ga gb (sst s) Q1 ma c1 q1 Qb mb cb qb ∧ Blk wx w2.heap.size 32 #[.int .i64 s.sn, .int .i64 s.ne, .int .i64 (smd (sst s).em s.q.length), .int .i64 p1.id, .slice p1.A p1.n p1.c] ∧ Pay wx p1 ∧ Blk wx (w2.heap.size + 1) 32 #[.int .i64 s.sn, .int .i64 s.ne, .int .i64 (smd (sst s).em s.q.length), .int .i64 p2.id, .slice p2.A p2.n p2.c] ∧ Pay wx p2 ∧ p2.abs = spk (sst s).em s.q)
                    case first =>
                      obtain ⟨r0, r1, r2, r3, r4, r5, r6⟩ := at7 (show Blk _ _ _ _ from kb1)
                      go_wp2_with fail
                      refine (rsendS s Qb mb cb qb _ hB1 hol).mono ?_
                      rintro e v2 ⟨p2, rfl, hB2, hpy2, habs2, hb2'⟩
                      have ka2 := ka1.below hb2'
                      have kb2 := kb1.below hb2'
                      have kd3 := kd1.below hb2' kd1.lt
                      have kd4 := kd2.below hb2' kd2.lt
                      have hA2 := hA1.below hb2'
                      have hpy3 := hpy1.below hb2'
                      obtain ⟨r0, r1, r2, r3, r4, r5, r6⟩ := at7 (show Blk _ _ _ _ from kb2)
                      obtain ⟨f0, f1, f2, f3, f4, f5, f6⟩ := fr7 (show Blk _ _ _ _ from kb2)
                      obtain ⟨y0, y1, y2, y3, y4⟩ := at5 kd4
                      obtain ⟨z0, z1, z2, z3, z4⟩ := fr5 kd4
                      have n1 : ¬ gb = w2.heap.size + 1 := by omega
                      have n2 : ¬ gb = w2.heap.size := by omega
                      have n3 : ¬ ga = w2.heap.size + 1 := by omega
                      have B5 := B4.trans (hb2'.mono B4.size)
                      go_wp2_with fail
                      go_meet
                      case rel =>
                        refine ⟨below_put5 (below_put7 B5 hgb) (Nat.le_succ_of_le BW.size), p2, ⟨?_, ?_, ?_, ?_, o1, o2, hbo.ba, hbo.bb⟩, ?_, ?_, ?_, ?_, habs2⟩
                        · exact blk_far5 (blk_far7 (show Blk _ _ _ _ from ka2) hne) n3
                        · exact blk_far5 (blk_put7 (show Blk _ _ _ _ from kb2)) n1
                        · exact (hA2.put7 o2 (fun q hq => pay_off kb2 (hA2.rd.2 q hq))).put5 ⟨o3, fun q hq => pay_off5 kd4 (hA2.rd.2 q hq)⟩
                        · exact (hB2.put7 hbo.bb (fun q hq => pay_off kb2 (hB2.rd.2 q hq))).put5 o4
                        · exact blk_far5 (blk_far7 kd3 (Ne.symm n2)) (by simp)
                        · exact pay_put5 (pay_put7 hpy3 (pay_off kb2 hpy3)) (pay_off5 kd4 hpy3)
                        · exact blk_put5 (blk_far7 kd4 (Ne.symm n1))
                        · exact pay_put5 (pay_put7 hpy2 (pay_off kb2 hpy2)) (pay_off5 kd4 hpy2)
                    case rest =>
                      obtain ⟨B6, p2, hbo6, kd1, hpy1, kd2, hpy2, habs2⟩ := hcut
                      obtain ⟨y0, y1, y2, y3, y4⟩ := at5 kd1
                      obtain ⟨z0, z1, z2, z3, z4⟩ := at5 kd2
                      obtain ⟨i1, A1, n1, k1, l1⟩ := p1
                      obtain ⟨i2, A2, n2, k2, l2⟩ := p2
                      have hii : (i1, l1) = (i2, l2) := habs1.trans habs2.symm
                      injection hii with e1 e2
                      subst e1
                      subst e2
                      go_wp2_with fail
                      refine (samepdu_any s.sn s.ne (smd (sst s).em s.q.length) i1 A1 A2 n1 n2 k1 k2 l1 _ hpy1.1 hpy2.1 hpy1.2.1).mono ?_
                      rintro e w7 ⟨rfl, hb7⟩
                      go_wp2
                      go_meet
                      case rel => exact ⟨sst s, Q1, ma, c1, q1, Qb, mb, cb, qb, (hok.sst).mono (by omega), hbo6.below hb7, B6.trans (hb7.mono B6.size)⟩
                · have hb0 : (x.d == 0) = false := by rw [hd]; rfl
                  have hb1 : (x.d == 1) = false := by rw [hd]; rfl
                  have hb2 : (x.d == 2) = true := by rw [hd]; rfl
                  clear hd
                  go_upto_region 25 with (fail)
                  go_cut [11, 12, 13, 14] (fun s11 s12 s13 s14 wx => s13 = .bool (tstF s x.sn x.ne x.md x.p.abs) ∧ s14 = .bool (tstA s x.sn x.ne x.md x.p.abs) ∧ Below w2.heap.size w2 wx ∧ ∃ g11 g12 Q1 m1 c1 q1, ∃ g : Pk, s11 = .pointer (some ⟨g11, 0, none⟩) ∧ s12 = .pointer (some ⟨g12, 0, none⟩) ∧ w2.heap.size ≤ g11 ∧ w2.heap.size ≤ g12 ∧ Side wx g11 (tst s x.sn x.ne x.md x.p.abs) Q1 m1 c1 ∧ Has wx Q1 m1 c1 q1 (tst s x.sn x.ne x.md x.p.abs).q ∧ RowOff ga Q1 m1 ∧ RowOff gb Q1 m1 ∧ Blk wx g12 30 #[.int .i64 g.id, .slice g.A g.n g.c] ∧ Pay wx g ∧ g.abs = tkG (tstF s x.sn x.ne x.md x.p.abs) x.p.id x.p.l)
                  case first =>
                    obtain ⟨r0, r1, r2, r3, r4, r5, r6⟩ := at7 (show Blk _ _ _ _ from hbo.a)
                    obtain ⟨s0, s1, s2, s3, s4⟩ := at5 kq
                    go_wp2_with fail
                    refine (takeS s Qa ma ca qa _ x.sn x.ne x.md ⟨x.p.id, A', x.p.n, c', x.p.l⟩ hk100 hbo.ha hok hpq).mono ?_
                    rintro e v1 ⟨Q1, m1, c1, q1', g, rfl, hF1, hO1, hg1, hb1'⟩
                    go_wp2_with fail
                    go_meet
                    case rel => exact ⟨rfl, rfl, bal (bal hb1' _) _, v1.heap.size, v1.heap.size + 1, Q1, m1, c1, q1', g, rfl, rfl, hb1'.size, Nat.le_succ_of_le hb1'.size, (Blk.new _ _ _).alloc _, ((hF1.alloc _).alloc _).has, hF1.off hbo.a.lt, hF1.off hbo.b.lt, blk_new2 (by simp), (hO1.1.alloc _).alloc _, hg1⟩
                  case rest =>
                    obtain ⟨rfl, rfl, B4, g11, g12, Q1, m1, c1, q1, g, rfl, rfl, hg11, hg12, k11, hA1, o1, o2, k12, hp1, habs1⟩ := hcut
                    have hbo4 := hbo.below B4
                    have hpx4 := hpx.below B4
                    have BX := BW.trans (B4.mono BW.size)
                    have G1 := (B4.cell (p := ⟨b, o + k * 6 + 1, none⟩) hbs).trans F1
                    have G2 := (B4.cell (p := ⟨b, o + k * 6 + 2, none⟩) hbs).trans F2
                    have G3 := (B4.cell (p := ⟨b, o + k * 6 + 3, none⟩) hbs).trans F3
                    have G4 := (B4.cell (p := ⟨b, o + k * 6 + 4, none⟩) hbs).trans F4
                    have G5 := (B4.cell (p := ⟨b, o + k * 6 + 5, none⟩) hbs).trans F5
                    have hbs4 := Nat.lt_of_lt_of_le hbs B4.size
                    have q1a : ga ≠ g11 := by have := hbo.a.lt; omega
                    have q1b : gb ≠ g11 := by have := hbo.b.lt; omega
                    have q2a : ga ≠ g12 := by have := hbo.a.lt; omega
                    have q2b : gb ≠ g12 := by have := hbo.b.lt; omega
                    obtain ⟨w3, rfl⟩ : ∃ y, y = wc := ⟨_, rfl⟩
                    clear F0 F1 F2 F3 F4 F5 hpx hpq kq hbs
                    have D0 := Below.refl w3.heap.size w3
                    go_upto_region 26 with (fail)
                    go_cut [15, 16, 17, 18] (fun s15 s16 s17 s18 wx => s17 = .bool (tstF s x.sn x.ne x.md x.p.abs) ∧ s18 = .bool (tstA s x.sn x.ne x.md x.p.abs) ∧ Below w3.heap.size w3 wx ∧ ∃ g15 g16 Q2 m2 c2 q2, ∃ g2 : Pk, s15 = .pointer (some ⟨g15, 0, none⟩) ∧ s16 = .pointer (some ⟨g16, 0, none⟩) ∧ w3.heap.size ≤ g15 ∧ w3.heap.size ≤ g16 ∧ Side wx g15 (tst s x.sn x.ne x.md x.p.abs) Q2 m2 c2 ∧ Has wx Q2 m2 c2 q2 (tst s x.sn x.ne x.md x.p.abs).q ∧ RowOff ga Q2 m2 ∧ RowOff gb Q2 m2 ∧ Blk wx g16 30 #[.int .i64 g2.id, .slice g2.A g2.n g2.c] ∧ Pay wx g2 ∧ g2.abs = tkG (tstF s x.sn x.ne x.md x.p.abs) x.p.id x.p.l)
                    case first =>
                      exact pl_r26 _ _ _ _ _ _ _ _ _ _ _ _ _ _ _ _ _ _ _ _ _ _ _ _ _ _ _ _ _ _ _ _ _ _ _ _ _ _ _ _ _ _ _ _ _ _ _ _ _ _ _ _ _ _ _ _ _ _ _ _ _ _ _ _ _ _ _ _ _ _ _ _ _ _ _ _ _ _ _ _ _ _ _ _ _ _ _ _ _ _ _ _ _ _ _ _ _ _ _ _ _ _ _ _ _ _ _ _ _ _ _ _ _ _ _ _ _ _ _ _ _ _ _ _ _ _ _ _ w _ _ _ _ _ _ _ _ _ _ _ _ _ _ _ _ _ _ _ _ hbo4 hok hk100 hlt hbs4 G1 G2 G3 G4 G5 hpx4 q1a q1b q2a q2b ‹_› ‹_›
                    case rest =>
                      obtain ⟨rfl, rfl, B5, g15, g16, Q2, m2, c2, q2, g2, rfl, rfl, hg15, hg16, k15, hB2, o3, o4, k16, hp2, habs2⟩ := hcut
                      have hbo5 := hbo4.below B5
                      have k11 := k11.below B5
                      have k12 := k12.below B5 k12.lt
                      have hA1 := hA1.below B5
                      have hp1 := hp1.below B5
                      have BY := BX.trans (B5.mono BX.size)
                      have q3a : ga ≠ g15 := by have := hbo4.a.lt; omega
                      have q3b : gb ≠ g15 := by have := hbo4.b.lt; omega
                      have q4a : ga ≠ g16 := by have := hbo4.a.lt; omega
                      have q4b : gb ≠ g16 := by have := hbo4.b.lt; omega
                      obtain ⟨w5, rfl⟩ : ∃ y, y = wc := ⟨_, rfl⟩
                      clear G1 G2 G3 G4 G5 hpx4 hbs4 D0 hbo hbo4
                      go_upto_region 27 with (fail)
                      go_cut [] (fun wx => Below w.heap.size w wx ∧ Both wx ga gb (tst s x.sn x.ne x.md x.p.abs) Q1 m1 c1 q1 Q2 m2 c2 q2 ∧ Blk wx g12 30 #[.int .i64 g.id, .slice g.A g.n g.c] ∧ Pay wx g ∧ Blk wx g16 30 #[.int .i64 g2.id, .slice g2.A g2.n g2.c] ∧ Pay wx g2)
                      case first =>
                        exact pl_r27 _ _ _ _ _ _ _ _ _ _ _ _ _ _ _ _ _ _ _ _ _ _ _ _ _ _ _ _ _ _ _ _ _ _ _ _ _ _ _ _ _ _ _ _ _ _ _ _ _ _ _ _ _ _ _ _ _ _ _ _ _ _ _ _ _ _ _ _ _ _ _ _ _ _ _ _ _ _ _ _ _ _ _ _ _ _ _ _ _ _ _ _ _ _ _ _ _ _ _ _ _ _ _ _ _ _ _ _ _ _ _ _ _ _ _ _ _ _ _ _ _ _ _ _ _ _ w _ _ _ _ _ _ _ _ _ _ _ _ _ _ _ _ _ _ _ _ _ _ _ _ _ _ _ _ _ _ _ _ BY hbo5 hne hga hgb k11 k15 hA1 hB2 o1 o2 o3 o4 k12 hp1 k16 hp2 q1a q1b q2a q2b q3a q3b q4a q4b ‹_› ‹_›
                      case rest =>
                        obtain ⟨B6, hbo6, k12, hp1, k16, hp2⟩ := hcut
                        obtain ⟨y0, y1⟩ := at2 k12
                        obtain ⟨z0, z1⟩ := at2 k16
                        obtain ⟨i1, A1, n1, k1, l1⟩ := g
                        obtain ⟨i2, A2, n2, k2, l2⟩ := g2
                        have hii : (i1, l1) = (i2, l2) := habs1.trans habs2.symm
                        injection hii with e1 e2
                        subst e1
                        subst e2
                        clear habs1 habs2
                        go_wp2_with fail
                        refine (samepk_any i1 A1 A2 n1 n2 k1 k2 l1 _ hp1.1 hp2.1 hp1.2.1).mono ?_
                        rintro e w7 ⟨rfl, hb7⟩
                        go_wp2
                        go_meet
                        case rel => exact ⟨tst s x.sn x.ne x.md x.p.abs, Q1, m1, c1, q1, Q2, m2, c2, q2, hok.tst _ _ _ _, hbo6.below hb7, B6.trans (hb7.mono B6.size)⟩
                · have hb0 : (x.d == 0) = false := by rw [beq_eq_false_iff_ne]; exact hd0
                  have hb1 : (x.d == 1) = false := by rw [beq_eq_false_iff_ne]; exact hd1
                  have hb2 : (x.d == 2) = false := by rw [beq_eq_false_iff_ne]; exact hd2
                  clear hd0 hd1 hd2
                  go_wp2
                  go_meet
                  case rel => exact ⟨s, Qa, ma, ca, qa, Qb, mb, cb, qb, hok.mono (by omega), hbo, BW⟩
              case rest =>
                obtain ⟨s', Qa', ma', ca', qa', Qb', mb', cb', qb', hok', hbo', hbe'⟩ := hcut
                go_upto_region 30 with (fail)
                go_cut [133] (fun t wx => t = .bool false ∧ Below wc.heap.size wc wx)
                case first =>
                  have D0 := Below.refl wc.heap.size wc
                  have hla := hok'.len
                  have hma := hbo'.ha.len
                  have hmb := hbo'.hb.len
                  obtain rfl : ma' = mb' := by omega
                  have S_ : ∀ {u : World}, Below wc.heap.size wc u → u.cell? ⟨ga, 0, none⟩ = some (.int .i64 s'.sn) ∧ u.cell? ⟨ga, 1, none⟩ = some (.int .i64 s'.ne) ∧ u.cell? ⟨ga, 2, none⟩ = some (.slice Qa' ma' ca') ∧ u.cell? ⟨ga, 3, none⟩ = some (.bool s'.op) ∧ u.cell? ⟨ga, 4, none⟩ = some (.bool s'.em) ∧ u.cell? ⟨ga, 5, none⟩ = some (.int .i64 s'.ack) ∧ u.cell? ⟨ga, 6, none⟩ = some (.int .i64 s'.tak) ∧ u.cell? ⟨gb, 0, none⟩ = some (.int .i64 s'.sn) ∧ u.cell? ⟨gb, 1, none⟩ = some (.int .i64 s'.ne) ∧ u.cell? ⟨gb, 2, none⟩ = some (.slice Qb' ma' cb') ∧ u.cell? ⟨gb, 3, none⟩ = some (.bool s'.op) ∧ u.cell? ⟨gb, 4, none⟩ = some (.bool s'.em) ∧ u.cell? ⟨gb, 5, none⟩ = some (.int .i64 s'.ack) ∧ u.cell? ⟨gb, 6, none⟩ = some (.int .i64 s'.tak) := fun h => ⟨((show Blk _ _ _ _ from hbo'.a.below h).cell 0), ((show Blk _ _ _ _ from hbo'.a.below h).cell 1), ((show Blk _ _ _ _ from hbo'.a.below h).cell 2), ((show Blk _ _ _ _ from hbo'.a.below h).cell 3), ((show Blk _ _ _ _ from hbo'.a.below h).cell 4), ((show Blk _ _ _ _ from hbo'.a.below h).cell 5), ((show Blk _ _ _ _ from hbo'.a.below h).cell 6), ((show Blk _ _ _ _ from hbo'.b.below h).cell 0), ((show Blk _ _ _ _ from hbo'.b.below h).cell 1), ((show Blk _ _ _ _ from hbo'.b.below h).cell 2), ((show Blk _ _ _ _ from hbo'.b.below h).cell 3), ((show Blk _ _ _ _ from hbo'.b.below h).cell 4), ((show Blk _ _ _ _ from hbo'.b.below h).cell 5), ((show Blk _ _ _ _ from hbo'.b.below h).cell 6)⟩
                  have HI := hide hma
                  clear hma hmb
                  go_region_held3 (fun w' => w'.cell? ⟨ga, 0, none⟩ = some (.int .i64 s'.sn) ∧ w'.cell? ⟨ga, 1, none⟩ = some (.int .i64 s'.ne) ∧ w'.cell? ⟨ga, 2, none⟩ = some (.slice Qa' ma' ca') ∧ w'.cell? ⟨ga, 3, none⟩ = some (.bool s'.op) ∧ w'.cell? ⟨ga, 4, none⟩ = some (.bool s'.em) ∧ w'.cell? ⟨ga, 5, none⟩ = some (.int .i64 s'.ack) ∧ w'.cell? ⟨ga, 6, none⟩ = some (.int .i64 s'.tak) ∧ w'.cell? ⟨gb, 0, none⟩ = some (.int .i64 s'.sn) ∧ w'.cell? ⟨gb, 1, none⟩ = some (.int .i64 s'.ne) ∧ w'.cell? ⟨gb, 2, none⟩ = some (.slice Qb' ma' cb') ∧ w'.cell? ⟨gb, 3, none⟩ = some (.bool s'.op) ∧ w'.cell? ⟨gb, 4, none⟩ = some (.bool s'.em) ∧ w'.cell? ⟨gb, 5, none⟩ = some (.int .i64 s'.ack) ∧ w'.cell? ⟨gb, 6, none⟩ = some (.int .i64 s'.tak)) (((with_reducible refine S_ ?_); (repeat' (first | (with_reducible exact D3) | (with_reducible exact D2) | (with_reducible exact D1) | (with_reducible exact Below.refl _ _) | (with_reducible refine bal ?_ _) | (with_reducible refine Below.drew ?_))))) (first
                    | (go_at_call 19; refine (sameS s' Qa' ma' ca' qa' _ (qs2 := qb') ?_ ?_ hla).mono ?_; exact hbo'.ha.below D0.drew; exact hbo'.hb.below D0.drew; rintro e v1 ⟨rfl, hb1⟩; have D1 : Below wc.heap.size wc v1 := bseq D0.drew hb1)
                    | (go_at_call 20; refine (idle_any s'.sn s'.ne s'.ack s'.tak s'.op s'.em Qa' ma' ca' _).mono ?_; rintro e v2 ⟨rfl, hb2⟩; have D2 : Below wc.heap.size wc v2 := (by first | (with_reducible exact bseq D1 hb2) | (with_reducible exact bseq D3 hb2)))
                    | (go_at_call 21; refine (ridle_any s'.sn s'.ne s'.ack s'.tak s'.op s'.em Qb' ma' cb' _).mono ?_; rintro e v3 ⟨rfl, hb3⟩; have D3 : Below wc.heap.size wc v3 := (by first | (with_reducible exact bseq D2 hb3) | (with_reducible exact bseq D1 hb3))))
                  all_goals
                    go_wp2_with fail
                    go_meet
                    case rel => first
                      | (have z := D3; exact ⟨by simp, D3⟩)
                      | exact ⟨by simp, D2⟩
                case rest =>
                  obtain ⟨rfl, B9⟩ := hcut
                  go_wp2
                  go_roundg (n - (k + 1))
                  case measure => omega
                  case rel => exact ⟨k + 1, rfl, by omega, by go_num, s', Qa', ma', ca', qa', Qb', mb', cb', qb', hok', hbo'.below B9, hbe'.trans (B9.mono hbe'.size)⟩
        · obtain rfl : k = n := by omega
          go_wp2
          go_ret
          exact ⟨rfl, hbe⟩
end Go.Proofs.Ytobljnbpokijdaa
