/-
  The walk of the law ArqRepeats.
-/
import Derived.Test.YtobljnbpokijdaaAys
import Derived.Test.YtobljnbpokijdaaAqt
import Derived.Deep.LoopGhost
import Derived.Deep.CutBlock

namespace Go.Proofs.Ytobljnbpokijdaa
set_option linter.unusedVariables false
set_option linter.unusedSimpArgs false
open Go.RowKit

/-- A side that was only queued on since it sent. -/
structure Since (s1 s : St) : Prop where
  sn : s.sn = s1.sn
  ne : s.ne = s1.ne
  op : s.op = true
  em : s.em = s1.em
  ex : ∃ x, s.q = s1.q ++ x
theorem Since.qst {s1 s : St} (h : Since s1 s) (p : Pkt) : Since s1 (qst s p) := by
  refine ⟨h.sn, h.ne, h.op, h.em, ?_⟩
  obtain ⟨x, hx⟩ := h.ex
  unfold Proofs.Ytobljnbpokijdaa.qst qadd
  split
  · exact ⟨x ++ [p], by simp [hx]⟩
  · exact ⟨x, hx⟩
theorem Since.spk {s1 s : St} (h : Since s1 s) (h1 : s1.em = false → s1.q ≠ []) : spk (sst s).em s.q = spk s1.em s1.q := by
  obtain ⟨x, hx⟩ := h.ex
  have : (sst s).em = s1.em := by unfold sst sem; simp [h.op, h.em]
  rw [this]
  unfold Proofs.Ytobljnbpokijdaa.spk
  cases he : s1.em with
  | true => rfl
  | false =>
    obtain ⟨y, l, hy⟩ : ∃ y l, s1.q = y :: l := by
      cases hq : s1.q with
      | nil => exact absurd hq (h1 he)
      | cons y l => exact ⟨y, l, rfl⟩
    rw [hx, hy]
    rfl
theorem Since.smd {s1 s : St} (h : Since s1 s) : smd s1.em s1.q.length ≤ smd (sst s).em s.q.length := by
  obtain ⟨x, hx⟩ := h.ex
  have : (sst s).em = s1.em := by unfold sst sem; simp [h.op, h.em]
  rw [this]
  have hl : s1.q.length ≤ s.q.length := by rw [hx]; simp
  unfold Proofs.Ytobljnbpokijdaa.smd
  cases s1.em <;> simp <;> (repeat' split) <;> omega
def RpRel (w : World) (g7 g8 : Nat) (s1 : St) (md : Int) (pk : Pk) (wr : World) : Prop := ∃ s Q m c qs, Since s1 s ∧ Ok 100000 s ∧ Side wr g7 s Q m c ∧ Has wr Q m c qs s.q ∧
  Blk wr g8 32 #[.int .i64 s1.sn, .int .i64 s1.ne, .int .i64 md, .int .i64 pk.id, .slice pk.A pk.n pk.c] ∧ Pay wr pk ∧ Below w.heap.size w wr

set_option maxRecDepth 100000 in
set_option maxHeartbeats 20000000 in
theorem arqRepeats_walk (A : Option Addr) (n c : Nat) (ss : List Stp) (A2 : Option Addr) (n2 c2 : Nat) (ps : List Pk) (w : World) (h0 : SRd w A n ss ∧ n ≤ c ∧ c ≤ maxLen) (h1 : PRd w A2 n2 ps ∧ n2 ≤ c2 ∧ c2 ≤ maxLen) :
    Calls Try.prog 5 #[.slice A n c, .slice A2 n2 c2] w fun e w' => e = .returned (.bool true) ∧ Below w.heap.size w w' := by
  obtain ⟨hA, hnc, hm⟩ := h0
  obtain ⟨hP, hnc2, hm2⟩ := h1
  by_cases hbig : 100 < n
  · have hbig' : (100 : Int) < (n : Int) := by omega
    go_enter Try.func5, Try.ntmps5
    go_wp2_with fail
    refine (lives_any _).mono ?_
    rintro e w1 ⟨rfl, hb1⟩
    go_wp2
    go_ret
    exact ⟨rfl, hb1⟩
  by_cases hbig2 : 100 < n2
  · have hbig' : (n : Int) ≤ (100 : Int) := by omega
    have hbig2' : (100 : Int) < (n2 : Int) := by omega
    go_enter Try.func5, Try.ntmps5
    go_wp2_with fail
    refine (lives_any _).mono ?_
    rintro e w1 ⟨rfl, hb1⟩
    go_wp2
    go_ret
    exact ⟨rfl, hb1⟩
  have hbig' : (n : Int) ≤ (100 : Int) := by omega
  have hbig2' : (n2 : Int) ≤ (100 : Int) := by omega
  go_enter Try.func5, Try.ntmps5
  go_upto_region 5 with (go_at_call 7; refine (lives_any _).mono ?_; rintro e w1 ⟨rfl, hb1⟩)
  go_cut [5] (fun s5 wx => ∃ g3 : Nat, s5 = .pointer (some ⟨g3, 0, none⟩) ∧ OnRel w.heap.size w g3 E0 wx)
  case first =>
    go_wp2_with fail
    refine (new_any _).mono ?_
    rintro e w2 ⟨rfl, hb2⟩
    go_wp2_with fail
    refine (new_any _).mono ?_
    rintro e w3 ⟨rfl, hb3⟩
    go_wp2_with fail
    have B3 := bseq (bseq hb1 hb2) hb3
    go_meet
    case rel => exact ⟨w3.heap.size, rfl, M0, Emem.start _ _ _, Blk.new _ _ _, B3.size, bal B3 _⟩
  case rest =>
    obtain ⟨g3, rfl, hR⟩ := hcut
    go_wp2_with fail
    go_loopg [6] n (fun g i wr => ∃ k : Nat, g = n - k ∧ k ≤ n ∧ i = .int .i64 k ∧ ∃ E, Inv E ∧ OkE k E ∧ OnRel w.heap.size w g3 E wr)
    case atStart => exact ⟨0, rfl, Nat.zero_le _, rfl, E0, Inv.start, OkE.start, hR⟩
    case round =>
      obtain ⟨k, rfl, hk, rfl, E, hI, hOk, hR⟩ := hrel
      by_cases hlt : k < n
      · obtain ⟨b, o, x, rfl, hbw, HX, c0, c1, c2', c3, hp⟩ := hA.at_ hlt
        have hkn : (k : Int) < (n : Int) := by omega
        go_upto_region 9 with (fail)
        refine wp_mono (rp_r9 _ _ _ _ _ _ _ _ _ _ _ _ _ _ _ _ _ _ _ _ _ _ _ _ _ _ _ _ _ _ _ _ _ _ _ _ _ _ _ _ _ _ _ _ _ _ _ _ _ _ _ _ _ _ _ _ _ _ _ _ _ _ _ _ _ _ _ _ _ _ _ _ _ _ _ _ _ _ _ _ _ _ _ _ _ _ _ _ _ _ _ _ _ _ _ _ _ _ _ _ hR hOk hlt (by omega) hbw rfl c0 c1 c2' c3 hp (Q0 := fun _ _ _ => False) (fun _ _ h => h) (fun _ _ h => h) (fun _ _ _ _ _ h => h)) ?_
        intro e a' wc hq
        cases e with
        | normal =>
          obtain ⟨u26, u27, u28, u29, u30, u31, u32, u33, u34, u35, u36, u37, hcut, rfl⟩ := hq
          have HR := hide hcut
          clear hcut c0 c1 c2' c3 hR
          go_wp2
          go_roundg (n - (k + 1))
          case measure => omega
          case rel => exact ⟨k + 1, rfl, by omega, by go_num, _, hI.mv x.d x.lost x.p.abs, hOk.mv x.d x.lost x.p.abs, HR.out⟩
        | _ => exact hq.elim
      · obtain rfl : k = n := by omega
        obtain ⟨M, hE, kx, hg3, hbe⟩ := hR
        have hQf := hE.has 0 (by decide)
        obtain ⟨⟨k0, hD0⟩, _⟩ := hI
        have hem := hD0.send.em rfl
        have ol0 := hOk.s0.len
        have hok1 : Ok 100000 (sst (E.s 0)) := hOk.s0.sst.mono (by omega)
        clear hD0 hE hOk
        obtain ⟨w1, hw1⟩ : ∃ y, y = wr := ⟨_, rfl⟩
        have e0 : wr.cell? ⟨g3, 0, none⟩ = some (.int .i64 (E.s 0).sn) := kx.cell 0
        have e1 : wr.cell? ⟨g3, 1, none⟩ = some (.int .i64 (E.s 0).ne) := kx.cell 1
        have e2 : wr.cell? ⟨g3, 2, none⟩ = some (.slice (M.q 0).Q (M.q 0).m (M.q 0).c) := kx.cell 2
        have e3 : wr.cell? ⟨g3, 3, none⟩ = some (.bool (E.s 0).op) := kx.cell 3
        have e4 : wr.cell? ⟨g3, 4, none⟩ = some (.bool (E.s 0).em) := kx.cell 4
        have e5 : wr.cell? ⟨g3, 5, none⟩ = some (.int .i64 (E.s 0).ack) := kx.cell 5
        have e6 : wr.cell? ⟨g3, 6, none⟩ = some (.int .i64 (E.s 0).tak) := kx.cell 6
        clear kx hw1 w1
        go_upto_region 10 with (fail)
        go_cut [7, 8] (fun s7 s8 wx => ∃ (g7 g8 : Nat) (pk : Pk), s7 = .pointer (some ⟨g7, 0, none⟩) ∧ s8 = .pointer (some ⟨g8, 0, none⟩) ∧ w.heap.size ≤ g7 ∧ w.heap.size ≤ g8 ∧ g8 ≠ g7 ∧ pk.abs = spk (sst (E.s 0)).em (sst (E.s 0)).q ∧ RpRel w g7 g8 (sst (E.s 0)) (smd (sst (E.s 0)).em (sst (E.s 0)).q.length) pk wx)
        case first =>
          go_wp2_with fail
          refine (sendS (E.s 0) (M.q 0).Q (M.q 0).m (M.q 0).c (M.q 0).qs _ hQf ol0).mono ?_
          rintro e v1 ⟨Q1, c1, q1', p1, rfl, hF1, hO1, hp1, hb1'⟩
          have HP := hide hp1
          have hbv := bseq hbe hb1'
          clear hp1 e0 e1 e2 e3 e4 e5 e6
          go_wp2_with fail
          go_meet
          case rel => exact ⟨_, _, p1, rfl, rfl, hbv.size, Nat.le_succ_of_le hbv.size, by simp, HP.out, _, Q1, _, c1, q1', ⟨rfl, rfl, rfl, rfl, [], by simp⟩, hok1, (Blk.new _ _ _).alloc _, ((hF1.alloc _).alloc _).has, blk_new2 (by simp), (hO1.1.alloc _).alloc _, bal (bal hbv _) _⟩
        case rest =>
          obtain ⟨g7, g8, pk, rfl, rfl, hg7, hg8, hne, hab, hR⟩ := hcut
          have HAB := hide hab
          obtain ⟨s1, hs1⟩ : ∃ s1, s1 = sst (E.s 0) := ⟨_, rfl⟩
          rw [← hs1] at hab hR hem
          have HAB := hide hab
          clear hab hs1 hQf hbe e0 e1 e2 e3 e4 e5 e6 hok1 ol0 hA
          generalize hmd : smd s1.em s1.q.length = md at hR
          have HMD := hide hmd
          clear hmd
          go_wp2_with fail
          go_loopg [9] n2 (fun g i wr => ∃ j : Nat, g = n2 - j ∧ j ≤ n2 ∧ i = .int .i64 j ∧ RpRel w g7 g8 s1 md pk wr)
          case atStart => exact ⟨0, rfl, Nat.zero_le _, rfl, hR⟩
          case round =>
            obtain ⟨j, rfl, hj, rfl, s, Q, m, cc, qs, hS, hok, h7, hH, h8, hpk, hbe⟩ := hrel
            by_cases hlt2 : j < n2
            · obtain ⟨b, o, p, rfl, hbw, HX, c0, c1, hp⟩ := hP.at1 hlt2
              have hjn : (j : Int) < (n2 : Int) := by omega
              go_upto_region 14 with (fail)
              refine wp_mono (rp_r14 _ _ _ _ _ _ _ _ _ _ _ _ _ _ _ _ _ _ _ _ _ _ _ _ _ _ _ _ _ _ _ _ _ _ _ _ _ _ _ _ _ _ _ _ _ _ _ _ _ _ _ _ _ _ _ _ _ _ _ _ _ _ _ _ _ _ _ _ _ _ _ _ _ _ _ _ _ _ _ _ _ _ _ _ _ _ _ _ _ _ _ _ _ _ _ _ _ _ _ _ _ _ _ h7 hH hok.len hbe hg7 hbw hlt2 (by omega) c0 c1 hp (Q0 := fun _ _ _ => False) (fun _ _ h => h) (fun _ _ h => h) (fun _ _ _ _ _ h => h)) ?_
              intro e a' wc hq
              cases e with
              | normal =>
                obtain ⟨u45, u46, u47, u48, u49, u50, u51, u52, u53, u54, u55, u56, u57, u58, u59, u60, hcut, rfl⟩ := hq
                obtain ⟨K, hbe2, Q', m', c', qs', h7', hH'⟩ := hcut
                have h8' := K.blk h8 (by simpa using hne)
                have hpk' : Pay wc pk := pay_keep hpk K.1 fun z hz => K.2 z (pay_lt hpk z hz) (by
                  obtain ⟨hz0, a, ha, rfl⟩ := mem_foot.1 hz
                  have := pay_off h7 hpk hz0 a ha
                  simpa using this)
                have HR := hide (show RpRel w g7 g8 s1 md pk wc from ⟨_, Q', m', c', qs', hS.qst p.abs, hok.qst p.abs, h7', hH', h8', hpk', hbe2⟩)
                clear K hbe2 h7' hH' h8' hpk' c0 c1 h7 hH h8 hpk hbe
                go_wp2
                go_roundg (n2 - (j + 1))
                case measure => omega
                case rel => exact ⟨j + 1, rfl, by omega, by go_num, HR.out⟩
              | _ => exact hq.elim
            · obtain rfl : j = n2 := by omega
              have hspk := hS.spk hem
              have hsmd := hS.smd
              rw [HMD.out] at hsmd
              have hsn := hS.sn
              have hsne := hS.ne
              have HSP := hide hspk
              have HSN := hide (And.intro hsn hsne)
              have hl := hok.len
              obtain ⟨r0, r1, r2, r3, r4, r5, r6⟩ := at7 h7.blk
              clear hspk hsn hsne hS hok HMD
              go_upto_region 15 with (fail)
              go_cut [11] (fun s11 wx => ∃ (g11 : Nat) (p2 : Pk), s11 = .pointer (some ⟨g11, 0, none⟩) ∧ Below wr.heap.size wr wx ∧ Blk wx g11 32 #[.int .i64 s.sn, .int .i64 s.ne, .int .i64 (smd (sst s).em s.q.length), .int .i64 p2.id, .slice p2.A p2.n p2.c] ∧ Pay wx p2 ∧ p2.abs = spk (sst s).em s.q)
              case first =>
                go_wp2_with fail
                refine (sendS s Q m cc qs _ hH hl).mono ?_
                rintro e v1 ⟨Q1, c1, q1', p1, rfl, hF1, hO1, hp1, hb1'⟩
                have HP := hide hp1
                clear hp1
                go_wp2_with fail
                go_meet
                case rel => exact ⟨_, p1, rfl, bal (bal hb1' _) _, blk_new2 (by simp), (hO1.1.alloc _).alloc _, HP.out⟩
              case rest =>
                obtain ⟨g11, p2, rfl, B2, k11, hp2, hab2⟩ := hcut
                have HAB2 := hide hab2
                clear r0 r1 r2 r3 r4 r5 r6 hab2
                have k8 := h8.below B2 h8.lt
                have hpk8 := hpk.below B2
                have hbe2 := bseq hbe B2
                rw [HSN.out.1, HSN.out.2] at k11
                generalize smd (sst s).em s.q.length = md2 at hsmd k11
                obtain ⟨y0, y1, y2, y3, y4⟩ := at5 k8
                obtain ⟨z0, z1, z2, z3, z4⟩ := at5 k11
                obtain ⟨i1, A1, m1, k1, l1⟩ := pk
                obtain ⟨i2, A3, m2, k2, l2⟩ := p2
                have hii : (i1, l1) = (i2, l2) := HAB.out.trans (HSP.out.symm.trans HAB2.out.symm)
                injection hii with q1 q2
                subst q1
                subst q2
                clear h7 hH h8 hpk hbe
                go_wp2_with fail
                refine (samepk_any i1 A1 A3 m1 m2 k1 k2 l1 _ hpk8.1 hp2.1 hpk8.2.1).mono ?_
                rintro e w7 ⟨rfl, hb7⟩
                obtain ⟨x0, x1, x2, x3, x4⟩ := at5 (k8.below hb7 k8.lt)
                obtain ⟨v0, v1, v2, v3, v4⟩ := at5 (k11.below hb7 k11.lt)
                clear y0 y1 y2 y3 y4 z0 z1 z2 z3 z4
                have hBB := bseq hbe2 hb7
                clear k8 k11
                go_wp2
                go_ret
                exact ⟨by simp [hsmd], hBB⟩
end Go.Proofs.Ytobljnbpokijdaa
