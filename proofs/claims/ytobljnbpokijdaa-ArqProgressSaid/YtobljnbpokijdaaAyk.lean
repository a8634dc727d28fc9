/-
  The walk of moved. Its contract.
-/
import Derived.Test.YtobljnbpokijdaaAyi
import Derived.Test.YtobljnbpokijdaaAyc
import Derived.Test.YtobljnbpokijdaaAyd
import Derived.Test.YtobljnbpokijdaaAye
import Derived.Test.YtobljnbpokijdaaAyf
import Derived.Test.YtobljnbpokijdaaAyg
import Derived.Test.YtobljnbpokijdaaAyh
import Derived.BigQuiet
import Derived.Deep.QuietTactic
import Derived.Laws.Tables
import Derived.Laws.CopyOwn
namespace Go.Proofs.Ytobljnbpokijdaa
set_option linter.unusedVariables false
set_option linter.unusedSimpArgs false
open Go.RowKit

set_option maxRecDepth 100000 in
set_option maxHeartbeats 100000000 in
theorem moved_2 (Z : List Nat) (E : En) (M : Mm) (lost : Bool) (p : Pk) (base k : Nat) (w : World) (hbase : base ≤ w.heap.size) (hE : Emem base Z w E M) (hzr : ∀ z ∈ Z, base ≤ z ∧ z < w.heap.size) (hp : Pay w p) (hps : ∀ b ∈ foot p.A p.n, b < base) (hk : k ≤ 100000) (hok0 : Ok k (E.s 0)) (hok1 : Ok k (E.s 1)) (hn : ∀ i, i < 4 → (M.r i).n ≤ 100000) :
    Calls Try.prog 22 #[.agg (enCells E M), .agg (stCells ⟨2, lost, p⟩)] w (MvPost Z base (mvS E 0 1 lost) w) := by
  have ol0 := hok0.len
  have ol1 := hok1.len
  simp only [enCells, stCells]
  go_enter Try.func22, Try.ntmps22
  go_upto_region 0 with (fail)
  go_cut [2, 3, 4] (fun s2 s3 s4 wx => s2 = .pointer (some ⟨w.heap.size, 0, none⟩) ∧ s3 = .pointer (some ⟨w.heap.size + 1, 0, none⟩) ∧ s4 = .pointer (some ⟨w.heap.size + 2, 0, none⟩) ∧ Bx Z w base ⟨2, lost, p⟩ E M wx)
  case first =>
    have B0 : Below w.heap.size w w := Below.refl _ _
    have hE1 := (hE.more (Z' := Zs Z w) (fun z hz => by simp only [Zs, List.mem_cons] at hz; rcases hz with hz | hz | hz | hz; (right; omega); (right; omega); (right; omega); (left; exact hz)))
    have HB := fun (a b c : Obj) => bal (bal (bal B0 a) b) c
    have HE := hide hE1
    clear hE hE1
    go_wp2
    go_meet
    case rel => exact ⟨rfl, rfl, rfl, ((Blk.new _ _ _).alloc _).alloc _, (blk_new2 (by simp)).alloc _, blk_new2 (by simp), HE.out.keep (.of_below (HB _ _ _)), (HB _ _ _).mono hbase, hp.below (HB _ _ _), hps, hzr, fun z hz => (HB _ _ _).block z (hzr z hz).2⟩
  case rest =>
    obtain ⟨rfl, rfl, rfl, hB⟩ := hcut
    clear hE hp
    obtain ⟨w1, rfl⟩ : ∃ y, y = wc := ⟨_, rfl⟩
    obtain ⟨t0, t1, t2, t3⟩ := hB.ct
    go_upto_if 62 with (fail)
    clear t0 t1 t2 t3
    go_cut [] (fun wx => ∃ M', Bx Z w base ⟨2, lost, p⟩ (mvS E 0 1 lost) M' wx)
    case first =>
      go_upto_region 7 with (fail)
      go_cut [7, 8] (fun s7 s8 wx => s7 = .int .i64 0 ∧ s8 = .int .i64 1 ∧ Bx Z w base ⟨2, lost, p⟩ E M wx)
      case first =>
        have hBd := fun n => hB.below hbase (show Below w1.heap.size w1 (w1.drewN n) from ⟨rfl, rfl, rfl, Nat.le_refl _, fun _ _ => rfl⟩)
        obtain ⟨t0, t1, t2, t3⟩ := hB.ct
        have HBD := hide hBd
        clear hBd hB t1 t2 t3
        go_quiet (fail)
        all_goals
          go_wp2
          go_meet
          case rel => exact ⟨rfl, rfl, HBD.out _⟩
      case rest =>
        obtain ⟨rfl, rfl, hB⟩ := hcut
        obtain ⟨w2, rfl⟩ : ∃ y, y = wc := ⟨_, rfl⟩
        have hQf := hB.mem.has 0 (by decide)
        go_upto_region 8 with (fail)
        go_cut [9, 10] (fun s9 s10 wx => ∃ (g9 g10 : Nat) (Q : Option Addr) (c : Nat) (qs : List Pk) (pk : Pk), s9 = .pointer (some ⟨g9, 0, none⟩) ∧ s10 = .pointer (some ⟨g10, 0, none⟩) ∧ Below w2.heap.size w2 wx ∧ w2.heap.size ≤ g9 ∧ w2.heap.size ≤ g10 ∧ Blk wx g9 26 #[.int .i64 (sst (E.s 0)).sn, .int .i64 (sst (E.s 0)).ne, .slice Q (M.q 0).m c, .bool (sst (E.s 0)).op, .bool (sst (E.s 0)).em, .int .i64 (sst (E.s 0)).ack, .int .i64 (sst (E.s 0)).tak] ∧ Has wx Q (M.q 0).m c qs (sst (E.s 0)).q ∧ (∀ b ∈ feetQ Q (M.q 0).m qs, w2.heap.size ≤ b) ∧ Blk wx g10 32 #[.int .i64 (E.s 0).sn, .int .i64 (E.s 0).ne, .int .i64 (smd (sst (E.s 0)).em (E.s 0).q.length), .int .i64 pk.id, .slice pk.A pk.n pk.c] ∧ Pay wx pk ∧ pk.abs = (spk (sst (E.s 0)).em (E.s 0).q) ∧ ∀ b ∈ foot pk.A pk.n, w2.heap.size ≤ b)
        case first =>
          obtain ⟨c0, c1, c2, c3, c4, c5, c6, c7, c8, c9, c10, c11, c12, c13, c14, c15, c16, c17⟩ := hB.c
          obtain ⟨t0, t1, t2, t3⟩ := hB.ct
          clear hB
          go_wp2_with fail
          refine (sendS (E.s 0) (M.q 0).Q (M.q 0).m (M.q 0).c (M.q 0).qs _ hQf ol0).mono ?_
          rintro e v1 ⟨Q1, c1, q1', p1, rfl, hF1, hO1, hp1, hb1'⟩
          have HP := hide hp1
          clear hp1
          go_wp2_with fail
          go_meet
          case rel => exact ⟨_, _, Q1, c1, q1', p1, rfl, rfl, bal (bal hb1' _) _, hb1'.size, Nat.le_succ_of_le hb1'.size, (Blk.new _ _ _).alloc _, ((hF1.alloc _).alloc _).has, fresh_ge hF1, blk_new2 (by simp), (hO1.1.alloc _).alloc _, HP.out, own1_ge hO1⟩
        case rest =>
          obtain ⟨g9, g10, Q, c, qs, pk, rfl, rfl, B2, hg9, hg10, k9, hQ, hge, k10, hpk, hab, hgp⟩ := hcut
          have hof : ∀ b ∈ feetQ Q (M.q 0).m qs, b ∉ Zs Z w ∧ ∀ j, j < 4 → (M.r j).g ≠ some b := fun b hb => hB.off (hge b hb)
          have n9 := (hB.off hg9).1
          have n10 := (hB.off hg10).1
          have hZ10 : w.heap.size ≠ g10 := fun e => n10 (by rw [← e]; simp [Zs])
          have hZp : ∀ b ∈ foot pk.A pk.n, b ∉ Zs Z w := fun b hb => (hB.off (hgp b hb)).1
          have hB := hB.below hbase B2
          obtain ⟨m, hm⟩ : ∃ m, m = (M.q 0).m := ⟨_, rfl⟩
          rw [← hm] at k9 hQ hge hof
          have HM := hide hm
          have HAB := hide hab
          clear hge B2 hgp hQf hm hab
          go_upto_region 9 with (fail)
          go_cut [] (fun wx => Bx Z w base ⟨2, lost, p⟩ ⟨upd E.s 0 (sst (E.s 0)), E.r⟩ ⟨upd M.q 0 ⟨Q, m, c, qs⟩, M.r⟩ wx ∧ Blk wx g10 32 #[.int .i64 (E.s 0).sn, .int .i64 (E.s 0).ne, .int .i64 (smd (sst (E.s 0)).em (E.s 0).q.length), .int .i64 pk.id, .slice pk.A pk.n pk.c] ∧ Pay wx pk)
          case first =>
            have HK := hide (blk_fills_far (g := w.heap.size) [(0, Value.int .i64 (sst (E.s 0)).sn), (1, Value.int .i64 (sst (E.s 0)).ne), (2, Value.slice ((⟨Q, m, c, qs⟩ : Qm)).Q ((⟨Q, m, c, qs⟩ : Qm)).m ((⟨Q, m, c, qs⟩ : Qm)).c), (3, Value.bool (sst (E.s 0)).op), (4, Value.bool (sst (E.s 0)).em), (5, Value.int .i64 (sst (E.s 0)).ack), (6, Value.int .i64 (sst (E.s 0)).tak)] (Ne.symm hZ10) k10)
            have HPK := hide (pay_keep hpk (Keeps.fills (Z := Zs Z w) (z := w.heap.size) [(0, Value.int .i64 (sst (E.s 0)).sn), (1, Value.int .i64 (sst (E.s 0)).ne), (2, Value.slice ((⟨Q, m, c, qs⟩ : Qm)).Q ((⟨Q, m, c, qs⟩ : Qm)).m ((⟨Q, m, c, qs⟩ : Qm)).c), (3, Value.bool (sst (E.s 0)).op), (4, Value.bool (sst (E.s 0)).em), (5, Value.int .i64 (sst (E.s 0)).ack), (6, Value.int .i64 (sst (E.s 0)).tak)] (by simp [Zs]) (Keeps.refl _ _)).1 (fun b hb => (Keeps.fills (Z := Zs Z w) (z := w.heap.size) [(0, Value.int .i64 (sst (E.s 0)).sn), (1, Value.int .i64 (sst (E.s 0)).ne), (2, Value.slice ((⟨Q, m, c, qs⟩ : Qm)).Q ((⟨Q, m, c, qs⟩ : Qm)).m ((⟨Q, m, c, qs⟩ : Qm)).c), (3, Value.bool (sst (E.s 0)).op), (4, Value.bool (sst (E.s 0)).em), (5, Value.int .i64 (sst (E.s 0)).ack), (6, Value.int .i64 (sst (E.s 0)).tak)] (by simp [Zs]) (Keeps.refl _ _)).2 b (pay_lt hpk b hb) (hZp b hb)))
            clear k10 hpk
            obtain ⟨r0, r1, r2, r3, r4, r5, r6⟩ := at7 k9
            obtain ⟨c0, c1, c2, c3, c4, c5, c6, c7, c8, c9, c10, c11, c12, c13, c14, c15, c16, c17⟩ := hB.c
            obtain ⟨t0, t1, t2, t3⟩ := hB.ct
            have f0 := hB.f 0
            have f1 := hB.f 1
            have f2 := hB.f 2
            have f3 := hB.f 3
            have f4 := hB.f 4
            have f5 := hB.f 5
            have f6 := hB.f 6
            have HS := hide (hB.side0 hbase (sst (E.s 0)) ⟨Q, m, c, qs⟩ hQ (fun b hb => (hof b hb).1) (fun b hb => (hof b hb).2))
            clear hB
            go_wp2_with fail
            go_meet
            case rel => exact ⟨HS.out, HK.out, HPK.out⟩
          case rest =>
            obtain ⟨hB, k10, hpk⟩ := hcut
            clear hQ hof k9
            obtain ⟨w4, rfl⟩ : ∃ y, y = wc := ⟨_, rfl⟩
            cases lost with
            | true =>
              obtain ⟨t0, t1, t2, t3⟩ := hB.ct
              have H2 : Hid (∃ M', Bx Z w base ⟨2, true, p⟩ (mvS E 0 1 true) M' w4) := ⟨_, by unfold mvS; rw [if_pos rfl]; exact hB⟩
              clear hB
              go_wp2
              go_meet
              case rel => exact H2.out
            | false =>
              have hB0 := hB
              obtain ⟨t0, t1, t2, t3⟩ := hB.ct
              clear hB
              go_upto_region 11 with (fail)
              clear t0 t1 t2 t3
              have hB := hB0
              clear hB0
              go_cut [11, 12, 13] (fun s11 s12 s13 wx => ∃ (g11 g12 : Nat) (Q : Option Addr) (m c : Nat) (qs : List Pk) (g : Pk), s11 = .pointer (some ⟨g11, 0, none⟩) ∧ s12 = .pointer (some ⟨g12, 0, none⟩) ∧ s13 = .bool (tstF (E.s 1) (E.s 0).sn (E.s 0).ne (smd (sst (E.s 0)).em (E.s 0).q.length) (spk (sst (E.s 0)).em (E.s 0).q)) ∧ Below w4.heap.size w4 wx ∧ Blk wx g11 26 #[.int .i64 (tst (E.s 1) (E.s 0).sn (E.s 0).ne (smd (sst (E.s 0)).em (E.s 0).q.length) (spk (sst (E.s 0)).em (E.s 0).q)).sn, .int .i64 (tst (E.s 1) (E.s 0).sn (E.s 0).ne (smd (sst (E.s 0)).em (E.s 0).q.length) (spk (sst (E.s 0)).em (E.s 0).q)).ne, .slice Q m c, .bool (tst (E.s 1) (E.s 0).sn (E.s 0).ne (smd (sst (E.s 0)).em (E.s 0).q.length) (spk (sst (E.s 0)).em (E.s 0).q)).op, .bool (tst (E.s 1) (E.s 0).sn (E.s 0).ne (smd (sst (E.s 0)).em (E.s 0).q.length) (spk (sst (E.s 0)).em (E.s 0).q)).em, .int .i64 (tst (E.s 1) (E.s 0).sn (E.s 0).ne (smd (sst (E.s 0)).em (E.s 0).q.length) (spk (sst (E.s 0)).em (E.s 0).q)).ack, .int .i64 (tst (E.s 1) (E.s 0).sn (E.s 0).ne (smd (sst (E.s 0)).em (E.s 0).q.length) (spk (sst (E.s 0)).em (E.s 0).q)).tak] ∧ Has wx Q m c qs (tst (E.s 1) (E.s 0).sn (E.s 0).ne (smd (sst (E.s 0)).em (E.s 0).q.length) (spk (sst (E.s 0)).em (E.s 0).q)).q ∧ (∀ b ∈ feetQ Q m qs, w4.heap.size ≤ b) ∧ Blk wx g12 30 #[.int .i64 g.id, .slice g.A g.n g.c] ∧ w4.heap.size ≤ g12 ∧ Pay wx g ∧ g.abs = tkG (tstF (E.s 1) (E.s 0).sn (E.s 0).ne (smd (sst (E.s 0)).em (E.s 0).q.length) (spk (sst (E.s 0)).em (E.s 0).q)) (spk (sst (E.s 0)).em (E.s 0).q).1 (spk (sst (E.s 0)).em (E.s 0).q).2 ∧ ∀ b ∈ foot g.A g.n, w4.heap.size ≤ b)
              case first =>
                exact mv_r11_1 _ _ _ _ _ _ _ _ _ _ _ _ _ _ _ _ _ _ _ _ _ _ _ _ _ _ _ _ _ _ _ _ _ _ _ _ _ _ _ _ _ _ _ _ _ _ _ _ _ _ _ _ _ _ _ _ _ _ _ _ _ _ _ _ _ _ _ _ _ _ _ _ _ _ _ _ _ _ _ _ _ _ _ _ _ _ _ _ _ _ _ _ _ _ _ _ _ _ _ _ _ _ _ _ _ _ _ _ _ _ _ _ _ _ _ _ _ _ _ _ hB hbase hk hok1 k10 hpk HAB.out ‹_› ‹_›
              case rest =>
                obtain ⟨g11, g12, Q', m', c', qs', g, rfl, rfl, rfl, B5, k11, hQ, hge, k12, hg12, hpg, hab, hgg⟩ := hcut
                have hof : ∀ b ∈ feetQ Q' m' qs', b ∉ Zs Z w ∧ ∀ j, j < 4 → (M.r j).g ≠ some b := fun b hb => hB.off (hge b hb)
                have ho12 := hB.off hg12
                have hog : ∀ b ∈ foot g.A g.n, b ∉ Zs Z w ∧ ∀ j, j < 4 → (M.r j).g ≠ some b := fun b hb => hB.off (hgg b hb)
                have hZ12 : w.heap.size ≠ g12 := fun e => ho12.1 (by rw [← e]; simp [Zs])
                have hB := hB.below hbase B5
                have HAB2 := hide hab
                clear hge B5 hgg hab k10 hpk
                go_upto_region 12 with (fail)
                go_cut [] (fun wx => Bx Z w base ⟨2, false, p⟩ ⟨upd (upd E.s 0 (sst (E.s 0))) 1 (tst (E.s 1) (E.s 0).sn (E.s 0).ne (smd (sst (E.s 0)).em (E.s 0).q.length) (spk (sst (E.s 0)).em (E.s 0).q)), E.r⟩ ⟨upd (upd M.q 0 ⟨Q, m, c, qs⟩) 1 ⟨Q', m', c', qs'⟩, M.r⟩ wx ∧ Blk wx g12 30 #[.int .i64 g.id, .slice g.A g.n g.c] ∧ Pay wx g)
                case first =>
                  have HK := hide (blk_fills_far (g := w.heap.size) [(7, Value.int .i64 (tst (E.s 1) (E.s 0).sn (E.s 0).ne (smd (sst (E.s 0)).em (E.s 0).q.length) (spk (sst (E.s 0)).em (E.s 0).q)).sn), (8, Value.int .i64 (tst (E.s 1) (E.s 0).sn (E.s 0).ne (smd (sst (E.s 0)).em (E.s 0).q.length) (spk (sst (E.s 0)).em (E.s 0).q)).ne), (9, Value.slice ((⟨Q', m', c', qs'⟩ : Qm)).Q ((⟨Q', m', c', qs'⟩ : Qm)).m ((⟨Q', m', c', qs'⟩ : Qm)).c), (10, Value.bool (tst (E.s 1) (E.s 0).sn (E.s 0).ne (smd (sst (E.s 0)).em (E.s 0).q.length) (spk (sst (E.s 0)).em (E.s 0).q)).op), (11, Value.bool (tst (E.s 1) (E.s 0).sn (E.s 0).ne (smd (sst (E.s 0)).em (E.s 0).q.length) (spk (sst (E.s 0)).em (E.s 0).q)).em), (12, Value.int .i64 (tst (E.s 1) (E.s 0).sn (E.s 0).ne (smd (sst (E.s 0)).em (E.s 0).q.length) (spk (sst (E.s 0)).em (E.s 0).q)).ack), (13, Value.int .i64 (tst (E.s 1) (E.s 0).sn (E.s 0).ne (smd (sst (E.s 0)).em (E.s 0).q.length) (spk (sst (E.s 0)).em (E.s 0).q)).tak)] (Ne.symm hZ12) k12)
                  have HPK := hide (pay_keep hpg (Keeps.fills (Z := Zs Z w) (z := w.heap.size) [(7, Value.int .i64 (tst (E.s 1) (E.s 0).sn (E.s 0).ne (smd (sst (E.s 0)).em (E.s 0).q.length) (spk (sst (E.s 0)).em (E.s 0).q)).sn), (8, Value.int .i64 (tst (E.s 1) (E.s 0).sn (E.s 0).ne (smd (sst (E.s 0)).em (E.s 0).q.length) (spk (sst (E.s 0)).em (E.s 0).q)).ne), (9, Value.slice ((⟨Q', m', c', qs'⟩ : Qm)).Q ((⟨Q', m', c', qs'⟩ : Qm)).m ((⟨Q', m', c', qs'⟩ : Qm)).c), (10, Value.bool (tst (E.s 1) (E.s 0).sn (E.s 0).ne (smd (sst (E.s 0)).em (E.s 0).q.length) (spk (sst (E.s 0)).em (E.s 0).q)).op), (11, Value.bool (tst (E.s 1) (E.s 0).sn (E.s 0).ne (smd (sst (E.s 0)).em (E.s 0).q.length) (spk (sst (E.s 0)).em (E.s 0).q)).em), (12, Value.int .i64 (tst (E.s 1) (E.s 0).sn (E.s 0).ne (smd (sst (E.s 0)).em (E.s 0).q.length) (spk (sst (E.s 0)).em (E.s 0).q)).ack), (13, Value.int .i64 (tst (E.s 1) (E.s 0).sn (E.s 0).ne (smd (sst (E.s 0)).em (E.s 0).q.length) (spk (sst (E.s 0)).em (E.s 0).q)).tak)] (by simp [Zs]) (Keeps.refl _ _)).1 (fun b hb => (Keeps.fills (Z := Zs Z w) (z := w.heap.size) [(7, Value.int .i64 (tst (E.s 1) (E.s 0).sn (E.s 0).ne (smd (sst (E.s 0)).em (E.s 0).q.length) (spk (sst (E.s 0)).em (E.s 0).q)).sn), (8, Value.int .i64 (tst (E.s 1) (E.s 0).sn (E.s 0).ne (smd (sst (E.s 0)).em (E.s 0).q.length) (spk (sst (E.s 0)).em (E.s 0).q)).ne), (9, Value.slice ((⟨Q', m', c', qs'⟩ : Qm)).Q ((⟨Q', m', c', qs'⟩ : Qm)).m ((⟨Q', m', c', qs'⟩ : Qm)).c), (10, Value.bool (tst (E.s 1) (E.s 0).sn (E.s 0).ne (smd (sst (E.s 0)).em (E.s 0).q.length) (spk (sst (E.s 0)).em (E.s 0).q)).op), (11, Value.bool (tst (E.s 1) (E.s 0).sn (E.s 0).ne (smd (sst (E.s 0)).em (E.s 0).q.length) (spk (sst (E.s 0)).em (E.s 0).q)).em), (12, Value.int .i64 (tst (E.s 1) (E.s 0).sn (E.s 0).ne (smd (sst (E.s 0)).em (E.s 0).q.length) (spk (sst (E.s 0)).em (E.s 0).q)).ack), (13, Value.int .i64 (tst (E.s 1) (E.s 0).sn (E.s 0).ne (smd (sst (E.s 0)).em (E.s 0).q.length) (spk (sst (E.s 0)).em (E.s 0).q)).tak)] (by simp [Zs]) (Keeps.refl _ _)).2 b (pay_lt hpg b hb) (hog b hb).1))
                  clear k12 hpg
                  obtain ⟨r0, r1, r2, r3, r4, r5, r6⟩ := at7 k11
                  obtain ⟨c0, c1, c2, c3, c4, c5, c6, c7, c8, c9, c10, c11, c12, c13, c14, c15, c16, c17⟩ := hB.c
                  obtain ⟨t0, t1, t2, t3⟩ := hB.ct
                  have f0 := hB.f 7
                  have f1 := hB.f 8
                  have f2 := hB.f 9
                  have f3 := hB.f 10
                  have f4 := hB.f 11
                  have f5 := hB.f 12
                  have f6 := hB.f 13
                  have HS := hide (hB.side1 hbase (tst (E.s 1) (E.s 0).sn (E.s 0).ne (smd (sst (E.s 0)).em (E.s 0).q.length) (spk (sst (E.s 0)).em (E.s 0).q)) ⟨Q', m', c', qs'⟩ hQ (fun b hb => (hof b hb).1) (fun b hb => (hof b hb).2))
                  clear hB
                  go_wp2_with fail
                  go_meet
                  case rel => exact ⟨HS.out, HK.out, HPK.out⟩
                case rest =>
                  obtain ⟨hB, k12, hpg⟩ := hcut
                  clear hQ hof k11
                  obtain ⟨w6, rfl⟩ : ∃ y, y = wc := ⟨_, rfl⟩
                  cases hF : tstF (E.s 1) (E.s 0).sn (E.s 0).ne (smd (sst (E.s 0)).em (E.s 0).q.length) (spk (sst (E.s 0)).em (E.s 0).q) with
                  | true =>
                    have HF := hide hF
                    go_upto_region 14 with (fail)
                    go_cut [] (fun wx => ∃ v' g', Bx Z w base ⟨2, false, p⟩ ⟨upd (upd E.s 0 (sst (E.s 0))) 1 (tst (E.s 1) (E.s 0).sn (E.s 0).ne (smd (sst (E.s 0)).em (E.s 0).q.length) (spk (sst (E.s 0)).em (E.s 0).q)), upd E.r 3 (E.r 3 ++ [g.abs])⟩ ⟨upd (upd M.q 0 ⟨Q, m, c, qs⟩) 1 ⟨Q', m', c', qs'⟩, upd M.r 3 ⟨v', (M.r 3).n + 1, (M.r 3).qs ++ [g], g'⟩⟩ wx)
                    case first =>
                      exact mv_r14_1 _ _ _ _ _ _ _ _ _ _ _ _ _ _ _ _ _ _ _ _ _ _ _ _ _ _ _ _ _ _ _ _ _ _ _ _ _ _ _ _ _ _ _ _ _ _ _ _ _ _ _ _ _ _ _ _ _ _ _ _ _ _ _ _ _ _ _ _ _ _ _ _ _ _ _ _ _ _ _ _ _ _ _ _ _ _ _ _ _ _ _ _ _ _ _ _ _ _ _ _ _ _ _ _ _ _ _ _ _ _ _ _ _ _ _ hB hbase (hn 3 (by decide)) k12 hpg ho12.1 ho12.2 hog ‹_› ‹_› (fun c x t v u h => by cases t <;> exact h)
                    case rest =>
                      obtain ⟨v', g', hB⟩ := hcut
                      have hga : g.abs = (spk (sst (E.s 0)).em (E.s 0).q) := by rw [HAB2.out, HF.out]; rfl
                      rw [hga] at hB
                      have H2 : Hid (∃ M', Bx Z w base ⟨2, false, p⟩ (mvS E 0 1 false) M' wc) := ⟨_, by unfold mvS; rw [if_neg (by decide)]; unfold enT enS; rw [if_pos (show tstF (upd E.s 0 (sst (E.s 0)) 1) (E.s 0).sn (E.s 0).ne (smd (sst (E.s 0)).em (E.s 0).q.length) (spk (sst (E.s 0)).em (E.s 0).q) = true from HF.out)]; exact hB⟩
                      clear hB hga
                      go_wp2
                      go_meet
                      case rel => exact H2.out
                  | false =>
                    have H2 : Hid (∃ M', Bx Z w base ⟨2, false, p⟩ (mvS E 0 1 false) M' w6) := ⟨_, by unfold mvS; rw [if_neg (by decide)]; unfold enT enS; rw [if_neg (show ¬ tstF (upd E.s 0 (sst (E.s 0)) 1) (E.s 0).sn (E.s 0).ne (smd (sst (E.s 0)).em (E.s 0).q.length) (spk (sst (E.s 0)).em (E.s 0).q) = true from by rw [show tstF (upd E.s 0 (sst (E.s 0)) 1) (E.s 0).sn (E.s 0).ne (smd (sst (E.s 0)).em (E.s 0).q.length) (spk (sst (E.s 0)).em (E.s 0).q) = false from hF]; decide)]; exact hB⟩
                    clear hB
                    go_wp2
                    go_meet
                    case rel => exact H2.out
    case rest =>
      obtain ⟨M', hB⟩ := hcut
      have HD := hide (mv_done hB hbase)
      have HX := hide (show wc.heap[w.heap.size]? = some (.cells (enCells (mvS E 0 1 lost) M') 52 (0, 0)) from hB.x)
      have HO := hide (show wc.heap[w.heap.size + 2]? = some (.cells zeroEn 52 (0, 0)) from hB.o)
      have H1 := hide (enCells_one hB.mem)
      obtain ⟨t0, t1, t2, t3⟩ := hB.ct
      clear hB
      go_wp2_with (first
        | (with_reducible refine wpList_load_row rfl _ (.tmp 2) rfl w.heap.size rfl _ _ _ _ HX.out Try.underlying52 rfl (by kernel_rfl) ?_)
        | (with_reducible refine wpList_store_row rfl _ (.tmp 4) (.tmp 110) rfl (w.heap.size + 2) (enCells (mvS E 0 1 lost) M') rfl rfl _ _ HO.out (by kernel_rfl) rfl H1.out ?_))
      exact bodyPost_ret (run_res_one rfl rfl HD.out.1 _ Try.underlying52 rfl (by kernel_rfl)) rfl HD.out.2
end Go.Proofs.Ytobljnbpokijdaa
