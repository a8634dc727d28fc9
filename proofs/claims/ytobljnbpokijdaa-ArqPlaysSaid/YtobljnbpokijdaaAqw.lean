/-
  The walk of the law ArqPlays: the assignment of both sides.
-/
import Derived.Test.YtobljnbpokijdaaAqv
import Derived.Test.YtobljnbpokijdaaAqn

namespace Go.Proofs.Ytobljnbpokijdaa
set_option linter.unusedVariables false
set_option linter.unusedSimpArgs false
open Go.RowKit
set_option maxRecDepth 100000 in
set_option maxHeartbeats 100000000 in
theorem pl_r27 (x1 x2 x6 x7 x8 x9 x10 x13 x14 x17 x18 x19 x20 x21 x22 x23 x24 x25 x26 x27 x28 x29 x30 x31 x32 x33 x34 x35 x36 x37 x38 x39 x40 x41 x42 x43 x44 x45 x46 x47 x48 x49 x50 x51 x52 x53 x54 x55 x56 x57 x58 x59 x60 x61 x62 x63 x64 x65 x66 x67 x68 x69 x70 x71 x72 x73 x74 x75 x76 x77 x78 x79 x80 x81 x82 x83 x84 x85 x86 x87 x88 x89 x90 x91 x92 x93 x94 x95 x96 x97 x98 x99 x100 x101 x102 x103 x104 x105 x106 x107 x108 x109 x110 x111 x112 x113 x114 x115 x116 x117 x118 x119 x120 x121 x122 x123 x124 x125 x126 x127 x128 x129 x130 x131 x132 x133 : Value) (w w5 : World) (b o n c k ga gb g11 g12 g15 g16 : Nat) (x : Opr) (s : St) (Qa Qb : Option Addr) (ma ca mb cb : Nat) (qa qb : List Pk) (Q1 Q2 : Option Addr) (m1 c1 m2 c2 : Nat) (q1 q2 : List Pk) (g g2 : Pk)
    (BY : Below w.heap.size w w5)
    (hbo5 : Both w5 ga gb s Qa ma ca qa Qb mb cb qb)
    (hne : ga ≠ gb)
    (hga : w.heap.size ≤ ga)
    (hgb : w.heap.size ≤ gb)
    (k11 : Side w5 g11 (tst s x.sn x.ne x.md x.p.abs) Q1 m1 c1)
    (k15 : Side w5 g15 (tst s x.sn x.ne x.md x.p.abs) Q2 m2 c2)
    (hA1 : Has w5 Q1 m1 c1 q1 (tst s x.sn x.ne x.md x.p.abs).q)
    (hB2 : Has w5 Q2 m2 c2 q2 (tst s x.sn x.ne x.md x.p.abs).q)
    (o1 : RowOff ga Q1 m1)
    (o2 : RowOff gb Q1 m1)
    (o3 : RowOff ga Q2 m2)
    (o4 : RowOff gb Q2 m2)
    (k12 : Blk w5 g12 30 #[.int .i64 g.id, .slice g.A g.n g.c])
    (hp1 : Pay w5 g)
    (k16 : Blk w5 g16 30 #[.int .i64 g2.id, .slice g2.A g2.n g2.c])
    (hp2 : Pay w5 g2)
    (q1a : ga ≠ g11)
    (q1b : gb ≠ g11)
    (q2a : ga ≠ g12)
    (q2b : gb ≠ g12)
    (q3a : ga ≠ g15)
    (q3b : gb ≠ g15)
    (q4a : ga ≠ g16)
    (q4b : gb ≠ g16)
    {J K' : Act → World → Prop} {Q0 : Exit → Act → World → Prop} (hJ : ∀ a' w', (∃ u26 u27 u28 u29 u30 u31 u32 u33 u34 u35 u36 u37 u38 u39 u40 u41 u42 u43 u44 u47 u48 u49 u50 u51 u52 u53 u54 u55 u56 u57 u58 u59 u60 u61 u62 u63 u64 u65 u66 u67 u68 u70 u71 u72 u73 u74 u75 u76 u77 u78 u79 u80 u81 u82 u83 u84 u86 u87 u88 u89 u90 u91 u92 u93 u94 u95 u96 u97 u98 u99 u100 u101 u102 u103 u104 u105 u106 u107 u108 u109 u110 u111 u112 u113 u114 u115 u116 u117 u118 u119 u120 u121 u122 u123 u124 u125 u126 u127 u128 u129 u130 u131 u132 u133 : Value, (Below w.heap.size w w' ∧ Both w' ga gb (tst s x.sn x.ne x.md x.p.abs) Q1 m1 c1 q1 Q2 m2 c2 q2 ∧ Blk w' g12 30 #[.int .i64 g.id, .slice g.A g.n g.c] ∧ Pay w' g ∧ Blk w' g16 30 #[.int .i64 g2.id, .slice g2.A g2.n g2.c] ∧ Pay w' g2) ∧ a' = ⟨#[Value.slice (some ⟨b, o, none⟩) n c, x1, x2, Value.pointer (some ⟨ga, 0, none⟩), Value.pointer (some ⟨gb, 0, none⟩), Value.int .i64 (k : Int), x6, x7, x8, x9, x10, Value.pointer (some ⟨g11, 0, none⟩), Value.pointer (some ⟨g12, 0, none⟩), x13, x14, Value.pointer (some ⟨g15, 0, none⟩), Value.pointer (some ⟨g16, 0, none⟩), x17, x18, x19, x20, x21, x22, x23, x24, x25, u26, u27, u28, u29, u30, u31, u32, u33, u34, u35, u36, u37, u38, u39, u40, u41, u42, u43, u44, x45, x46, u47, u48, u49, u50, u51, u52, u53, u54, u55, u56, u57, u58, u59, u60, u61, u62, u63, u64, u65, u66, u67, u68, x69, u70, u71, u72, u73, u74, u75, u76, u77, u78, u79, u80, u81, u82, u83, u84, x85, u86, u87, u88, u89, u90, u91, u92, u93, u94, u95, u96, u97, u98, u99, u100, u101, u102, u103, u104, u105, u106, u107, u108, u109, u110, u111, u112, u113, u114, u115, u116, u117, u118, u119, u120, u121, u122, u123, u124, u125, u126, u127, u128, u129, u130, u131, u132, u133], []⟩) → J a' w') (hM : ∀ a' w', Met J a' w' → K' a' w') :
    Code.wp Try.prog (plCode 27) (Exit.then K' Q0) ⟨#[Value.slice (some ⟨b, o, none⟩) n c, x1, x2, Value.pointer (some ⟨ga, 0, none⟩), Value.pointer (some ⟨gb, 0, none⟩), Value.int .i64 (k : Int), x6, x7, x8, x9, x10, Value.pointer (some ⟨g11, 0, none⟩), Value.pointer (some ⟨g12, 0, none⟩), x13, x14, Value.pointer (some ⟨g15, 0, none⟩), Value.pointer (some ⟨g16, 0, none⟩), x17, x18, x19, x20, x21, x22, x23, x24, x25, x26, x27, x28, x29, x30, x31, x32, x33, x34, x35, x36, x37, x38, x39, x40, x41, x42, x43, x44, x45, x46, x47, x48, x49, x50, x51, x52, x53, x54, x55, x56, x57, x58, x59, x60, x61, x62, x63, x64, x65, x66, x67, x68, x69, x70, x71, x72, x73, x74, x75, x76, x77, x78, x79, x80, x81, x82, x83, x84, x85, x86, x87, x88, x89, x90, x91, x92, x93, x94, x95, x96, x97, x98, x99, x100, x101, x102, x103, x104, x105, x106, x107, x108, x109, x110, x111, x112, x113, x114, x115, x116, x117, x118, x119, x120, x121, x122, x123, x124, x125, x126, x127, x128, x129, x130, x131, x132, x133], []⟩ w5 := by
  conv => arg 2; whnf
  have b11 := k11.blk
  have b15 := k15.blk
  have ba5 := hbo5.a.blk
  have bb5 := hbo5.b.blk
  have S_ : ∀ {u : World}, Blk u g11 26 #[.int .i64 (tst s x.sn x.ne x.md x.p.abs).sn, .int .i64 (tst s x.sn x.ne x.md x.p.abs).ne, .slice Q1 m1 c1, .bool (tst s x.sn x.ne x.md x.p.abs).op, .bool (tst s x.sn x.ne x.md x.p.abs).em, .int .i64 (tst s x.sn x.ne x.md x.p.abs).ack, .int .i64 (tst s x.sn x.ne x.md x.p.abs).tak] → Blk u g15 26 #[.int .i64 (tst s x.sn x.ne x.md x.p.abs).sn, .int .i64 (tst s x.sn x.ne x.md x.p.abs).ne, .slice Q2 m2 c2, .bool (tst s x.sn x.ne x.md x.p.abs).op, .bool (tst s x.sn x.ne x.md x.p.abs).em, .int .i64 (tst s x.sn x.ne x.md x.p.abs).ack, .int .i64 (tst s x.sn x.ne x.md x.p.abs).tak] → u.cell? ⟨g11, 0, none⟩ = some (Value.int .i64 (tst s x.sn x.ne x.md x.p.abs).sn) ∧ u.cell? ⟨g11, 1, none⟩ = some (Value.int .i64 (tst s x.sn x.ne x.md x.p.abs).ne) ∧ u.cell? ⟨g11, 2, none⟩ = some (Value.slice Q1 m1 c1) ∧ u.cell? ⟨g11, 3, none⟩ = some (Value.bool (tst s x.sn x.ne x.md x.p.abs).op) ∧ u.cell? ⟨g11, 4, none⟩ = some (Value.bool (tst s x.sn x.ne x.md x.p.abs).em) ∧ u.cell? ⟨g11, 5, none⟩ = some (Value.int .i64 (tst s x.sn x.ne x.md x.p.abs).ack) ∧ u.cell? ⟨g11, 6, none⟩ = some (Value.int .i64 (tst s x.sn x.ne x.md x.p.abs).tak) ∧ u.cell? ⟨g15, 0, none⟩ = some (Value.int .i64 (tst s x.sn x.ne x.md x.p.abs).sn) ∧ u.cell? ⟨g15, 1, none⟩ = some (Value.int .i64 (tst s x.sn x.ne x.md x.p.abs).ne) ∧ u.cell? ⟨g15, 2, none⟩ = some (Value.slice Q2 m2 c2) ∧ u.cell? ⟨g15, 3, none⟩ = some (Value.bool (tst s x.sn x.ne x.md x.p.abs).op) ∧ u.cell? ⟨g15, 4, none⟩ = some (Value.bool (tst s x.sn x.ne x.md x.p.abs).em) ∧ u.cell? ⟨g15, 5, none⟩ = some (Value.int .i64 (tst s x.sn x.ne x.md x.p.abs).ack) ∧ u.cell? ⟨g15, 6, none⟩ = some (Value.int .i64 (tst s x.sn x.ne x.md x.p.abs).tak) := fun h h' => ⟨h.cell 0, h.cell 1, h.cell 2, h.cell 3, h.cell 4, h.cell 5, h.cell 6, h'.cell 0, h'.cell 1, h'.cell 2, h'.cell 3, h'.cell 4, h'.cell 5, h'.cell 6⟩
  obtain ⟨r0, r1, r2, r3, r4, r5, r6⟩ := at7 ba5
  obtain ⟨f0, f1, f2, f3, f4, f5, f6⟩ := fr7 ba5
  obtain ⟨y0, y1, y2, y3, y4, y5, y6⟩ := at7 bb5
  obtain ⟨z0, z1, z2, z3, z4, z5, z6⟩ := fr7 bb5
  have nab : ¬ ga = gb := hne
  have nba : ¬ gb = ga := Ne.symm hne
  go_region_held3 (fun w' => w'.cell? ⟨g11, 0, none⟩ = some (Value.int .i64 (tst s x.sn x.ne x.md x.p.abs).sn) ∧ w'.cell? ⟨g11, 1, none⟩ = some (Value.int .i64 (tst s x.sn x.ne x.md x.p.abs).ne) ∧ w'.cell? ⟨g11, 2, none⟩ = some (Value.slice Q1 m1 c1) ∧ w'.cell? ⟨g11, 3, none⟩ = some (Value.bool (tst s x.sn x.ne x.md x.p.abs).op) ∧ w'.cell? ⟨g11, 4, none⟩ = some (Value.bool (tst s x.sn x.ne x.md x.p.abs).em) ∧ w'.cell? ⟨g11, 5, none⟩ = some (Value.int .i64 (tst s x.sn x.ne x.md x.p.abs).ack) ∧ w'.cell? ⟨g11, 6, none⟩ = some (Value.int .i64 (tst s x.sn x.ne x.md x.p.abs).tak) ∧ w'.cell? ⟨g15, 0, none⟩ = some (Value.int .i64 (tst s x.sn x.ne x.md x.p.abs).sn) ∧ w'.cell? ⟨g15, 1, none⟩ = some (Value.int .i64 (tst s x.sn x.ne x.md x.p.abs).ne) ∧ w'.cell? ⟨g15, 2, none⟩ = some (Value.slice Q2 m2 c2) ∧ w'.cell? ⟨g15, 3, none⟩ = some (Value.bool (tst s x.sn x.ne x.md x.p.abs).op) ∧ w'.cell? ⟨g15, 4, none⟩ = some (Value.bool (tst s x.sn x.ne x.md x.p.abs).em) ∧ w'.cell? ⟨g15, 5, none⟩ = some (Value.int .i64 (tst s x.sn x.ne x.md x.p.abs).ack) ∧ w'.cell? ⟨g15, 6, none⟩ = some (Value.int .i64 (tst s x.sn x.ne x.md x.p.abs).tak)) (((with_reducible refine S_ ?_ ?_); (repeat' (first | (with_reducible exact b11) | (with_reducible exact (b11).drew) | (with_reducible exact b15) | (with_reducible exact (b15).drew) | (with_reducible refine blk_far7 ?_ ?_) | (with_reducible refine Blk.drew ?_) | (with_reducible exact Ne.symm q1a) | (with_reducible exact Ne.symm q1b) | (with_reducible exact Ne.symm q3a) | (with_reducible exact Ne.symm q3b) | fail)))) (fail)
  all_goals
    go_wp2_with fail
    go_meet
    case rel =>
      have PAo : ∀ {p : Pk}, Pay w5 p → 0 < p.n → ∀ a, p.A = some a → a.block ≠ ga := fun h => pay_off hbo5.a h
      have PBo : ∀ {p : Pk}, Pay w5 p → 0 < p.n → ∀ a, p.A = some a → a.block ≠ gb := fun h => pay_off hbo5.b h
      refine ⟨?_, ⟨?_, ?_, ?_, ?_, o1, o2, o3, o4⟩, ?_, ?_, ?_, ?_⟩
      · (try with_reducible refine Below.drew ?_); first | (with_reducible exact below_put7 (below_put7 BY hga) hgb) | (with_reducible exact below_put7 (below_put7 BY hgb) hga)
      · show Blk _ _ _ _; (try with_reducible refine Blk.drew ?_); first | (with_reducible exact blk_put7 (blk_far7 ba5 hne)) | (with_reducible exact blk_far7 (blk_put7 ba5) hne)
      · show Blk _ _ _ _; (try with_reducible refine Blk.drew ?_); first | (with_reducible exact blk_put7 (blk_far7 bb5 (Ne.symm hne))) | (with_reducible exact blk_far7 (blk_put7 bb5) (Ne.symm hne))
      · (try with_reducible refine Has.drew ?_); first | (with_reducible exact (hA1.put7 o1 (fun q hq => PAo (hA1.pays q hq))).put7 o2 (fun q hq => PBo (hA1.pays q hq))) | (with_reducible exact (hA1.put7 o2 (fun q hq => PBo (hA1.pays q hq))).put7 o1 (fun q hq => PAo (hA1.pays q hq)))
      · (try with_reducible refine Has.drew ?_); first | (with_reducible exact (hB2.put7 o3 (fun q hq => PAo (hB2.pays q hq))).put7 o4 (fun q hq => PBo (hB2.pays q hq))) | (with_reducible exact (hB2.put7 o4 (fun q hq => PBo (hB2.pays q hq))).put7 o3 (fun q hq => PAo (hB2.pays q hq)))
      · (try with_reducible refine Blk.drew ?_); first | (with_reducible exact blk_far7 (blk_far7 k12 (Ne.symm q2a)) (Ne.symm q2b)) | (with_reducible exact blk_far7 (blk_far7 k12 (Ne.symm q2b)) (Ne.symm q2a))
      · (try with_reducible refine Pay.drew ?_); first | (with_reducible exact pay_put7 (pay_put7 hp1 (PAo hp1)) (PBo hp1)) | (with_reducible exact pay_put7 (pay_put7 hp1 (PBo hp1)) (PAo hp1))
      · (try with_reducible refine Blk.drew ?_); first | (with_reducible exact blk_far7 (blk_far7 k16 (Ne.symm q4a)) (Ne.symm q4b)) | (with_reducible exact blk_far7 (blk_far7 k16 (Ne.symm q4b)) (Ne.symm q4a))
      · (try with_reducible refine Pay.drew ?_); first | (with_reducible exact pay_put7 (pay_put7 hp2 (PAo hp2)) (PBo hp2)) | (with_reducible exact pay_put7 (pay_put7 hp2 (PBo hp2)) (PAo hp2))
end Go.Proofs.Ytobljnbpokijdaa
