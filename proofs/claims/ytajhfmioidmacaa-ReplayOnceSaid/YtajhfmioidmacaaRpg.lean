/-
  The walks of Accept in the program and in the reference. Each function's contract.
-/
import Derived.Test.YtajhfmioidmacaaRpf
namespace Go.Proofs.Ytajhfmioidmacaa
set_option linter.unusedVariables false
set_option linter.unusedSimpArgs false
open Go.RowKit

/-- A list after a message was offered, and the answer. -/
def acc (l : List Msg) (x : Msg) : List Msg × Nat := if chk l x = 0 then (if rowOf l x.s < 0 then (l ++ [x], 0) else (l.set (rowOf l x.s).toNat x, 0)) else (l, chk l x)
theorem acc_cases (l : List Msg) (x : Msg) : (chk l x ≠ 0 ∧ acc l x = (l, chk l x)) ∨ (chk l x = 0 ∧ rowOf l x.s = -1 ∧ acc l x = (l ++ [x], 0)) ∨ ∃ k : Nat, k < l.length ∧ chk l x = 0 ∧ rowOf l x.s = (k : Int) ∧ acc l x = (l.set k x, 0) := by
  unfold acc
  by_cases h : chk l x = 0
  · rw [if_pos h]
    rcases rowOf_cases l x.s with ⟨h1, _⟩ | ⟨k, y, h1, hy, _⟩
    · right; left; exact ⟨h, h1, by rw [h1]; rfl⟩
    · right; right
      refine ⟨k, (List.getElem?_eq_some_iff.1 hy).1, h, h1, ?_⟩
      rw [h1, if_neg (by omega), Int.toNat_natCast]
  · left; rw [if_neg h]; exact ⟨h, rfl⟩
theorem mv_lset (l : List Msg) (k : Nat) (c : Msg) (hk : k < l.length) : (((mv l).set (k * 3) (.int .u16 c.s)).set (k * 3 + 1) (.int .u32 c.i)).set (k * 3 + 2) (.int .u32 c.q) = mv (l.set k c) := by
  have := congrArg Array.toList (mv_set l k c hk)
  simpa using this
theorem own_mset {w : World} {base : Nat} {e : TypeId} {g n cap : Nat} {l : List Msg} (h : w.ownsRow base e 3 (.slice (some ⟨g, 0, none⟩) n cap) n (mv l)) (k : Nat) (c : Msg) (hk : k < l.length) :
    (((w.setCell ⟨g, k * 3, none⟩ (.int .u16 c.s)).setCell ⟨g, k * 3 + 1, none⟩ (.int .u32 c.i)).setCell ⟨g, k * 3 + 2, none⟩ (.int .u32 c.q)).ownsRow base e 3 (.slice (some ⟨g, 0, none⟩) n cap) n (mv (l.set k c)) := by
  have h1 := (h.stored (k * 3) (.int .u16 c.s)).1
  have h2 := (h1.stored (k * 3 + 1) (.int .u32 c.i)).1
  have h3 := (h2.stored (k * 3 + 2) (.int .u32 c.q)).1
  rw [mv_lset l k c hk] at h3
  exact h3
theorem own_mcell {w : World} {base : Nat} {e : TypeId} {g n cap : Nat} {l : List Msg} (h : w.ownsRow base e 3 (.slice (some ⟨g, 0, none⟩) n cap) n (mv l)) {k : Nat} (hk : k < l.length) :
    ∃ y : Msg, w.cell? ⟨g, k * 3, none⟩ = some (.int .u16 y.s) ∧ w.cell? ⟨g, k * 3 + 1, none⟩ = some (.int .u32 y.i) ∧ w.cell? ⟨g, k * 3 + 2, none⟩ = some (.int .u32 y.q) := by
  obtain ⟨_, _, hv, _, _, hr⟩ := own_rdn h
  injection hv with hv _ _
  subst hv
  have hn : k < n := by rw [← hr.mlen]; exact hk
  obtain ⟨b, o, y, he, _, _, p0, p1, p2⟩ := hr.msg hn
  injection he with he
  injection he with e1 e2
  subst e1
  subst e2
  simp only [Nat.zero_add] at p0 p1 p2
  exact ⟨y, p0, p1, p2⟩
theorem field_list (A : Option Addr) (n c : Nat) (W : World) : (Instr.field 49 (.agg #[.slice A n c, .int .i64 32]) 0).run Try.prog W = .ok (.slice A n c) W := by kernel_rfl
set_option maxHeartbeats 2000000 in
theorem accept_any (A : Option Addr) (n c : Nat) (l : List Msg) (x : Msg) (w : World) (hA : Rd w 3 A n (mv l)) (hnc : n ≤ c) (hn : n ≤ 10000) :
    Calls Try.prog 16 #[.slice A n c, .agg #[.int .u16 x.s, .int .u32 x.i, .int .u32 x.q]] w fun e w' => ∃ v, e = .returned (.tuple #[v, .int .i64 (((acc l x).2 : Nat) : Int)]) ∧ w'.ownsRow w.heap.size 46 3 v (acc l x).1.length (mv (acc l x).1) ∧ Below w.heap.size w w' := by
  have hlen := hA.mlen
  have hB : Below w.heap.size w (w.alloc (.cells #[.int .u16 x.s, .int .u32 x.i, .int .u32 x.q] 26)) := (Below.refl _ _).alloc (Nat.le_refl _) _
  have k1 : Blk (w.alloc (.cells #[.int .u16 x.s, .int .u32 x.i, .int .u32 x.q] 26)) w.heap.size 26 #[.int .u16 x.s, .int .u32 x.i, .int .u32 x.q] := Blk.new _ _ _
  rcases acc_cases l x with ⟨hc, ha⟩ | ⟨hc, hr, ha⟩ | ⟨k, hk, hc, hr, ha⟩
  · have h1 : (((chk l x : Nat) : Int) != 0) = true := by rw [bne_iff_ne]; omega
    obtain ⟨E, hE⟩ : ∃ E, E = chk l x := ⟨_, rfl⟩
    rw [← hE] at h1 ha
    have HE := hide hE
    have HA := hide ha
    clear hE hc ha
    go_enter Try.func16, Try.ntmps16
    go_wp2_with fail
    refine (check_any A n c l x _ (hA.below hB) (by omega)).mono ?_
    rintro e w1 ⟨rfl, hb1⟩
    rw [← HE.out]
    have B1 := hB.trans (hb1.mono hB.size)
    go_wp2_with fail
    refine (cloner_any A n c l _ (hA.below B1) (by omega)).mono ?_
    rintro e w2 ⟨v2, rfl, hown2, hb2⟩
    go_wp2
    go_ret2
    rw [HA.out, hlen]
    exact ⟨_, rfl, ownsRow_weak hown2 B1.size, B1.trans (hb2.mono B1.size)⟩
  · have HC := hide hc
    have HR := hide hr
    have HA := hide ha
    clear hc hr ha
    go_enter Try.func16, Try.ntmps16
    go_wp2_with fail
    refine (check_any A n c l x _ (hA.below hB) (by omega)).mono ?_
    rintro e w1 ⟨rfl, hb1⟩
    rw [HC.out]
    have B1 := hB.trans (hb1.mono hB.size)
    have m1 := k1.below hb1 k1.lt
    obtain ⟨p0, p1, p2⟩ := at3 m1
    have m1' := m1.alloc (.cells #[.int .u16 x.s, .int .u32 x.i, .int .u32 x.q] 46)
    obtain ⟨q0, q1, q2⟩ := at3 m1'
    have B1' := B1.alloc B1.size (.cells #[.int .u16 x.s, .int .u32 x.i, .int .u32 x.q] 46)
    have mr : Blk (w1.alloc (.cells #[.int .u16 x.s, .int .u32 x.i, .int .u32 x.q] 46)) w1.heap.size 46 #[.int .u16 x.s, .int .u32 x.i, .int .u32 x.q] := Blk.new _ _ _
    go_wp2_with fail
    refine (row_any A n c l x.s _ (hA.below B1') (by omega)).mono ?_
    rintro e w2 ⟨rfl, hb2⟩
    rw [HR.out]
    have B2 := B1'.trans (hb2.mono B1'.size)
    obtain ⟨s0, s1, s2⟩ := at3 (mr.below hb2 mr.lt)
    go_wp2_with fail
    refine (addr_any A n c 32 l x _ (hA.below B2) (by omega)).mono ?_
    rintro e w3 ⟨v3, rfl, hown3, hb3⟩
    obtain ⟨A3, c3, hv3, _, _, _⟩ := own_rdn hown3
    rw [hv3] at hown3
    rw [hv3]
    have hfd := field_list A3 (n + 1) c3
    go_wp2
    go_ret2
    rw [HA.out, List.length_append, List.length_singleton, hlen]
    exact ⟨_, rfl, ownsRow_weak hown3 B2.size, B2.trans (hb3.mono B2.size)⟩
  · have HC := hide hc
    have HR := hide hr
    have HA := hide ha
    have hkn : (k : Int) < (n : Int) := by omega
    clear hc hr ha
    go_enter Try.func16, Try.ntmps16
    go_wp2_with fail
    refine (check_any A n c l x _ (hA.below hB) (by omega)).mono ?_
    rintro e w1 ⟨rfl, hb1⟩
    rw [HC.out]
    have B1 := hB.trans (hb1.mono hB.size)
    have m1 := k1.below hb1 k1.lt
    obtain ⟨p0, p1, p2⟩ := at3 m1
    have m1' := m1.alloc (.cells #[.int .u16 x.s, .int .u32 x.i, .int .u32 x.q] 46)
    obtain ⟨q0, q1, q2⟩ := at3 m1'
    have B1' := B1.alloc B1.size (.cells #[.int .u16 x.s, .int .u32 x.i, .int .u32 x.q] 46)
    have mr : Blk (w1.alloc (.cells #[.int .u16 x.s, .int .u32 x.i, .int .u32 x.q] 46)) w1.heap.size 46 #[.int .u16 x.s, .int .u32 x.i, .int .u32 x.q] := Blk.new _ _ _
    go_wp2_with fail
    refine (row_any A n c l x.s _ (hA.below B1') (by omega)).mono ?_
    rintro e w2 ⟨rfl, hb2⟩
    rw [HR.out]
    have B2 := B1'.trans (hb2.mono B1'.size)
    have mr2 := mr.below hb2 mr.lt
    go_wp2_with fail
    refine (cloner_any A n c l _ (hA.below B2) (by omega)).mono ?_
    rintro e w3 ⟨v3, rfl, hown3, hb3⟩
    have B3 := B2.trans (hb3.mono B2.size)
    obtain ⟨s0, s1, s2⟩ := at3 (mr2.below hb3 mr2.lt)
    rcases hown3.2 with ⟨_, h0⟩ | ⟨g, cap, cur, hv3, hg, _⟩
    · omega
    · rw [hv3] at hown3
      rw [hv3]
      obtain ⟨y, r0, r1, r2⟩ := own_mcell hown3 hk
      have f0 := hown3.frozenAt (k * 3)
      have f1 := hown3.frozenAt (k * 3 + 1)
      have f2 := hown3.frozenAt (k * 3 + 2)
      have hgw : w.heap.size ≤ g := Nat.le_trans B2.size hg
      have hfin := own_mset hown3 k x hk
      have B4 := ((B3.setCell (p := ⟨g, k * 3, none⟩) hgw (.int .u16 x.s)).setCell (p := ⟨g, k * 3 + 1, none⟩) hgw (.int .u32 x.i)).setCell (p := ⟨g, k * 3 + 2, none⟩) hgw (.int .u32 x.q)
      clear hown3
      go_wp2
      go_ret2
      rw [HA.out, List.length_set, hlen]
      exact ⟨_, rfl, ownsRow_weak hfin B2.size, B4⟩
set_option maxHeartbeats 2000000 in
theorem raccept_any (A : Option Addr) (n c : Nat) (l : List Msg) (x : Msg) (w : World) (hA : Rd w 3 A n (mv l)) (hnc : n ≤ c) (hn : n ≤ 10000) :
    Calls Try.prog 17 #[.slice A n c, .agg #[.int .u16 x.s, .int .u32 x.i, .int .u32 x.q]] w fun e w' => ∃ v, e = .returned (.tuple #[v, .int .i64 (((acc l x).2 : Nat) : Int)]) ∧ w'.ownsRow w.heap.size 46 3 v (acc l x).1.length (mv (acc l x).1) ∧ Below w.heap.size w w' := by
  have hlen := hA.mlen
  have hB : Below w.heap.size w ((w.alloc (.cells #[.int .u16 x.s, .int .u32 x.i, .int .u32 x.q] 26)).alloc (.cells #[] 46)) := ((Below.refl _ _).alloc (Nat.le_refl _) _).alloc (by simp) _
  have k1 : Blk ((w.alloc (.cells #[.int .u16 x.s, .int .u32 x.i, .int .u32 x.q] 26)).alloc (.cells #[] 46)) w.heap.size 26 #[.int .u16 x.s, .int .u32 x.i, .int .u32 x.q] := (Blk.new _ _ _).alloc _
  have hown0 : ((w.alloc (.cells #[.int .u16 x.s, .int .u32 x.i, .int .u32 x.q] 26)).alloc (.cells #[] 46)).ownsRow (w.heap.size + 1) 46 3 (.slice (some ⟨w.heap.size + 1, 0, none⟩) 0 0) 0 [] := own_made2 (by simp) (Nat.le_refl _)
  have hne0 : some w.heap.size ≠ (Value.slice (some ⟨w.heap.size + 1, 0, none⟩) 0 0).ownBlock := by simp [Value.ownBlock]
  have hA0 := hA.below hB
  have hsz0 : w.heap.size + 1 ≤ ((w.alloc (.cells #[.int .u16 x.s, .int .u32 x.i, .int .u32 x.q] 26)).alloc (.cells #[] 46)).heap.size := by simp
  rcases acc_cases l x with ⟨hc, ha⟩ | ⟨hc, hr, ha⟩ | ⟨k, hk, hc, hr, ha⟩
  · have h1 : (((chk l x : Nat) : Int) != 0) = true := by rw [bne_iff_ne]; omega
    obtain ⟨E, hE⟩ : ∃ E, E = chk l x := ⟨_, rfl⟩
    rw [← hE] at h1 ha
    have HE := hide hE
    have HA := hide ha
    clear hE hc ha
    go_enter Try.func17, Try.ntmps17
    go_wp2_with (at_builtin; refine wpList_append_rd _ rfl (.tmp 10) (.tmp 11) _ rfl (w.heap.size + 1) 46 (.agg #[.int .u16 0, .int .u32 0, .int .u32 0]) 3 12 underR infoR rfl (by omega) _ 0 [] rfl hown0 A n c (mv l) rfl hA0 (mv_one l) (by omega) (by omega) hsz0 ?_; intro v1 w1 hown1 hg1 _; have B1 := hB.grown hg1 (Nat.le_of_succ_le hsz0) (fun k hk => Nat.le_of_succ_le (hown0.lt k hk).1); have m1 := k1.grown hg1 hne0; obtain ⟨p0, p1, p2⟩ := at3 m1)
    rw [Nat.zero_add, List.nil_append] at hown1
    refine (rcheck_any A n c l x _ (hA.below B1) (by omega)).mono ?_
    rintro e w2 ⟨rfl, hb2⟩
    have B2 := B1.trans (hb2.mono B1.size)
    have hown2 := own_below hown1 hb2
    have m2 := m1.below hb2 m1.lt
    clear hown1
    obtain ⟨A2, c2, hv2, hc2, _, hr2⟩ := own_rdn hown2
    rw [hv2] at hown2
    rw [hv2]
    clear hv2
    rw [← HE.out]
    go_wp2
    go_ret2
    rw [HA.out, hlen]
    exact ⟨_, rfl, ownsRow_weak hown2 (Nat.le_succ _), B2⟩
  · have HC := hide hc
    have HR := hide hr
    have HA := hide ha
    clear hc hr ha
    go_enter Try.func17, Try.ntmps17
    go_wp2_with (at_builtin; refine wpList_append_rd _ rfl (.tmp 10) (.tmp 11) _ rfl (w.heap.size + 1) 46 (.agg #[.int .u16 0, .int .u32 0, .int .u32 0]) 3 12 underR infoR rfl (by omega) _ 0 [] rfl hown0 A n c (mv l) rfl hA0 (mv_one l) (by omega) (by omega) hsz0 ?_; intro v1 w1 hown1 hg1 _; have B1 := hB.grown hg1 (Nat.le_of_succ_le hsz0) (fun k hk => Nat.le_of_succ_le (hown0.lt k hk).1); have m1 := k1.grown hg1 hne0; obtain ⟨p0, p1, p2⟩ := at3 m1)
    rw [Nat.zero_add, List.nil_append] at hown1
    refine (rcheck_any A n c l x _ (hA.below B1) (by omega)).mono ?_
    rintro e w2 ⟨rfl, hb2⟩
    have B2 := B1.trans (hb2.mono B1.size)
    have hown2 := own_below hown1 hb2
    have m2 := m1.below hb2 m1.lt
    clear hown1
    obtain ⟨A2, c2, hv2, hc2, _, hr2⟩ := own_rdn hown2
    rw [hv2] at hown2
    rw [hv2]
    clear hv2
    rw [HC.out]
    obtain ⟨s0, s1, s2⟩ := at3 m2
    have B2' := B2.alloc B2.size (.cells #[.int .u16 x.s, .int .u32 x.i, .int .u32 x.q] 46)
    have m2' := m2.alloc (.cells #[.int .u16 x.s, .int .u32 x.i, .int .u32 x.q] 46)
    obtain ⟨q0, q1, q2⟩ := at3 m2'
    have mr : Blk (w2.alloc (.cells #[.int .u16 x.s, .int .u32 x.i, .int .u32 x.q] 46)) w2.heap.size 46 #[.int .u16 x.s, .int .u32 x.i, .int .u32 x.q] := Blk.new _ _ _
    have hown2' := hown2.alloc (.cells #[.int .u16 x.s, .int .u32 x.i, .int .u32 x.q] 46)
    go_wp2_with fail
    refine (rrow_any A n c l x.s _ (hA.below B2') (by omega)).mono ?_
    rintro e w3 ⟨rfl, hb3⟩
    rw [HR.out]
    have B3 := B2'.trans (hb3.mono B2'.size)
    have hown3 := own_below hown2' hb3
    have mr3 := mr.below hb3 mr.lt
    obtain ⟨u0, u1, u2⟩ := at3 mr3
    have hown3X := hown3.alloc (.cells #[.int .u16 x.s, .int .u32 x.i, .int .u32 x.q] 46)
    have hsz3 : w.heap.size + 1 ≤ (w3.alloc (.cells #[.int .u16 x.s, .int .u32 x.i, .int .u32 x.q] 46)).heap.size := by have := (m2'.below hb3 m2'.lt).lt; simp; omega
    have hX := rd3_one w3 x 46
    have B3X := B3.alloc B3.size (.cells #[.int .u16 x.s, .int .u32 x.i, .int .u32 x.q] 46)
    go_wp2_with (at_builtin; refine wpList_append_rd _ rfl (.tmp 33) (.tmp 35) _ rfl (w.heap.size + 1) 46 (.agg #[.int .u16 0, .int .u32 0, .int .u32 0]) 3 12 underR infoR rfl (by omega) (.slice A2 n c2) n (mv l) rfl hown3X (some ⟨w3.heap.size, 0, none⟩) 1 1 (mv [x]) rfl hX (mv_one [x]) (by omega) (by omega) hsz3 ?_; intro v4 w4 hown4 hg4 _; have B4 := B3X.grown hg4 (Nat.le_of_succ_le hsz3) (fun k hk => Nat.le_of_succ_le (hown3.lt k hk).1))
    go_ret2
    rw [← mv_append] at hown4
    rw [HA.out, List.length_append, List.length_singleton, hlen]
    exact ⟨_, rfl, ownsRow_weak hown4 (Nat.le_succ _), B4⟩
  · have HC := hide hc
    have HR := hide hr
    have HA := hide ha
    have hkn : (k : Int) < (n : Int) := by omega
    clear hc hr ha
    go_enter Try.func17, Try.ntmps17
    go_wp2_with (at_builtin; refine wpList_append_rd _ rfl (.tmp 10) (.tmp 11) _ rfl (w.heap.size + 1) 46 (.agg #[.int .u16 0, .int .u32 0, .int .u32 0]) 3 12 underR infoR rfl (by omega) _ 0 [] rfl hown0 A n c (mv l) rfl hA0 (mv_one l) (by omega) (by omega) hsz0 ?_; intro v1 w1 hown1 hg1 _; have B1 := hB.grown hg1 (Nat.le_of_succ_le hsz0) (fun k hk => Nat.le_of_succ_le (hown0.lt k hk).1); have m1 := k1.grown hg1 hne0; obtain ⟨p0, p1, p2⟩ := at3 m1)
    rw [Nat.zero_add, List.nil_append] at hown1
    refine (rcheck_any A n c l x _ (hA.below B1) (by omega)).mono ?_
    rintro e w2 ⟨rfl, hb2⟩
    have B2 := B1.trans (hb2.mono B1.size)
    have hown2 := own_below hown1 hb2
    have m2 := m1.below hb2 m1.lt
    clear hown1
    obtain ⟨A2, c2, hv2, hc2, _, hr2⟩ := own_rdn hown2
    rw [hv2] at hown2
    rw [hv2]
    clear hv2
    rw [HC.out]
    obtain ⟨s0, s1, s2⟩ := at3 m2
    have B2' := B2.alloc B2.size (.cells #[.int .u16 x.s, .int .u32 x.i, .int .u32 x.q] 46)
    have m2' := m2.alloc (.cells #[.int .u16 x.s, .int .u32 x.i, .int .u32 x.q] 46)
    obtain ⟨q0, q1, q2⟩ := at3 m2'
    have mr : Blk (w2.alloc (.cells #[.int .u16 x.s, .int .u32 x.i, .int .u32 x.q] 46)) w2.heap.size 46 #[.int .u16 x.s, .int .u32 x.i, .int .u32 x.q] := Blk.new _ _ _
    have hown2' := hown2.alloc (.cells #[.int .u16 x.s, .int .u32 x.i, .int .u32 x.q] 46)
    go_wp2_with fail
    refine (rrow_any A n c l x.s _ (hA.below B2') (by omega)).mono ?_
    rintro e w3 ⟨rfl, hb3⟩
    rw [HR.out]
    have B3 := B2'.trans (hb3.mono B2'.size)
    have hown3 := own_below hown2' hb3
    have mr3 := mr.below hb3 mr.lt
    obtain ⟨u0, u1, u2⟩ := at3 mr3
    rcases hown3.2 with ⟨_, h0⟩ | ⟨g, cap, cur, hv3, hg, _⟩
    · omega
    · rw [hv3] at hown3
      rw [hv3]
      obtain ⟨y, r0, r1, r2⟩ := own_mcell hown3 hk
      have f0 := hown3.frozenAt (k * 3)
      have f1 := hown3.frozenAt (k * 3 + 1)
      have f2 := hown3.frozenAt (k * 3 + 2)
      have hgw : w.heap.size ≤ g := Nat.le_of_succ_le hg
      have hfin := own_mset hown3 k x hk
      have B4 := ((B3.setCell (p := ⟨g, k * 3, none⟩) hgw (.int .u16 x.s)).setCell (p := ⟨g, k * 3 + 1, none⟩) hgw (.int .u32 x.i)).setCell (p := ⟨g, k * 3 + 2, none⟩) hgw (.int .u32 x.q)
      clear hown3 hown2 hown2' hr2
      go_wp2
      go_ret2
      rw [HA.out, List.length_set, hlen]
      exact ⟨_, rfl, ownsRow_weak hfin (Nat.le_succ _), B4⟩
end Go.Proofs.Ytajhfmioidmacaa
