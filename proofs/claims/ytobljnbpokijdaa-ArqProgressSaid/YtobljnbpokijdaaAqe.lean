/-
  The walks of the small functions of the package arq, of its reference and of its laws: New, Blank, Idle, Same, SamePacket, SamePackets, SamePDU, copied. Each function's contract.
-/
import Derived.Test.YtobljnbpokijdaaAqd
namespace Go.Proofs.Ytobljnbpokijdaa
set_option linter.unusedVariables false
set_option linter.unusedSimpArgs false
open Go.RowKit

theorem own_drew {w : World} {base : Nat} {e : TypeId} {size : Nat} {v : Value} {n : Nat} {xs : List Value} (h : w.ownsRow base e size v n xs) : w.drew.ownsRow base e size v n xs := h
theorem new_any (w : World) : Calls Try.prog 8 #[] w fun e w' => e = .returned (.agg #[.int .i64 0, .int .i64 0, .slice none 0 0, .bool false, .bool false, .int .i64 0, .int .i64 0]) ∧ Below w.heap.size w w' := by
  have h1 : Blk (w.alloc (.cells #[.int .i64 0, .int .i64 0, .slice none 0 0, .bool false, .bool false, .int .i64 0, .int .i64 0] 26)) w.heap.size 26 #[.int .i64 0, .int .i64 0, .slice none 0 0, .bool false, .bool false, .int .i64 0, .int .i64 0] := Blk.new _ _ _
  go_enter Try.func8, Try.ntmps8
  go_wp2
  exact bodyPost_ret (run_res_one rfl rfl h1 _ Try.underlying26 rfl (by kernel_rfl)) rfl ⟨rfl, (Below.refl _ _).alloc (Nat.le_refl _) _⟩
theorem rnew_any (w : World) : Calls Try.prog 9 #[] w fun e w' => e = .returned (.agg #[.int .i64 0, .int .i64 0, .slice none 0 0, .bool false, .bool false, .int .i64 0, .int .i64 0]) ∧ Below w.heap.size w w' := by
  have h1 : Blk (w.alloc (.cells #[.int .i64 0, .int .i64 0, .slice none 0 0, .bool false, .bool false, .int .i64 0, .int .i64 0] 26)) w.heap.size 26 #[.int .i64 0, .int .i64 0, .slice none 0 0, .bool false, .bool false, .int .i64 0, .int .i64 0] := Blk.new _ _ _
  go_enter Try.func9, Try.ntmps9
  go_wp2
  exact bodyPost_ret (run_res_one rfl rfl h1 _ Try.underlying26 rfl (by kernel_rfl)) rfl ⟨rfl, (Below.refl _ _).alloc (Nat.le_refl _) _⟩
theorem rb_any (w : World) : Calls Try.prog 25 #[] w fun e w' => e = .returned (.agg #[.int .i64 1, .slice none 0 0]) ∧ Below w.heap.size w w' := by
  have h1 : Blk (w.alloc (.cells #[.int .i64 1, .slice none 0 0] 30)) w.heap.size 30 #[.int .i64 1, .slice none 0 0] := Blk.new _ _ _
  go_enter Try.func25, Try.ntmps25
  go_wp2
  exact bodyPost_ret (run_res_one rfl rfl h1 _ Try.underlying30 rfl (by kernel_rfl)) rfl ⟨rfl, (Below.refl _ _).alloc (Nat.le_refl _) _⟩
theorem idle_any (sn ne ack tak : Int) (op em : Bool) (Q : Option Addr) (m cap : Nat) (w : World) :
    Calls Try.prog 20 #[.agg #[.int .i64 sn, .int .i64 ne, .slice Q m cap, .bool op, .bool em, .int .i64 ack, .int .i64 tak]] w fun e w' => e = .returned (.bool ((m : Int) == 0)) ∧ Below w.heap.size w w' := by
  have hB : Below w.heap.size w (w.alloc (.cells #[.int .i64 sn, .int .i64 ne, .slice Q m cap, .bool op, .bool em, .int .i64 ack, .int .i64 tak] 26)) := (Below.refl _ _).alloc (Nat.le_refl _) _
  go_enter Try.func20, Try.ntmps20
  go_wp2
  go_ret
  exact ⟨rfl, hB⟩
theorem ridle_any (sn ne ack tak : Int) (op em : Bool) (Q : Option Addr) (m cap : Nat) (w : World) :
    Calls Try.prog 21 #[.agg #[.int .i64 sn, .int .i64 ne, .slice Q m cap, .bool op, .bool em, .int .i64 ack, .int .i64 tak]] w fun e w' => e = .returned (.bool ((m : Int) == 0)) ∧ Below w.heap.size w w' := by
  have hB : Below w.heap.size w (w.alloc (.cells #[.int .i64 sn, .int .i64 ne, .slice Q m cap, .bool op, .bool em, .int .i64 ack, .int .i64 tak] 26)) := (Below.refl _ _).alloc (Nat.le_refl _) _
  go_enter Try.func21, Try.ntmps21
  go_wp2
  go_ret
  exact ⟨rfl, hB⟩
set_option maxHeartbeats 400000 in
theorem same_any (A C : Option Addr) (n m c d : Nat) (la lb : List Nat) (w : World) (hA : Rd w 1 A n (bv la)) (hC : Rd w 1 C m (bv lb)) (ha : ∀ x ∈ la, x < 256) (hb : ∀ x ∈ lb, x < 256) :
    Calls Try.prog 32 #[.slice A n c, .slice C m d] w fun e w' => e = .returned (.bool (decide (la = lb))) ∧ w = w' := by
  have k1 := run_bstr hA 28 5 9 under8 Try.underlying5 Try.underlying9 c
  have k2 := run_bstr hC 28 5 9 under8 Try.underlying5 Try.underlying9 d
  go_enter Try.func32, Try.ntmps32
  go_wp2
  go_ret
  exact ⟨ret_bool (bstr_beq la lb ha hb), rfl⟩
set_option maxHeartbeats 400000 in
theorem samepk_any (id : Int) (A C : Option Addr) (n m c d : Nat) (l : List Nat) (w : World) (hA : Rd w 1 A n (bv l)) (hC : Rd w 1 C m (bv l)) (ha : ∀ x ∈ l, x < 256) :
    Calls Try.prog 18 #[.agg #[.int .i64 id, .slice A n c], .agg #[.int .i64 id, .slice C m d]] w fun e w' => e = .returned (.bool true) ∧ Below w.heap.size w w' := by
  have hB : Below w.heap.size w ((w.alloc (.cells #[.int .i64 id, .slice A n c] 30)).alloc (.cells #[.int .i64 id, .slice C m d] 30)) := ((Below.refl _ _).alloc (Nat.le_refl _) _).alloc (by simp) _
  have hA1 := hA.below hB
  have hC1 := hC.below hB
  go_enter Try.func18, Try.ntmps18
  go_wp2_with fail
  refine (same_any A C n m c d l l _ hA1 hC1 ha ha).mono ?_
  rintro e w1 ⟨rfl, rfl⟩
  rw [decide_eq_true rfl]
  go_wp2
  go_ret
  exact ⟨rfl, hB⟩
set_option maxHeartbeats 1000000 in
theorem samepks_any (A C : Option Addr) (n m c d : Nat) (ps qs : List Pk) (w : World) (hA : PRd w A n ps) (hC : PRd w C m qs) (he : ps.map Pk.abs = qs.map Pk.abs) (hn : n ≤ 100000) :
    Calls Try.prog 24 #[.slice A n c, .slice C m d] w fun e w' => e = .returned (.bool true) ∧ Below w.heap.size w w' := by
  obtain rfl : m = n := by
    have := congrArg List.length he
    simp only [List.length_map, hA.len, hC.len] at this
    exact this.symm
  have HE := hide he
  clear he
  go_enter Try.func24, Try.ntmps24
  go_wp2
  go_loopw [5] (fun i wr => ∃ k : Nat, k ≤ m ∧ i = .int .i64 k ∧ Below w.heap.size w wr) (fun i _ => m - (intOf i).toNat)
  case atStart => exact ⟨0, Nat.zero_le _, rfl, Below.refl _ _⟩
  case round =>
    obtain ⟨k, hk, rfl, hbe⟩ := hrel
    by_cases hlt : k < m
    · obtain ⟨b, o, p, rfl, hbs, HX, p0, p1, hp⟩ := (hA.below hbe).pk hlt
      obtain ⟨b2, o2, q, rfl, hbs2, HY, q0, q1, hq⟩ := (hC.below hbe).pk hlt
      obtain ⟨id, A1, n1, c1, l1⟩ := p
      obtain ⟨id2, A2, n2, c2, l2⟩ := q
      have hpq : (id, l1) = (id2, l2) := by
        have h := congrArg (fun l => l[k]?) HE.out
        simp only [List.getElem?_map, HX.out, HY.out, Option.map_some, Pk.abs, Option.some.injEq] at h
        exact h
      injection hpq with e1 e2
      subst e1
      subst e2
      simp only at p0 p1 q0 q1
      have hkm : (k : Int) < (m : Int) := by omega
      have F : ∀ {w' : World}, Below wr.heap.size wr w' → w'.cell? ⟨b, o + k * 2, none⟩ = some (.int .i64 id) ∧ w'.cell? ⟨b, o + k * 2 + 1, none⟩ = some (.slice A1 n1 c1) ∧ w'.cell? ⟨b2, o2 + k * 2, none⟩ = some (.int .i64 id) ∧ w'.cell? ⟨b2, o2 + k * 2 + 1, none⟩ = some (.slice A2 n2 c2) ∧ Below wr.heap.size wr w' :=
        fun h => ⟨(h.cell (p := ⟨b, o + k * 2, none⟩) hbs).trans p0, (h.cell (p := ⟨b, o + k * 2 + 1, none⟩) hbs).trans p1, (h.cell (p := ⟨b2, o2 + k * 2, none⟩) hbs2).trans q0, (h.cell (p := ⟨b2, o2 + k * 2 + 1, none⟩) hbs2).trans q1, h⟩
      have D1 := F (Below.refl wr.heap.size wr).drew
      go_wp2_with fail
      go_region_held3 (fun w' => w'.cell? ⟨b, o + k * 2, none⟩ = some (.int .i64 id) ∧ w'.cell? ⟨b, o + k * 2 + 1, none⟩ = some (.slice A1 n1 c1) ∧ w'.cell? ⟨b2, o2 + k * 2, none⟩ = some (.int .i64 id) ∧ w'.cell? ⟨b2, o2 + k * 2 + 1, none⟩ = some (.slice A2 n2 c2) ∧ Below wr.heap.size wr w') (first | assumption | exact D1 | exact F2) (first
        | (go_at_call 18; (refine (samepk_any id A1 A2 n1 n2 c1 c2 l1 _ hp.1.drew hq.1.drew hp.2.1).mono ?_); rintro e w2 ⟨rfl, hb2⟩; have B2 : Below wr.heap.size wr w2 := ((Below.refl wr.heap.size wr).drew).trans hb2; have F2 := F B2))
      go_wp2
      go_roundw
      case rel => exact ⟨k + 1, by omega, by go_num, hbe.trans (B2.mono hbe.size)⟩
      case measure => simp [intOf]; omega
    · obtain rfl : k = m := by omega
      go_wp2
      go_ret
      exact ⟨rfl, hbe⟩
set_option maxHeartbeats 1000000 in
theorem samearq_any (sn ne ack tak : Int) (op em : Bool) (A C : Option Addr) (n m c d : Nat) (ps qs : List Pk) (w : World) (hA : PRd w A n ps) (hC : PRd w C m qs) (he : ps.map Pk.abs = qs.map Pk.abs) (hn : n ≤ 100000) :
    Calls Try.prog 19 #[.agg #[.int .i64 sn, .int .i64 ne, .slice A n c, .bool op, .bool em, .int .i64 ack, .int .i64 tak], .agg #[.int .i64 sn, .int .i64 ne, .slice C m d, .bool op, .bool em, .int .i64 ack, .int .i64 tak]] w fun e w' => e = .returned (.bool true) ∧ Below w.heap.size w w' := by
  have hB : Below w.heap.size w ((w.alloc (.cells #[.int .i64 sn, .int .i64 ne, .slice A n c, .bool op, .bool em, .int .i64 ack, .int .i64 tak] 26)).alloc (.cells #[.int .i64 sn, .int .i64 ne, .slice C m d, .bool op, .bool em, .int .i64 ack, .int .i64 tak] 26)) := ((Below.refl _ _).alloc (Nat.le_refl _) _).alloc (by simp) _
  have k1 : Blk ((w.alloc (.cells #[.int .i64 sn, .int .i64 ne, .slice A n c, .bool op, .bool em, .int .i64 ack, .int .i64 tak] 26)).alloc (.cells #[.int .i64 sn, .int .i64 ne, .slice C m d, .bool op, .bool em, .int .i64 ack, .int .i64 tak] 26)) w.heap.size 26 #[.int .i64 sn, .int .i64 ne, .slice A n c, .bool op, .bool em, .int .i64 ack, .int .i64 tak] := (Blk.new _ _ _).alloc _
  have k2 : Blk ((w.alloc (.cells #[.int .i64 sn, .int .i64 ne, .slice A n c, .bool op, .bool em, .int .i64 ack, .int .i64 tak] 26)).alloc (.cells #[.int .i64 sn, .int .i64 ne, .slice C m d, .bool op, .bool em, .int .i64 ack, .int .i64 tak] 26)) (w.heap.size + 1) 26 #[.int .i64 sn, .int .i64 ne, .slice C m d, .bool op, .bool em, .int .i64 ack, .int .i64 tak] := blk_new2 (by simp)
  have hA1 := hA.below hB
  have hC1 := hC.below hB
  have HE := hide he
  clear he
  go_enter Try.func19, Try.ntmps19
  go_wp2_with fail
  refine (samepks_any A C n m c d ps qs _ hA1 hC1 HE.out hn).mono ?_
  rintro e w1 ⟨rfl, hb1⟩
  have m1 := k1.below hb1 k1.lt
  have m2 := k2.below hb1 k2.lt
  have r3 := m1.cell 3
  have r4 := m1.cell 4
  have r5 := m1.cell 5
  have r6 := m1.cell 6
  have s3 := m2.cell 3
  have s4 := m2.cell 4
  have s5 := m2.cell 5
  have s6 := m2.cell 6
  simp only [List.getElem?_toArray, List.getElem?_cons_zero, List.getElem?_cons_succ] at r3 r4 r5 r6 s3 s4 s5 s6
  cases op <;> cases em
  all_goals
    go_wp2
    go_ret
    exact ⟨rfl, hB.trans (hb1.mono hB.size)⟩
set_option maxHeartbeats 1000000 in
theorem samepdu_any (sn ne md id : Int) (A C : Option Addr) (n m c d : Nat) (l : List Nat) (w : World) (hA : Rd w 1 A n (bv l)) (hC : Rd w 1 C m (bv l)) (ha : ∀ x ∈ l, x < 256) :
    Calls Try.prog 15 #[.agg #[.int .i64 sn, .int .i64 ne, .int .i64 md, .int .i64 id, .slice A n c], .agg #[.int .i64 sn, .int .i64 ne, .int .i64 md, .int .i64 id, .slice C m d]] w fun e w' => e = .returned (.bool true) ∧ Below w.heap.size w w' := by
  have hB : Below w.heap.size w ((w.alloc (.cells #[.int .i64 sn, .int .i64 ne, .int .i64 md, .int .i64 id, .slice A n c] 32)).alloc (.cells #[.int .i64 sn, .int .i64 ne, .int .i64 md, .int .i64 id, .slice C m d] 32)) := ((Below.refl _ _).alloc (Nat.le_refl _) _).alloc (by simp) _
  have hA1 := hA.below hB
  have hC1 := hC.below hB
  go_enter Try.func15, Try.ntmps15
  go_wp2_with fail
  refine (samepk_any id A C n m c d l _ hA1 hC1 ha).mono ?_
  rintro e w1 ⟨rfl, hb1⟩
  go_wp2
  go_ret
  exact ⟨rfl, hB.trans (hb1.mono hB.size)⟩
set_option maxHeartbeats 1000000 in
theorem copiedp_any (id : Int) (A : Option Addr) (n c : Nat) (l : List Nat) (w : World) (hA : Rd w 1 A n (bv l)) (hn : n ≤ big) :
    Calls Try.prog 10 #[.agg #[.int .i64 id, .slice A n c]] w fun e w' => ∃ A' c', e = .returned (.agg #[.int .i64 id, .slice A' n c']) ∧ w'.ownsRow w.heap.size 5 1 (.slice A' n c') n (bv l) ∧ n ≤ c' ∧ Below w.heap.size w w' := by
  have B0 : Below w.heap.size w (((w.alloc (.cells #[.int .i64 id, .slice A n c] 30)).alloc (.cells #[.int .i64 0, .slice none 0 0] 30))).drew := (((Below.refl _ _).alloc (Nat.le_refl _) _).alloc (by simp) _).drew
  have B0' := B0.alloc B0.size (.cells #[] 5)
  have k1 : Blk ((((w.alloc (.cells #[.int .i64 id, .slice A n c] 30)).alloc (.cells #[.int .i64 0, .slice none 0 0] 30)).alloc (.cells #[] 5))).drew w.heap.size 30 #[.int .i64 id, .slice A n c] := (((Blk.new _ _ _).alloc _).alloc _).drew
  have k2 : Blk ((((w.alloc (.cells #[.int .i64 id, .slice A n c] 30)).alloc (.cells #[.int .i64 0, .slice none 0 0] 30)).alloc (.cells #[] 5))).drew (w.heap.size + 1) 30 #[.int .i64 0, .slice none 0 0] := ((blk_new2 (by simp)).alloc _).drew
  have hown0 : ((((w.alloc (.cells #[.int .i64 id, .slice A n c] 30)).alloc (.cells #[.int .i64 0, .slice none 0 0] 30)).alloc (.cells #[] 5))).drew.ownsRow (w.heap.size + 2) 5 1 (.slice (some ⟨w.heap.size + 1 + 1, 0, none⟩) 0 0) 0 [] := own_drew (own_made2 (by simp) (by omega))
  have hA0 := hA.below B0'
  have hz0 : w.heap.size + 2 ≤ ((((w.alloc (.cells #[.int .i64 id, .slice A n c] 30)).alloc (.cells #[.int .i64 0, .slice none 0 0] 30)).alloc (.cells #[] 5))).drew.heap.size := by simp
  have hz1 := Nat.le_trans (Nat.le_add_right _ 2) hz0
  have hne1 : some w.heap.size ≠ (Value.slice (some ⟨w.heap.size + 1 + 1, 0, none⟩) 0 0).ownBlock := by simp [Value.ownBlock]; omega
  have hne2 : some (w.heap.size + 1) ≠ (Value.slice (some ⟨w.heap.size + 1 + 1, 0, none⟩) 0 0).ownBlock := by simp [Value.ownBlock]
  have hle0 : ∀ k, (Value.slice (some ⟨w.heap.size + 1 + 1, 0, none⟩) 0 0).ownBlock = some k → w.heap.size ≤ k := by intro k hk; simp [Value.ownBlock] at hk; omega
  go_enter Try.func10, Try.ntmps10
  go_wp2_with fail
  go_region_law (refine step_append_rd _ rfl (.tmp 5) (.tmp 7) _ rfl (w.heap.size + 2) 5 (.int .u8 0) 1 1 under8 info8 rfl (by omega) (.slice (some ⟨w.heap.size + 1 + 1, 0, none⟩) 0 0) 0 [] (by simp [Act.eval, Act.put]) hown0 A n c (bv l) (by simp [Act.eval, Act.put]) hA0 (bv_one l) (big0 hn) (big1 hn) hz0 ?_; intro v1 w1 hown1 hg1 _; rw [Nat.zero_add, List.nil_append] at hown1; have n1 := k1.grown hg1 hne1; have n2 := k2.grown hg1 hne2; have B1 := B0'.grown hg1 hz1 hle0; obtain ⟨A1, c1, hv1, hc1, _, _⟩ := own_rdn hown1; rw [hv1] at hown1; rw [hv1]; have g0 := n2.frozen 0; have g1 := n2.frozen 1; have s0 := n2.cell 0; have s1 := n2.cell 1; have r0 := n1.cell 0; have r1 := n1.cell 1; simp only [List.getElem?_toArray, List.getElem?_cons_zero, List.getElem?_cons_succ] at r0 r1 s0 s1)
  all_goals
    have e2 : (Value.slice A1 n c1).ownBlock ≠ some (w.heap.size + 1) := fun e => by have := (hown1.lt _ e).1; omega
    have h4 : Blk ((w1.setCell ⟨w.heap.size + 1, 0, none⟩ (.int .i64 id)).setCell ⟨w.heap.size + 1, 1, none⟩ (.slice A1 n c1)) (w.heap.size + 1) 30 #[.int .i64 id, .slice A1 n c1] := by
      simpa using ((n2.set_ 0 (.int .i64 id)).set_ 1 (.slice A1 n c1))
    go_wp2
    refine bodyPost_ret (run_res_one rfl rfl h4 _ Try.underlying30 rfl (by kernel_rfl)) rfl ⟨_, _, rfl, ?_, hc1, ((B1.setCell (p := ⟨w.heap.size + 1, 0, none⟩) (by simp) _).setCell (p := ⟨w.heap.size + 1, 1, none⟩) (by simp) _)⟩
    exact ownsRow_weak (own_far (own_far hown1 e2 _) e2 _) (by omega)
end Go.Proofs.Ytobljnbpokijdaa
