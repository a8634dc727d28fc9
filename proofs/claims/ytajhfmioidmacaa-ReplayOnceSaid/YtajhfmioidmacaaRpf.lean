/-
  The walks of recent and Remember. Each function's contract.
-/
import Derived.Test.YtajhfmioidmacaaRpe
namespace Go.Proofs.Ytajhfmioidmacaa
set_option linter.unusedVariables false
set_option linter.unusedSimpArgs false
open Go.RowKit

/-- The size of a cache; kept shut, so that nothing counts up to it. -/
def CS : Nat := 256
theorem cs_eq : CS = 256 := rfl
theorem Rd.mdrop_at {w : World} {b o n : Nat} {l : List Msg} (h : Rd w 3 (some ⟨b, o, none⟩) n (mv l)) {k : Nat} (hk : k ≤ n) : Rd w 3 (some ⟨b, o + k * 3, none⟩) (n - k) (mv (l.drop k)) :=
  h.mdrop hk _ (fun _ b' o' e => by
    injection e with e
    injection e with e1 e2
    subst e1
    subst e2
    rfl)
set_option maxHeartbeats 1000000 in
theorem recent_any (A : Option Addr) (n c : Nat) (l : List Msg) (w : World) (hA : Rd w 3 A n (mv l)) (hnc : n ≤ c) (hn : n ≤ 100000) :
    Calls Try.prog 23 #[.agg #[.slice A n c, .int .i64 256]] w fun e w' => ∃ v, e = .returned v ∧ w'.ownsRow w.heap.size 26 3 v (n - (n - CS)) (mv (l.drop (n - CS))) ∧ Below w.heap.size w w' := by
  have hB : Below w.heap.size w (w.alloc (.cells #[.slice A n c, .int .i64 256] 42)) := (Below.refl _ _).alloc (Nat.le_refl _) _
  by_cases hbig : n ≤ 256
  · have hmax : max (0 : Int) ((n : Int) - 256) = 0 := by omega
    cases A with
    | none =>
      go_enter Try.func23, Try.ntmps23
      go_wp2_with fail
      refine (clones_any none n c l _ (hA.below hB) (by omega)).mono ?_
      rintro e w1 ⟨v1, rfl, hown, hb1⟩
      go_wp2
      go_ret
      rw [show n - CS = 0 by have := cs_eq; omega]
      exact ⟨_, rfl, ownsRow_weak hown hB.size, hB.trans (hb1.mono hB.size)⟩
    | some ad =>
      go_enter Try.func23, Try.ntmps23
      go_wp2_with fail
      refine (clones_any (some ad) n c l _ (hA.below hB) (by omega)).mono ?_
      rintro e w1 ⟨v1, rfl, hown, hb1⟩
      go_wp2
      go_ret
      rw [show n - CS = 0 by have := cs_eq; omega]
      exact ⟨_, rfl, ownsRow_weak hown hB.size, hB.trans (hb1.mono hB.size)⟩
  · have hmax : max (0 : Int) ((n : Int) - 256) = ((n - 256 : Nat) : Int) := by omega
    obtain ⟨b, o, rfl, hb, _⟩ := hA.2 (by omega)
    have hd := hA.mdrop_at (k := n - 256) (by omega)
    rw [cs_eq]
    go_enter Try.func23, Try.ntmps23
    go_wp2_with fail
    refine (clones_any (some ⟨b, o + (n - 256) * 3, none⟩) (n - (n - 256)) (c - (n - 256)) (l.drop (n - 256)) _ (hd.below hB) (by omega)).mono ?_
    rintro e w1 ⟨v1, rfl, hown, hb1⟩
    go_wp2
    go_ret
    exact ⟨_, rfl, ownsRow_weak hown hB.size, hB.trans (hb1.mono hB.size)⟩
theorem own_below {w w' : World} {base : Nat} {e : TypeId} {size : Nat} {v : Value} {n : Nat} {xs : List Value} (h : w.ownsRow base e size v n xs) (hb : Below w.heap.size w w') : w'.ownsRow base e size v n xs := by
  refine ⟨h.1, ?_⟩
  rcases h.2 with h | ⟨g, cap, cur, rfl, h2, h3, h4⟩
  · exact .inl h
  · exact .inr ⟨g, cap, cur, rfl, h2, (hb.block g (Array.getElem?_eq_some_iff.1 h3).1).trans h3, h4⟩
/-- A cache with a message. -/
def rem (l : List Msg) (x : Msg) : List Msg := (if x ∈ l then l else l ++ [x]).drop ((if x ∈ l then l else l ++ [x]).length - CS)
theorem rem_in {l : List Msg} {x : Msg} (h : x ∈ l) : rem l x = l.drop (l.length - CS) := by unfold rem; rw [if_pos h]
theorem rem_new {l : List Msg} {x : Msg} (h : x ∉ l) : rem l x = (l ++ [x]).drop (l.length + 1 - CS) := by unfold rem; rw [if_neg h, List.length_append]; rfl
set_option maxHeartbeats 1000000 in
theorem remember_any (A : Option Addr) (n c : Nat) (l : List Msg) (x : Msg) (w : World) (hA : Rd w 3 A n (mv l)) (hnc : n ≤ c) (hn : n ≤ 10000) :
    Calls Try.prog 12 #[.slice A n c, .agg #[.int .u16 x.s, .int .u32 x.i, .int .u32 x.q]] w fun e w' => ∃ v, e = .returned v ∧ w'.ownsRow w.heap.size 26 3 v (rem l x).length (mv (rem l x)) ∧ Below w.heap.size w w' := by
  have hlen := hA.mlen
  have hB : Below w.heap.size w ((w.alloc (.cells #[.int .u16 x.s, .int .u32 x.i, .int .u32 x.q] 26)).alloc (.cells #[.slice A n c, .int .i64 256] 42)) := ((Below.refl _ _).alloc (Nat.le_refl _) _).alloc (by simp) _
  have k1 : Blk ((w.alloc (.cells #[.int .u16 x.s, .int .u32 x.i, .int .u32 x.q] 26)).alloc (.cells #[.slice A n c, .int .i64 256] 42)) w.heap.size 26 #[.int .u16 x.s, .int .u32 x.i, .int .u32 x.q] := (Blk.new _ _ _).alloc _
  have k2 : Blk ((w.alloc (.cells #[.int .u16 x.s, .int .u32 x.i, .int .u32 x.q] 26)).alloc (.cells #[.slice A n c, .int .i64 256] 42)) (w.heap.size + 1) 42 #[.slice A n c, .int .i64 256] := blk_new2 (by simp)
  by_cases hm : x ∈ l
  · have HM := hide hm
    have HR := hide (rem_in hm)
    clear hm
    go_enter Try.func12, Try.ntmps12
    go_wp2_with fail
    refine (seen_any A n c l x _ (hA.below hB) (by omega)).mono ?_
    rintro e w1 ⟨rfl, hb1⟩
    rw [decide_eq_true HM.out]
    have B1 := hB.trans (hb1.mono hB.size)
    have m2 := k2.below hb1 k2.lt
    have q0 := m2.cell 0
    have q1 := m2.cell 1
    simp only [List.getElem?_toArray, List.getElem?_cons_zero, List.getElem?_cons_succ] at q0 q1
    go_wp2_with fail
    refine (recent_any A n c l _ (hA.below B1) hnc (by omega)).mono ?_
    rintro e w2 ⟨v2, rfl, hown2, hb2⟩
    go_wp2
    go_ret
    rw [HR.out, List.length_drop, hlen]
    exact ⟨_, rfl, ownsRow_weak hown2 B1.size, B1.trans (hb2.mono B1.size)⟩
  · have HM := hide hm
    have HR := hide (rem_new hm)
    clear hm
    go_enter Try.func12, Try.ntmps12
    go_wp2_with fail
    refine (seen_any A n c l x _ (hA.below hB) (by omega)).mono ?_
    rintro e w1 ⟨rfl, hb1⟩
    rw [decide_eq_false HM.out]
    have B1 := hB.trans (hb1.mono hB.size)
    have m1 := k1.below hb1 k1.lt
    have m2 := k2.below hb1 k2.lt
    have q0 := m2.cell 0
    have q1 := m2.cell 1
    obtain ⟨p0, p1, p2⟩ := at3 m1
    simp only [List.getElem?_toArray, List.getElem?_cons_zero, List.getElem?_cons_succ] at q0 q1
    go_wp2_with fail
    refine (adds_any A n c 256 l x _ (hA.below B1) (by omega)).mono ?_
    rintro e w2 ⟨v2, rfl, hown2, hb2⟩
    obtain ⟨A2, c2, hv2, hc2, _, hr2⟩ := own_rdn hown2
    rw [hv2]
    have B2 := B1.trans (hb2.mono B1.size)
    have n2 := m2.below hb2 m2.lt
    have r0 := n2.cell 0
    have r1 := n2.cell 1
    have f0 := n2.frozen 0
    have f1 := n2.frozen 1
    simp only [List.getElem?_toArray, List.getElem?_cons_zero, List.getElem?_cons_succ] at r0 r1
    have B3 := (B2.setCell (p := ⟨w.heap.size + 1, 0, none⟩) (by simp) (.slice A2 (n + 1) c2)).setCell (p := ⟨w.heap.size + 1, 1, none⟩) (by simp) (.int .i64 256)
    have hfar : ∀ k, (Value.slice A2 (n + 1) c2).ownBlock = some k → w.heap.size + 2 ≤ k := by
      intro k hk
      rw [hv2] at hown2
      have h1 := (hown2.lt k hk).1
      have h2 := hb1.size
      simp at h2
      omega
    have hne : (Value.slice A2 (n + 1) c2).ownBlock ≠ some (w.heap.size + 1) := fun e => by have := hfar _ e; omega
    rw [hv2] at hown2
    have hown3 := own_far (own_far hown2 (p := ⟨w.heap.size + 1, 0, none⟩) hne (.slice A2 (n + 1) c2)) (p := ⟨w.heap.size + 1, 1, none⟩) hne (.int .i64 256)
    obtain ⟨_, _, hv3, _, _, hr3⟩ := own_rdn hown3
    injection hv3 with hv3 _ hv4
    rw [← hv3] at hr3
    clear hv3 hv4 hown2 hown3 hr2
    go_wp2_with fail
    refine (recent_any A2 (n + 1) c2 (l ++ [x]) _ hr3 hc2 (by omega)).mono ?_
    rintro e w3 ⟨v3, rfl, hown3, hb3⟩
    go_wp2
    go_ret
    rw [HR.out, List.length_drop, List.length_append, hlen]
    exact ⟨_, rfl, ownsRow_weak hown3 B3.size, B3.trans (hb3.mono B3.size)⟩
/-- What is left of a list of its own behind k elements, as the slice is spelled. -/
theorem rem_len (l : List Msg) (x : Msg) : (rem l x).length ≤ 256 := by
  unfold rem
  rw [List.length_drop]
  have := cs_eq
  omega
set_option maxHeartbeats 1000000 in
theorem rremember_any (A : Option Addr) (n c : Nat) (l : List Msg) (x : Msg) (w : World) (hA : Rd w 3 A n (mv l)) (hnc : n ≤ c) (hn : n ≤ 10000) :
    Calls Try.prog 13 #[.slice A n c, .agg #[.int .u16 x.s, .int .u32 x.i, .int .u32 x.q]] w fun e w' => ∃ A' c', e = .returned (.slice A' (rem l x).length c') ∧ Rd w' 3 A' (rem l x).length (mv (rem l x)) ∧ Below w.heap.size w w' := by
  have hlen := hA.mlen
  have hB : Below w.heap.size w ((w.alloc (.cells #[.int .u16 x.s, .int .u32 x.i, .int .u32 x.q] 26)).alloc (.cells #[] 26)) := ((Below.refl _ _).alloc (Nat.le_refl _) _).alloc (by simp) _
  have k1 : Blk ((w.alloc (.cells #[.int .u16 x.s, .int .u32 x.i, .int .u32 x.q] 26)).alloc (.cells #[] 26)) w.heap.size 26 #[.int .u16 x.s, .int .u32 x.i, .int .u32 x.q] := (Blk.new _ _ _).alloc _
  have hown0 : ((w.alloc (.cells #[.int .u16 x.s, .int .u32 x.i, .int .u32 x.q] 26)).alloc (.cells #[] 26)).ownsRow (w.heap.size + 1) 26 3 (.slice (some ⟨w.heap.size + 1, 0, none⟩) 0 0) 0 [] := own_made2 (by simp) (Nat.le_refl _)
  have hne0 : some w.heap.size ≠ (Value.slice (some ⟨w.heap.size + 1, 0, none⟩) 0 0).ownBlock := by simp [Value.ownBlock]
  have hA0 := hA.below hB
  have hsz0 : w.heap.size + 1 ≤ ((w.alloc (.cells #[.int .u16 x.s, .int .u32 x.i, .int .u32 x.q] 26)).alloc (.cells #[] 26)).heap.size := by simp
  by_cases hm : x ∈ l
  · have HM := hide hm
    have HR := hide (rem_in hm)
    clear hm
    go_enter Try.func13, Try.ntmps13
    go_wp2_with (at_builtin; refine wpList_append_rd _ rfl (.tmp 6) (.tmp 7) _ rfl (w.heap.size + 1) 26 (.agg #[.int .u16 0, .int .u32 0, .int .u32 0]) 3 12 underS infoS rfl (by omega) _ 0 [] rfl hown0 A n c (mv l) rfl hA0 (mv_one l) (by omega) (by omega) hsz0 ?_; intro v1 w1 hown1 hg1 _; have B1 := hB.grown hg1 (Nat.le_of_succ_le hsz0) (fun k hk => Nat.le_of_succ_le (hown0.lt k hk).1); have m1 := k1.grown hg1 hne0; obtain ⟨p0, p1, p2⟩ := at3 m1)
    rw [Nat.zero_add, List.nil_append] at hown1
    refine (rseen_any A n c l x _ (hA.below B1) (by omega)).mono ?_
    rintro e w2 ⟨rfl, hb2⟩
    rw [decide_eq_true HM.out]
    obtain ⟨A1, c1, hv1, hc1, _, hr1⟩ := own_rdn hown1
    have B2 := B1.trans (hb2.mono B1.size)
    have hr2 := hr1.below hb2
    rw [hv1]
    by_cases hbig : n ≤ 256
    · have hmax : max (0 : Int) ((n : Int) - 256) = 0 := by omega
      have HR2 := hide (show rem l x = l by rw [HR.out, hlen, show n - CS = 0 by have := cs_eq; omega, List.drop_zero])
      cases A1 with
      | none =>
        go_wp2
        go_ret
        rw [HR2.out, hlen]
        exact ⟨_, _, rfl, hr2, B2⟩
      | some ad =>
        go_wp2
        go_ret
        rw [HR2.out, hlen]
        exact ⟨_, _, rfl, hr2, B2⟩
    · have hmax : max (0 : Int) ((n : Int) - 256) = ((n - 256 : Nat) : Int) := by omega
      obtain ⟨b, o, rfl, hb, _⟩ := hr2.2 (by omega)
      have hd := hr2.mdrop_at (k := n - 256) (by omega)
      go_wp2
      go_ret
      rw [HR.out, List.length_drop, hlen, cs_eq]
      exact ⟨_, _, rfl, hd, B2⟩
  · have HM := hide hm
    have HR := hide (rem_new hm)
    clear hm
    go_enter Try.func13, Try.ntmps13
    go_wp2_with (at_builtin; refine wpList_append_rd _ rfl (.tmp 6) (.tmp 7) _ rfl (w.heap.size + 1) 26 (.agg #[.int .u16 0, .int .u32 0, .int .u32 0]) 3 12 underS infoS rfl (by omega) _ 0 [] rfl hown0 A n c (mv l) rfl hA0 (mv_one l) (by omega) (by omega) hsz0 ?_; intro v1 w1 hown1 hg1 _; have B1 := hB.grown hg1 (Nat.le_of_succ_le hsz0) (fun k hk => Nat.le_of_succ_le (hown0.lt k hk).1); have m1 := k1.grown hg1 hne0; obtain ⟨p0, p1, p2⟩ := at3 m1)
    rw [Nat.zero_add, List.nil_append] at hown1
    refine (rseen_any A n c l x _ (hA.below B1) (by omega)).mono ?_
    rintro e w2 ⟨rfl, hb2⟩
    rw [decide_eq_false HM.out]
    have B2 := B1.trans (hb2.mono B1.size)
    have hown2 := own_below hown1 hb2
    have m2 := m1.below hb2 m1.lt
    obtain ⟨r0, r1, r2⟩ := at3 m2
    have hown2X := hown2.alloc (.cells #[.int .u16 x.s, .int .u32 x.i, .int .u32 x.q] 26)
    have hsz2 : w.heap.size + 1 ≤ (w2.alloc (.cells #[.int .u16 x.s, .int .u32 x.i, .int .u32 x.q] 26)).heap.size := by have := m2.lt; simp; omega
    have hX := rd3_one w2 x 26
    have B2X := B2.alloc B2.size (.cells #[.int .u16 x.s, .int .u32 x.i, .int .u32 x.q] 26)
    clear hown1
    by_cases hbig : n + 1 ≤ 256
    · have hmax : max (0 : Int) ((n : Int) + 1 - 256) = 0 := by omega
      have HR2 := hide (show rem l x = l ++ [x] by rw [HR.out, hlen, show n + 1 - CS = 0 by have := cs_eq; omega, List.drop_zero])
      have tok1 : True := trivial
      go_wp2_with (at_builtin; have _t := tok1; refine wpList_append_rd _ rfl (.tmp 13) (.tmp 15) _ rfl (w.heap.size + 1) 26 (.agg #[.int .u16 0, .int .u32 0, .int .u32 0]) 3 12 underS infoS rfl (by omega) v1 n (mv l) rfl hown2X (some ⟨w2.heap.size, 0, none⟩) 1 1 (mv [x]) rfl hX (mv_one [x]) (by omega) (by omega) hsz2 ?_; intro v3 w3 hown3 hg3 _; have B3 := B2X.grown hg3 (Nat.le_of_succ_le hsz2) (fun k hk => Nat.le_of_succ_le (hown2.lt k hk).1); obtain ⟨A3, c3, hv3, hc3, _, hr3⟩ := own_rdn hown3; rw [← mv_append] at hr3; rw [hv3]; clear tok1 _t)
      go_ret
      rw [HR2.out, List.length_append, List.length_singleton, hlen]
      exact ⟨_, _, rfl, hr3, B3⟩
    · have hmax : max (0 : Int) ((n : Int) + 1 - 256) = ((n + 1 - 256 : Nat) : Int) := by omega
      have tok1 : True := trivial
      go_wp2_with (at_builtin; have _t := tok1; refine wpList_append_rd _ rfl (.tmp 13) (.tmp 15) _ rfl (w.heap.size + 1) 26 (.agg #[.int .u16 0, .int .u32 0, .int .u32 0]) 3 12 underS infoS rfl (by omega) v1 n (mv l) rfl hown2X (some ⟨w2.heap.size, 0, none⟩) 1 1 (mv [x]) rfl hX (mv_one [x]) (by omega) (by omega) hsz2 ?_; intro v3 w3 hown3 hg3 _; have B3 := B2X.grown hg3 (Nat.le_of_succ_le hsz2) (fun k hk => Nat.le_of_succ_le (hown2.lt k hk).1); obtain ⟨A3, c3, hv3, hc3, _, hr3⟩ := own_rdn hown3; rw [← mv_append] at hr3; rw [hv3]; clear tok1 _t)
      go_ret
      rw [HR.out, List.length_drop, List.length_append, List.length_singleton, hlen, cs_eq]
      obtain ⟨b, o, rfl, hb, _⟩ := hr3.2 (by omega)
      rw [Option.map_some, Addr.add_lit]
      have hd := hr3.mdrop_at (k := n + 1 - 256) (by omega)
      exact ⟨_, _, rfl, hd, B3⟩
end Go.Proofs.Ytajhfmioidmacaa
