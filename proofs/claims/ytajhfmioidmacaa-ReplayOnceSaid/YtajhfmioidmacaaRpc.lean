/-
  The walks of Seen and of the search for a row, in the program and in the reference. Each function's contract.
-/
import Derived.Test.YtajhfmioidmacaaRpb
namespace Go.Proofs.Ytajhfmioidmacaa
set_option linter.unusedVariables false
set_option linter.unusedSimpArgs false
open Go.RowKit

theorem take_no {l : List Msg} {x y : Msg} {k : Nat} (h : l[k]? = some y) (hne : y ≠ x) (hk : x ∉ l.take k) : x ∉ l.take (k + 1) := by
  rw [take_snoc h]
  simp only [List.mem_append, List.mem_singleton, not_or]
  exact ⟨hk, fun e => hne e.symm⟩
theorem mem_at {l : List Msg} {x : Msg} {k : Nat} (h : l[k]? = some x) : x ∈ l := by
  obtain ⟨hlt, rfl⟩ := List.getElem?_eq_some_iff.1 h
  exact List.getElem_mem hlt
set_option maxHeartbeats 1000000 in
theorem index_any (A : Option Addr) (n c : Nat) (l : List Msg) (x : Msg) (w : World) (hA : Rd w 3 A n (mv l)) (hn : n ≤ 1000000) :
    Calls Try.prog 29 #[.slice A n c, .agg #[.int .u16 x.s, .int .u32 x.i, .int .u32 x.q]] w fun e w' => ∃ r : Int, e = .returned (.int .i64 r) ∧ decide (0 ≤ r) = decide (x ∈ l) ∧ Below w.heap.size w w' := by
  have hB : Below w.heap.size w (w.alloc (.cells #[.int .u16 x.s, .int .u32 x.i, .int .u32 x.q] 26)) := (Below.refl _ _).alloc (Nat.le_refl _) _
  have hbx : Blk (w.alloc (.cells #[.int .u16 x.s, .int .u32 x.i, .int .u32 x.q] 26)) w.heap.size 26 #[.int .u16 x.s, .int .u32 x.i, .int .u32 x.q] := Blk.new _ _ _
  have HL := hide hA.mlen
  go_enter Try.func29, Try.ntmps29
  go_wp2
  go_loopw [8] (fun i wr => ∃ k : Nat, k ≤ n ∧ i = .int .i64 k ∧ Hid (x ∉ l.take k) ∧ Below w.heap.size w wr ∧ Blk wr w.heap.size 26 #[.int .u16 x.s, .int .u32 x.i, .int .u32 x.q]) (fun i _ => n - (intOf i).toNat)
  case atStart => exact ⟨0, Nat.zero_le _, rfl, hide (by simp), hB, hbx⟩
  case round =>
    obtain ⟨k, hk, rfl, HT, hbe, hbk⟩ := hrel
    by_cases hlt : k < n
    · obtain ⟨b, o, y, rfl, hbs, HX, p0, p1, p2⟩ := (hA.below hbe).msg hlt
      obtain ⟨q0, q1, q2⟩ := at3 hbk
      by_cases hxy : x = y
      · subst hxy
        have hne := eql_msg_yes x
        have hm := mem_at HX.out
        go_wp2
        go_region
        go_wp2
        go_ret
        exact ⟨_, rfl, by simp [hm], hbe.drew⟩
      · have hne := eql_msg_no x y hxy
        go_wp2
        go_region
        go_wp2
        go_roundw
        case rel => exact ⟨k + 1, by omega, by go_num, hide (take_no HX.out (fun e => hxy e.symm) HT.out), hbe.drew, hbk.drew⟩
        case measure => simp [intOf]; omega
    · obtain rfl : k = n := by omega
      have hno : x ∉ l := by
        have h := HT.out
        rwa [List.take_of_length_le (by rw [HL.out]; exact Nat.le_refl _)] at h
      go_wp2
      go_ret
      exact ⟨_, rfl, by simp [hno], hbe⟩
theorem contains_any (A : Option Addr) (n c : Nat) (l : List Msg) (x : Msg) (w : World) (hA : Rd w 3 A n (mv l)) (hn : n ≤ 1000000) :
    Calls Try.prog 21 #[.slice A n c, .agg #[.int .u16 x.s, .int .u32 x.i, .int .u32 x.q]] w fun e w' => e = .returned (.bool (decide (x ∈ l))) ∧ Below w.heap.size w w' := by
  have hB : Below w.heap.size w (w.alloc (.cells #[.int .u16 x.s, .int .u32 x.i, .int .u32 x.q] 26)) := (Below.refl _ _).alloc (Nat.le_refl _) _
  go_enter Try.func21, Try.ntmps21
  go_wp2_with fail
  refine (index_any A n c l x _ (hA.below hB) hn).mono ?_
  rintro e w1 ⟨r, rfl, hr, hb⟩
  go_wp2
  go_ret
  exact ⟨rfl, hB.trans (hb.mono hB.size)⟩
theorem seen_any (A : Option Addr) (n c : Nat) (l : List Msg) (x : Msg) (w : World) (hA : Rd w 3 A n (mv l)) (hn : n ≤ 1000000) :
    Calls Try.prog 9 #[.slice A n c, .agg #[.int .u16 x.s, .int .u32 x.i, .int .u32 x.q]] w fun e w' => e = .returned (.bool (decide (x ∈ l))) ∧ Below w.heap.size w w' := by
  have hB : Below w.heap.size w (w.alloc (.cells #[.int .u16 x.s, .int .u32 x.i, .int .u32 x.q] 26)) := (Below.refl _ _).alloc (Nat.le_refl _) _
  go_enter Try.func9, Try.ntmps9
  go_wp2_with fail
  refine (contains_any A n c l x _ (hA.below hB) hn).mono ?_
  rintro e w1 ⟨rfl, hb⟩
  go_wp2
  go_ret
  exact ⟨rfl, hB.trans (hb.mono hB.size)⟩
set_option maxHeartbeats 1000000 in
theorem rseen_any (A : Option Addr) (n c : Nat) (l : List Msg) (x : Msg) (w : World) (hA : Rd w 3 A n (mv l)) (hn : n ≤ 1000000) :
    Calls Try.prog 10 #[.slice A n c, .agg #[.int .u16 x.s, .int .u32 x.i, .int .u32 x.q]] w fun e w' => e = .returned (.bool (decide (x ∈ l))) ∧ Below w.heap.size w w' := by
  have hB : Below w.heap.size w (w.alloc (.cells #[.int .u16 x.s, .int .u32 x.i, .int .u32 x.q] 26)) := (Below.refl _ _).alloc (Nat.le_refl _) _
  have hbx : Blk (w.alloc (.cells #[.int .u16 x.s, .int .u32 x.i, .int .u32 x.q] 26)) w.heap.size 26 #[.int .u16 x.s, .int .u32 x.i, .int .u32 x.q] := Blk.new _ _ _
  have HL := hide hA.mlen
  go_enter Try.func10, Try.ntmps10
  go_wp2
  go_loopw [5] (fun i wr => ∃ k : Nat, k ≤ n ∧ i = .int .i64 k ∧ Hid (x ∉ l.take k) ∧ Below w.heap.size w wr ∧ Blk wr w.heap.size 26 #[.int .u16 x.s, .int .u32 x.i, .int .u32 x.q]) (fun i _ => n - (intOf i).toNat)
  case atStart => exact ⟨0, Nat.zero_le _, rfl, hide (by simp), hB, hbx⟩
  case round =>
    obtain ⟨k, hk, rfl, HT, hbe, hbk⟩ := hrel
    by_cases hlt : k < n
    · obtain ⟨b, o, y, rfl, hbs, HX, p0, p1, p2⟩ := (hA.below hbe).msg hlt
      obtain ⟨q0, q1, q2⟩ := at3 hbk
      by_cases hxy : y = x
      · subst hxy
        have hne := eql_msg_yes y
        have hm := mem_at HX.out
        go_wp2
        go_region
        go_wp2
        go_ret
        exact ⟨ret_bool (by simp [hm]), hbe.drew⟩
      · have hne := eql_msg_no y x hxy
        go_wp2
        go_region
        go_wp2
        go_roundw
        case rel => exact ⟨k + 1, by omega, by go_num, hide (take_no HX.out hxy HT.out), hbe.drew, hbk.drew⟩
        case measure => simp [intOf]; omega
    · obtain rfl : k = n := by omega
      have hno : x ∉ l := by
        have h := HT.out
        rwa [List.take_of_length_le (by rw [HL.out]; exact Nat.le_refl _)] at h
      go_wp2
      go_ret
      exact ⟨ret_bool (by simp [hno]), hbe⟩
/-- The row of a source, or -1. -/
def rowOf (l : List Msg) (s : Int) : Int := match l.findIdx? (fun x => x.s == s) with | some k => (k : Int) | none => -1
theorem rowOf_hit {l : List Msg} {s : Int} {k : Nat} {x : Msg} (h : l[k]? = some x) (hs : x.s = s) (hb : ∀ y ∈ l.take k, y.s ≠ s) : rowOf l s = (k : Int) := by
  obtain ⟨hlt, hx⟩ := List.getElem?_eq_some_iff.1 h
  have : l.findIdx? (fun x => x.s == s) = some k := by
    rw [List.findIdx?_eq_some_iff_getElem]
    refine ⟨hlt, by simp [hx, hs], fun j hj => ?_⟩
    have := hb l[j] (List.mem_take_iff_getElem.2 ⟨j, by omega, rfl⟩)
    simp [this]
  unfold rowOf
  rw [this]
theorem rowOf_miss {l : List Msg} {s : Int} (h : ∀ x ∈ l, x.s ≠ s) : rowOf l s = -1 := by
  have : l.findIdx? (fun x => x.s == s) = none := by
    rw [List.findIdx?_eq_none_iff]
    intro x hx
    simp [h x hx]
  unfold rowOf
  rw [this]
theorem rowOf_cases (l : List Msg) (s : Int) : (rowOf l s = -1 ∧ ∀ x ∈ l, x.s ≠ s) ∨ ∃ (k : Nat) (x : Msg), rowOf l s = (k : Int) ∧ l[k]? = some x ∧ x.s = s ∧ ∀ y ∈ l.take k, y.s ≠ s := by
  cases h : l.findIdx? (fun x => x.s == s) with
  | none =>
    left
    rw [List.findIdx?_eq_none_iff] at h
    have h' : ∀ x ∈ l, x.s ≠ s := fun x hx => by simpa using h x hx
    exact ⟨rowOf_miss h', h'⟩
  | some k =>
    right
    have h0 := h
    rw [List.findIdx?_eq_some_iff_getElem] at h
    obtain ⟨hlt, h1, h2⟩ := h
    refine ⟨k, l[k], by unfold rowOf; rw [h0], List.getElem?_eq_getElem hlt, by simpa using h1, ?_⟩
    intro y hy
    obtain ⟨j, hj, rfl⟩ := List.mem_take_iff_getElem.1 hy
    simpa using h2 j (by omega)
theorem take_nos {l : List Msg} {s : Int} {y : Msg} {k : Nat} (h : l[k]? = some y) (hne : y.s ≠ s) (hk : ∀ z ∈ l.take k, z.s ≠ s) : ∀ z ∈ l.take (k + 1), z.s ≠ s := by
  rw [take_snoc h]
  intro z hz
  rcases List.mem_append.1 hz with hz | hz
  · exact hk z hz
  · simp only [List.mem_singleton] at hz
    subst hz
    exact hne
set_option maxHeartbeats 1000000 in
theorem rrow_any (A : Option Addr) (n c : Nat) (l : List Msg) (s : Int) (w : World) (hA : Rd w 3 A n (mv l)) (hn : n ≤ 1000000) :
    Calls Try.prog 27 #[.slice A n c, .int .u16 s] w fun e w' => e = .returned (.int .i64 (rowOf l s)) ∧ Below w.heap.size w w' := by
  have HL := hide hA.mlen
  go_enter Try.func27, Try.ntmps27
  go_wp2
  go_loopw [5] (fun i wr => ∃ k : Nat, k ≤ n ∧ i = .int .i64 k ∧ Hid (∀ z ∈ l.take k, z.s ≠ s) ∧ Below w.heap.size w wr) (fun i _ => n - (intOf i).toNat)
  case atStart => exact ⟨0, Nat.zero_le _, rfl, hide (by simp), Below.refl _ _⟩
  case round =>
    obtain ⟨k, hk, rfl, HT, hbe⟩ := hrel
    by_cases hlt : k < n
    · obtain ⟨b, o, y, rfl, hbs, HX, p0, p1, p2⟩ := (hA.below hbe).msg hlt
      by_cases hxy : y.s = s
      · have hr := rowOf_hit HX.out hxy HT.out
        subst hxy
        go_wp2
        go_ret
        exact ⟨ret_int hr.symm, hbe⟩
      · have hne : (y.s == s) = false := by rw [beq_eq_false_iff_ne]; exact hxy
        go_wp2
        go_roundw
        case rel => exact ⟨k + 1, by omega, by go_num, hide (take_nos HX.out hxy HT.out), hbe⟩
        case measure => simp [intOf]; omega
    · obtain rfl : k = n := by omega
      have hno : rowOf l s = -1 := by
        have h := HT.out
        rw [List.take_of_length_le (by rw [HL.out]; exact Nat.le_refl _)] at h
        exact rowOf_miss h
      go_wp2
      go_ret
      exact ⟨ret_int hno.symm, hbe⟩
theorem isrow_any (x : Msg) (s : Int) (g : Nat) (w : World) (hB : Blk w g 23 #[.int .u16 s]) :
    Calls Try.prog 32 #[.agg #[.int .u16 x.s, .int .u32 x.i, .int .u32 x.q], .pointer (some ⟨g, 0, none⟩)] w fun e w' => e = .returned (.bool (x.s == s)) ∧ Below w.heap.size w w' := by
  have hW : Below w.heap.size w (w.alloc (.cells #[.int .u16 x.s, .int .u32 x.i, .int .u32 x.q] 46)) := (Below.refl _ _).alloc (Nat.le_refl _) _
  have c0 := (hB.alloc (.cells #[.int .u16 x.s, .int .u32 x.i, .int .u32 x.q] 46)).cell 0
  simp only [List.getElem?_toArray, List.getElem?_cons_zero] at c0
  go_enter Try.func32, Try.ntmps32
  go_wp2
  go_ret
  exact ⟨rfl, hW⟩
set_option maxHeartbeats 1000000 in
theorem indexfunc_any (A : Option Addr) (n c g : Nat) (l : List Msg) (s : Int) (w : World) (hA : Rd w 3 A n (mv l)) (hn : n ≤ 1000000) (hg : Blk w g 23 #[.int .u16 s]) :
    Calls Try.prog 31 #[.slice A n c, .func (Fn.func 32) #[] #[.pointer (some ⟨g, 0, none⟩)]] w fun e w' => e = .returned (.int .i64 (rowOf l s)) ∧ Below w.heap.size w w' := by
  have HL := hide hA.mlen
  go_enter Try.func31, Try.ntmps31
  go_wp2
  go_loopw [8] (fun i wr => ∃ k : Nat, k ≤ n ∧ i = .int .i64 k ∧ Hid (∀ z ∈ l.take k, z.s ≠ s) ∧ Below w.heap.size w wr) (fun i _ => n - (intOf i).toNat)
  case atStart => exact ⟨0, Nat.zero_le _, rfl, hide (by simp), Below.refl _ _⟩
  case round =>
    obtain ⟨k, hk, rfl, HT, hbe⟩ := hrel
    by_cases hlt : k < n
    · obtain ⟨b, o, y, rfl, hbs, HX, p0, p1, p2⟩ := (hA.below hbe).msg hlt
      have hgr := hg.below hbe hg.lt
      have hsz := hbe.size
      by_cases hxy : y.s = s
      · have hr := hide (rowOf_hit HX.out hxy HT.out)
        have he := hide (show (y.s == s) = true by rw [beq_iff_eq]; exact hxy)
        clear hxy
        go_wp2_with fail
        refine (isrow_any y s g _ hgr).mono ?_
        rintro e w1 ⟨rfl, hb1⟩
        rw [he.out]
        go_wp2
        go_ret
        exact ⟨ret_int hr.out.symm, hbe.trans (hb1.mono hsz)⟩
      · have he := hide (show (y.s == s) = false by rw [beq_eq_false_iff_ne]; exact hxy)
        have hx := hide hxy
        clear hxy
        go_wp2_with fail
        refine (isrow_any y s g _ hgr).mono ?_
        rintro e w1 ⟨rfl, hb1⟩
        rw [he.out]
        go_wp2
        go_roundw
        case rel => exact ⟨k + 1, by omega, by go_num, hide (take_nos HX.out hx.out HT.out), hbe.trans (hb1.mono hsz)⟩
        case measure => simp [intOf]; omega
    · obtain rfl : k = n := by omega
      have hno : rowOf l s = -1 := by
        have h := HT.out
        rw [List.take_of_length_le (by rw [HL.out]; exact Nat.le_refl _)] at h
        exact rowOf_miss h
      go_wp2
      go_ret
      exact ⟨ret_int hno.symm, hbe⟩
theorem row_any (A : Option Addr) (n c : Nat) (l : List Msg) (s : Int) (w : World) (hA : Rd w 3 A n (mv l)) (hn : n ≤ 1000000) :
    Calls Try.prog 25 #[.slice A n c, .int .u16 s] w fun e w' => e = .returned (.int .i64 (rowOf l s)) ∧ Below w.heap.size w w' := by
  have hB : Below w.heap.size w (w.alloc (.cells #[.int .u16 s] 23)) := (Below.refl _ _).alloc (Nat.le_refl _) _
  go_enter Try.func25, Try.ntmps25
  go_wp2_with fail
  refine (indexfunc_any A n c w.heap.size l s _ (hA.below hB) hn (Blk.new _ _ _)).mono ?_
  rintro e w1 ⟨rfl, hb⟩
  go_wp2
  go_ret
  exact ⟨rfl, hB.trans (hb.mono hB.size)⟩
end Go.Proofs.Ytajhfmioidmacaa
