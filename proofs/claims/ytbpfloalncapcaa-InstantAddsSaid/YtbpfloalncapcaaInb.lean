/-
  Lists of changes in memory; the walks of the functions on such lists: Same, copied, Clone, Add, Due. Each function's contract.
-/
import Derived.Test.YtbpfloalncapcaaIna
import Derived.Deep.QuietTactic
import Derived.BigQuiet
namespace Go.Proofs.Ytbpfloalncapcaa
set_option linter.unusedVariables false
set_option linter.unusedSimpArgs false
open Go.RowKit

/-- A change: kind, instant, the five numbers of an update, the map. -/
structure Chg where
  k : Int
  i : Nat
  x0 : Int
  x1 : Int
  x2 : Int
  x3 : Int
  x4 : Int
  m : Int
deriving DecidableEq, Inhabited

def Chg.cells (c : Chg) : List Value := [.int .i64 c.k, .int .u16 (c.i : Int), .int .i64 c.x0, .int .i64 c.x1, .int .i64 c.x2, .int .i64 c.x3, .int .i64 c.x4, .int .u64 c.m]
/-- Changes as cells. -/
def chv (l : List Chg) : List Value := l.flatMap Chg.cells
theorem chv_length (l : List Chg) : (chv l).length = l.length * 8 := by
  induction l with
  | nil => rfl
  | cons c l ih => simp only [chv, List.flatMap_cons, List.length_append, List.length_cons] at ih ⊢; rw [ih]; simp [Chg.cells]; omega
theorem chv_append (a b : List Chg) : chv (a ++ b) = chv a ++ chv b := by simp [chv]
theorem chv_one (l : List Chg) : ∀ u ∈ chv l, u.oneCell' = true := by
  intro u hu
  simp only [chv, List.mem_flatMap, Chg.cells, List.mem_cons, List.not_mem_nil, or_false] at hu
  obtain ⟨c, _, h⟩ := hu
  rcases h with rfl | rfl | rfl | rfl | rfl | rfl | rfl | rfl <;> rfl
theorem chv_get (l : List Chg) (k : Nat) (c : Chg) (h : l[k]? = some c) (j : Nat) (hj : j < 8) : (chv l)[k * 8 + j]? = c.cells[j]? := by
  induction l generalizing k with
  | nil => simp at h
  | cons d l ih =>
    have hd : d.cells.length = 8 := rfl
    simp only [chv, List.flatMap_cons]
    cases k with
    | zero =>
      simp only [List.getElem?_cons_zero, Option.some.injEq] at h
      subst h
      rw [List.getElem?_append_left (by omega)]
      simp
    | succ k =>
      simp only [List.getElem?_cons_succ] at h
      rw [List.getElem?_append_right (by omega), hd, show (k + 1) * 8 + j - 8 = k * 8 + j by omega]
      exact ih k h
theorem Rd.clen {w : World} {A : Option Addr} {n : Nat} {l : List Chg} (h : Rd w 8 A n (chv l)) : l.length = n := by
  have := h.1
  rw [chv_length] at this
  omega
/-- The cells of a change at an address. -/
def At8 (w : World) (b o : Nat) (c : Chg) : Prop :=
  w.cell? ⟨b, o, none⟩ = some (.int .i64 c.k) ∧ w.cell? ⟨b, o + 1, none⟩ = some (.int .u16 (c.i : Int)) ∧ w.cell? ⟨b, o + 2, none⟩ = some (.int .i64 c.x0) ∧ w.cell? ⟨b, o + 3, none⟩ = some (.int .i64 c.x1) ∧
  w.cell? ⟨b, o + 4, none⟩ = some (.int .i64 c.x2) ∧ w.cell? ⟨b, o + 5, none⟩ = some (.int .i64 c.x3) ∧ w.cell? ⟨b, o + 6, none⟩ = some (.int .i64 c.x4) ∧ w.cell? ⟨b, o + 7, none⟩ = some (.int .u64 c.m)
/-- The change at k. -/
theorem Rd.chg {w : World} {A : Option Addr} {n : Nat} {l : List Chg} (h : Rd w 8 A n (chv l)) {k : Nat} (hk : k < n) : ∃ (b o : Nat) (c : Chg), A = some ⟨b, o, none⟩ ∧ b < w.heap.size ∧ Hid (l[k]? = some c) ∧ At8 w b (o + k * 8) c := by
  obtain ⟨b, o, e, hb, hc⟩ := h.2 (by omega)
  have hl : k < l.length := by rw [h.clen]; exact hk
  have hx : l[k]? = some l[k] := List.getElem?_eq_getElem hl
  refine ⟨b, o, l[k], e, hb, hx, ?_⟩
  have hcell : ∀ j u, l[k].cells[j]? = some u → w.cell? ⟨b, o + k * 8 + j, none⟩ = some u := fun j u hu => by
    rw [Nat.add_assoc]
    have hj : j < 8 := (List.getElem?_eq_some_iff.1 hu).1
    exact hc _ u (by rw [chv_get l k _ hx j hj, hu])
  exact ⟨hcell 0 _ rfl, hcell 1 _ rfl, hcell 2 _ rfl, hcell 3 _ rfl, hcell 4 _ rfl, hcell 5 _ rfl, hcell 6 _ rfl, hcell 7 _ rfl⟩

theorem at8_blk {w : World} {g : Nat} {t : TypeId} {x : Chg} (h : Blk w g t #[.int .i64 x.k, .int .u16 (x.i : Int), .int .i64 x.x0, .int .i64 x.x1, .int .i64 x.x2, .int .i64 x.x3, .int .i64 x.x4, .int .u64 x.m]) :
    w.cell? ⟨g, 0, none⟩ = some (.int .i64 x.k) ∧ w.cell? ⟨g, 1, none⟩ = some (.int .u16 (x.i : Int)) ∧ w.cell? ⟨g, 2, none⟩ = some (.int .i64 x.x0) ∧ w.cell? ⟨g, 3, none⟩ = some (.int .i64 x.x1) ∧
    w.cell? ⟨g, 4, none⟩ = some (.int .i64 x.x2) ∧ w.cell? ⟨g, 5, none⟩ = some (.int .i64 x.x3) ∧ w.cell? ⟨g, 6, none⟩ = some (.int .i64 x.x4) ∧ w.cell? ⟨g, 7, none⟩ = some (.int .u64 x.m) :=
  ⟨h.cell 0, h.cell 1, h.cell 2, h.cell 3, h.cell 4, h.cell 5, h.cell 6, h.cell 7⟩
theorem under35 : Try.prog.underlying 35 = some (.slice 31) := Try.underlying35
theorem info31 : (Try.prog.info? 31).map (fun i => (i.zero, i.size, i.bytes)) = some (some (.agg #[.int .i64 0, .int .u16 0, .int .i64 0, .int .i64 0, .int .i64 0, .int .i64 0, .int .i64 0, .int .u64 0]), 8, 64) := by kernel_rfl
theorem neq_chg (x y : Chg) (W : World) : (binOp .neq 31 (.agg #[.int .i64 x.k, .int .u16 (x.i : Int), .int .i64 x.x0, .int .i64 x.x1, .int .i64 x.x2, .int .i64 x.x3, .int .i64 x.x4, .int .u64 x.m]) (.agg #[.int .i64 y.k, .int .u16 (y.i : Int), .int .i64 y.x0, .int .i64 y.x1, .int .i64 y.x2, .int .i64 y.x3, .int .i64 y.x4, .int .u64 y.m])).run Try.prog W = .ok (.bool (!decide (x = y))) W := by
  obtain ⟨a0, a1, a2, a3, a4, a5, a6, a7⟩ := x
  obtain ⟨b0, b1, b2, b3, b4, b5, b6, b7⟩ := y
  go_simp
  repeat' split
  all_goals first | (simp_all; done) | (simp_all; omega)
theorem neq_chg_no (x y : Chg) (h : x ≠ y) (W : World) : (binOp .neq 31 (.agg #[.int .i64 x.k, .int .u16 (x.i : Int), .int .i64 x.x0, .int .i64 x.x1, .int .i64 x.x2, .int .i64 x.x3, .int .i64 x.x4, .int .u64 x.m]) (.agg #[.int .i64 y.k, .int .u16 (y.i : Int), .int .i64 y.x0, .int .i64 y.x1, .int .i64 y.x2, .int .i64 y.x3, .int .i64 y.x4, .int .u64 y.m])).run Try.prog W = .ok (.bool true) W := by rw [neq_chg]; simp [h]
theorem neq_chg_yes (x : Chg) (W : World) : (binOp .neq 31 (.agg #[.int .i64 x.k, .int .u16 (x.i : Int), .int .i64 x.x0, .int .i64 x.x1, .int .i64 x.x2, .int .i64 x.x3, .int .i64 x.x4, .int .u64 x.m]) (.agg #[.int .i64 x.k, .int .u16 (x.i : Int), .int .i64 x.x0, .int .i64 x.x1, .int .i64 x.x2, .int .i64 x.x3, .int .i64 x.x4, .int .u64 x.m])).run Try.prog W = .ok (.bool false) W := by rw [neq_chg]; simp
set_option maxHeartbeats 1000000 in
theorem same_any (A C : Option Addr) (n m c d : Nat) (la lb : List Chg) (w : World) (hA : Rd w 8 A n (chv la)) (hC : Rd w 8 C m (chv lb)) (hn : n ≤ 1000000) (hm : m ≤ 1000000) :
    Calls Try.prog 17 #[.slice A n c, .slice C m d] w fun e w' => e = .returned (.bool (decide (la = lb))) ∧ Below w.heap.size w w' := by
  have h1 := hA.clen
  have h2 := hC.clen
  by_cases hnm : n = m
  · subst hnm
    have HL := hide h1
    have HM := hide h2
    clear h1 h2 hm
    go_enter Try.func17, Try.ntmps17
    go_wp2
    go_loopw [5] (fun i wr => ∃ k : Nat, k ≤ n ∧ i = .int .i64 k ∧ Hid (la.take k = lb.take k) ∧ Below w.heap.size w wr) (fun i _ => n - (intOf i).toNat)
    case atStart => exact ⟨0, Nat.zero_le _, rfl, hide (by simp), Below.refl _ _⟩
    case round =>
      obtain ⟨k, hk, rfl, HT, hbe⟩ := hrel
      by_cases hlt : k < n
      · obtain ⟨b, o, x, rfl, hbs, HX, p0, p1, p2, p3, p4, p5, p6, p7⟩ := (hA.below hbe).chg hlt
        obtain ⟨b2, o2, y, rfl, hbs2, HY, q0, q1, q2, q3, q4, q5, q6, q7⟩ := (hC.below hbe).chg hlt
        by_cases hxy : x = y
        · subst hxy
          have hne := neq_chg_yes x
          go_wp2
          go_region
          go_wp2
          go_roundw
          case rel => exact ⟨k + 1, by omega, by go_num, hide (by rw [take_snoc HX.out, take_snoc HY.out, HT.out]), hbe.drew⟩
          case measure => simp [intOf]; omega
        · have hne := neq_chg_no x y hxy
          have hno : la ≠ lb := fun e => hxy (by have h := HX.out; rw [e, HY.out] at h; injection h with h; exact h.symm)
          go_wp2
          go_region
          go_wp2
          go_ret
          exact ⟨ret_bool (by simp [hno]), hbe.drew⟩
      · obtain rfl : k = n := by omega
        have he : la = lb := by
          have h := HT.out
          rwa [List.take_of_length_le (by rw [HL.out]; exact Nat.le_refl _), List.take_of_length_le (by rw [HM.out]; exact Nat.le_refl _)] at h
        go_wp2
        go_ret
        exact ⟨ret_bool (by simp [he]), hbe⟩
  · have hno : la ≠ lb := fun e => hnm (by rw [← h1, ← h2, e])
    have e1 : ((n : Int) != (m : Int)) = true := by rw [bne_iff_ne]; omega
    clear h1 h2
    go_enter Try.func17, Try.ntmps17
    go_wp2
    go_ret
    exact ⟨ret_bool (by simp [hno]), Below.refl _ _⟩

theorem rd8_one (w : World) (c : Chg) : Rd (w.alloc (.cells #[.int .i64 c.k, .int .u16 (c.i : Int), .int .i64 c.x0, .int .i64 c.x1, .int .i64 c.x2, .int .i64 c.x3, .int .i64 c.x4, .int .u64 c.m] 31)) 8 (some ⟨w.heap.size, 0, none⟩) 1 (chv [c]) := by
  refine ⟨by simp [chv, Chg.cells], fun _ => ⟨w.heap.size, 0, rfl, by simp, fun j u hu => ?_⟩⟩
  rw [Nat.zero_add, (Blk.new w 31 _).cell]
  simpa [chv, Chg.cells] using hu
theorem rd8_one2 (w : World) (c : Chg) {g : Nat} (h : g = w.heap.size) : Rd (w.alloc (.cells #[.int .i64 c.k, .int .u16 (c.i : Int), .int .i64 c.x0, .int .i64 c.x1, .int .i64 c.x2, .int .i64 c.x3, .int .i64 c.x4, .int .u64 c.m] 31)) 8 (some ⟨g, 0, none⟩) 1 (chv [c]) := by
  subst h
  exact rd8_one w c
set_option maxHeartbeats 400000 in
theorem copied_any (A : Option Addr) (n c : Nat) (l : List Chg) (w : World) (hA : Rd w 8 A n (chv l)) (hn : n ≤ 1000000) :
    Calls Try.prog 15 #[.slice A n c] w fun e w' => ∃ A' c', e = .returned (.slice A' n c') ∧ n ≤ c' ∧ Rd w' 8 A' n (chv l) ∧ Below w.heap.size w w' := by
  go_enter Try.func15, Try.ntmps15
  go_wp2_with (at_builtin; refine wpList_append_rd _ rfl (.tmp 3) (.tmp 4) _ rfl w.heap.size 31 _ 8 64 under35 info31 rfl (by omega) (.slice (some ⟨w.heap.size, 0, none⟩) 0 0) 0 [] rfl (own_made w) A n c (chv l) rfl (hA.alloc _) (chv_one l) (by omega) (by omega) (by simp) ?_; intro v1 w1 hown hg _)
  go_ret
  obtain ⟨A', c', rfl, hc', hr⟩ := (own_any hown).rd
  exact ⟨A', c', ret_slice (by omega), by omega, by simpa using hr, ((Below.refl _ _).alloc (Nat.le_refl _) _).grown hg (by simp) (by simp [Value.ownBlock])⟩
set_option maxHeartbeats 400000 in
theorem clone_any (A : Option Addr) (n c : Nat) (l : List Chg) (w : World) (hA : Rd w 8 A n (chv l)) (hn : n ≤ 1000000) :
    Calls Try.prog 24 #[.slice A n c] w fun e w' => ∃ A' c', e = .returned (.slice A' n c') ∧ n ≤ c' ∧ Rd w' 8 A' n (chv l) ∧ Below w.heap.size w w' := by
  have hq := fun (W : World) => Lib.run_eql_slice_nil (P := Try.prog) W 35 31 A n c 0 0 under35
  cases A with
  | none =>
    have h0 : n = 0 := by
      rcases Nat.eq_zero_or_pos n with h | h
      · exact h
      · obtain ⟨b, o, e, _⟩ := hA.2 h; cases e
    subst h0
    go_enter Try.func24, Try.ntmps24
    go_wp2
    go_ret
    exact ⟨_, _, rfl, Nat.le_refl _, hA, Below.refl _ _⟩
  | some ad =>
    go_enter Try.func24, Try.ntmps24
    go_wp2_with (at_builtin; refine wpList_append_rd _ rfl (.tmp 5) (.tmp 6) _ rfl w.heap.size 31 _ 8 64 under35 info31 rfl (by omega) (.slice (some ⟨w.heap.size, 0, none⟩) 0 0) 0 [] rfl (own_made w) (some ad) n c (chv l) rfl (hA.alloc _) (chv_one l) (by omega) (by omega) (by simp) ?_; intro v1 w1 hown hg _)
    go_ret
    obtain ⟨A', c', rfl, hc', hr⟩ := (own_any hown).rd
    exact ⟨A', c', ret_slice (by omega), by omega, by simpa using hr, ((Below.refl _ _).alloc (Nat.le_refl _) _).grown hg (by simp) (by simp [Value.ownBlock])⟩

/-- What Add gives. -/
def addL (a : Nat) (x : Chg) (l : List Chg) : List Chg × Int := if ck a x.k x.i = 0 then (if l = [] then ([x], 0) else (l, 20)) else (l, ck a x.k x.i)
theorem ret_add {A : Option Addr} {n c : Nat} {e e' : Int} (h : e = e') : Ending.returned (.tuple #[.slice A n c, .int .i64 e]) = .returned (.tuple #[.slice A n c, .int .i64 e']) := by rw [h]
set_option maxHeartbeats 1000000 in
theorem add_any (A : Option Addr) (n c a : Nat) (x : Chg) (l : List Chg) (w : World) (hA : Rd w 8 A n (chv l)) (hn : n ≤ 1000000) (ha : a < 65536) (hx : x.i < 65536) :
    Calls Try.prog 14 #[.slice A n c, .int .u16 (a : Int), .agg #[.int .i64 x.k, .int .u16 (x.i : Int), .int .i64 x.x0, .int .i64 x.x1, .int .i64 x.x2, .int .i64 x.x3, .int .i64 x.x4, .int .u64 x.m]] w fun e w' => ∃ A' n' c', e = .returned (.tuple #[.slice A' n' c', .int .i64 (addL a x l).2]) ∧ Rd w' 8 A' n' (chv (addL a x l).1) ∧ Below w.heap.size w w' := by
  have hlen := hA.clen
  by_cases h0 : ck a x.k x.i = 0
  · have hne : (ck a x.k x.i != 0) = false := by simpa using h0
    by_cases hl : l = []
    · subst hl
      have hn0 : n = 0 := by simpa using hlen.symm
      subst hn0
      have HF := hide (show addL a x [] = ([x], 0) from by unfold addL; rw [if_pos h0, if_pos rfl])
      clear h0 hlen
      go_enter Try.func14, Try.ntmps14
      go_wp2_with fail
      refine (check_any a x.k x.i x.x0 x.x1 x.x2 x.x3 x.x4 x.m ha hx _).mono ?_
      rintro e w1 ⟨rfl, hb1⟩
      obtain ⟨hc, hf⟩ := bcell hb1
      have hz : w.heap.size < w1.heap.size := by have := hb1.size; simp at this; omega
      go_wp2
      go_ret2
      rw [HF.out]
      refine ⟨_, _, _, rfl, rd8_one w1 x, (((Below.refl _ _).alloc (Nat.le_refl _) _).trans (hb1.mono (by simp))).alloc (by omega) _⟩
    · have hpos : 0 < (n : Int) := by
        have : 0 < l.length := List.length_pos_iff.2 hl
        omega
      have HF := hide (show addL a x l = (l, 20) from by unfold addL; rw [if_pos h0, if_neg hl])
      clear h0 hlen
      go_enter Try.func14, Try.ntmps14
      go_wp2_with fail
      refine (check_any a x.k x.i x.x0 x.x1 x.x2 x.x3 x.x4 x.m ha hx _).mono ?_
      rintro e w1 ⟨rfl, hb1⟩
      have hA1 := (hA.alloc _).below hb1
      go_wp2_with fail
      refine (clone_any A n c l _ hA1 hn).mono ?_
      rintro e w2 ⟨A', c', rfl, hc', hr', hb2⟩
      go_wp2
      go_ret2
      rw [HF.out]
      have hz : w.heap.size < w1.heap.size := by have := hb1.size; simp at this; omega
      exact ⟨_, _, _, rfl, hr', (((Below.refl _ _).alloc (Nat.le_refl _) _).trans (hb1.mono (by simp))).trans (hb2.mono (by omega))⟩
  · have hne : (ck a x.k x.i != 0) = true := by simpa using h0
    have HF := hide (show addL a x l = (l, ck a x.k x.i) from by unfold addL; rw [if_neg h0])
    clear h0 hlen
    go_enter Try.func14, Try.ntmps14
    go_wp2_with fail
    refine (check_any a x.k x.i x.x0 x.x1 x.x2 x.x3 x.x4 x.m ha hx _).mono ?_
    rintro e w1 ⟨rfl, hb1⟩
    have hA1 := (hA.alloc _).below hb1
    go_wp2_with fail
    refine (clone_any A n c l _ hA1 hn).mono ?_
    rintro e w2 ⟨A', c', rfl, hc', hr', hb2⟩
    go_wp2
    go_ret2
    rw [HF.out]
    have hz : w.heap.size < w1.heap.size := by have := hb1.size; simp at this; omega
    exact ⟨_, _, _, rfl, hr', (((Below.refl _ _).alloc (Nat.le_refl _) _).trans (hb1.mono (by simp))).trans (hb2.mono (by omega))⟩

set_option maxHeartbeats 1000000 in
theorem radd_any (A : Option Addr) (n c a : Nat) (x : Chg) (l : List Chg) (w : World) (hA : Rd w 8 A n (chv l)) (hn : n ≤ 1000000) (ha : a < 65536) (hx : x.i < 65536) :
    Calls Try.prog 16 #[.slice A n c, .int .u16 (a : Int), .agg #[.int .i64 x.k, .int .u16 (x.i : Int), .int .i64 x.x0, .int .i64 x.x1, .int .i64 x.x2, .int .i64 x.x3, .int .i64 x.x4, .int .u64 x.m]] w fun e w' => ∃ A' n' c', e = .returned (.tuple #[.slice A' n' c', .int .i64 (addL a x l).2]) ∧ Rd w' 8 A' n' (chv (addL a x l).1) ∧ Below w.heap.size w w' := by
  have hlen := hA.clen
  have hcs : (ck a x.k x.i = 0 ∧ l = [] ∧ n = 0 ∧ addL a x l = ([x], 0)) ∨ (ck a x.k x.i = 0 ∧ 0 < n ∧ addL a x l = (l, 20)) ∨ (ck a x.k x.i ≠ 0 ∧ addL a x l = (l, ck a x.k x.i)) := by
    unfold addL
    by_cases h0 : ck a x.k x.i = 0
    · by_cases hl : l = []
      · exact .inl ⟨h0, hl, by rw [← hlen, hl]; rfl, by rw [if_pos h0, if_pos hl]⟩
      · exact .inr (.inl ⟨h0, by have : 0 < l.length := List.length_pos_iff.2 hl; omega, by rw [if_pos h0, if_neg hl]⟩)
    · exact .inr (.inr ⟨h0, by rw [if_neg h0]⟩)
  clear hlen
  rcases hcs with ⟨h0, rfl, rfl, hF⟩ | ⟨h0, hpos, hF⟩ | ⟨h0, hF⟩
  · have hne : (ck a x.k x.i != 0) = false := by simpa using h0
    clear h0
    have HF := hide hF
    clear hF
    go_enter Try.func16, Try.ntmps16
    go_wp2_with (at_builtin; refine wpList_append_rd _ rfl (.tmp 10) (.tmp 11) _ rfl w.heap.size 31 _ 8 64 under35 info31 rfl (by omega) (.slice (some ⟨w.heap.size + 1, 0, none⟩) 0 0) 0 [] rfl (own_made2 (b := w.heap.size + 1) (by simp) (by omega)) A 0 c (chv []) rfl ((hA.alloc _).alloc _) (chv_one []) (by omega) (by omega) (by simp <;> omega) ?_; intro v1 w1 hown hg hat; have hb1 : Below w.heap.size w w1 := (((Below.refl _ _).alloc (Nat.le_refl _) _).alloc (by simp <;> omega) _).grown hg (by simp <;> omega) (by simp [Value.ownBlock] <;> omega); have hbk : Blk w1 w.heap.size 31 #[.int .i64 x.k, .int .u16 (x.i : Int), .int .i64 x.x0, .int .i64 x.x1, .int .i64 x.x2, .int .i64 x.x3, .int .i64 x.x4, .int .u64 x.m] := ((Blk.new w 31 _).alloc _).grown hg (by simp [Value.ownBlock]); obtain ⟨b0, b1, b2, b3, b4, b5, b6, b7⟩ := at8_blk hbk)
    refine (rcheck_any a x.k x.i x.x0 x.x1 x.x2 x.x3 x.x4 x.m ha hx _).mono ?_
    rintro e w2 ⟨rfl, hb2⟩
    have hz := hb1.size
    have hz2 := hb2.size
    have hB : Below w.heap.size w w2 := hb1.trans (hb2.mono hz)
    have hbk2 := hbk.below hb2 hbk.lt
    have hown2 : OwnG w2 w.heap.size 31 8 v1 0 [] v1.ownBlock := (own_any hown).kept (row := none) ⟨hb2.os, hb2.tape, hb2.output, hb2.size, fun k hk _ => hb2.block k hk⟩ (fun _ _ e => by cases e)
    have hsep : ∀ b, v1.ownBlock = some b → w.heap.size < b := by
      intro b hb
      rcases hat with e | e <;> rw [e] at hb <;> simp [Value.ownBlock] at hb <;> omega
    obtain ⟨p0, p1, p2, p3, p4, p5, p6, p7⟩ := at8_blk hbk2
    clear b0 b1 b2 b3 b4 b5 b6 b7
    go_wp2_with (at_builtin; refine wpList_append_g _ rfl (.tmp 24) (.tmp 26) _ rfl w.heap.size 31 _ 8 64 under35 info31 rfl (by omega) v1 0 [] v1.ownBlock rfl (hown2.alloc _) (some ⟨w2.heap.size, 0, none⟩) 1 1 (chv [x]) rfl (rd8_one w2 x) (by omega) (chv_one [x]) (by omega) (by omega) (by simp; omega) ?_; intro v3 w3 g3 hown3 hg3 hat3)
    obtain ⟨A3, c3, rfl, hc3, hr3⟩ := hown3.rd
    go_ret2
    rw [HF.out]
    exact ⟨_, _, _, rfl, hr3, (hB.alloc (by omega) _).grown hg3 (by simp; omega) (fun k hk => (hown2.lt k hk).1)⟩
  · have hne : (ck a x.k x.i != 0) = false := by simpa using h0
    have hpos' : 0 < (n : Int) := by omega
    clear h0
    have HF := hide hF
    clear hF
    go_enter Try.func16, Try.ntmps16
    go_wp2_with (at_builtin; refine wpList_append_rd _ rfl (.tmp 10) (.tmp 11) _ rfl w.heap.size 31 _ 8 64 under35 info31 rfl (by omega) (.slice (some ⟨w.heap.size + 1, 0, none⟩) 0 0) 0 [] rfl (own_made2 (b := w.heap.size + 1) (by simp) (by omega)) A n c (chv l) rfl ((hA.alloc _).alloc _) (chv_one l) (by omega) (by omega) (by simp <;> omega) ?_; intro v1 w1 hown hg hat; have hb1 : Below w.heap.size w w1 := (((Below.refl _ _).alloc (Nat.le_refl _) _).alloc (by simp <;> omega) _).grown hg (by simp <;> omega) (by simp [Value.ownBlock] <;> omega); have hbk : Blk w1 w.heap.size 31 #[.int .i64 x.k, .int .u16 (x.i : Int), .int .i64 x.x0, .int .i64 x.x1, .int .i64 x.x2, .int .i64 x.x3, .int .i64 x.x4, .int .u64 x.m] := ((Blk.new w 31 _).alloc _).grown hg (by simp [Value.ownBlock]); obtain ⟨b0, b1, b2, b3, b4, b5, b6, b7⟩ := at8_blk hbk)
    refine (rcheck_any a x.k x.i x.x0 x.x1 x.x2 x.x3 x.x4 x.m ha hx _).mono ?_
    rintro e w2 ⟨rfl, hb2⟩
    have hz := hb1.size
    have hz2 := hb2.size
    have hB : Below w.heap.size w w2 := hb1.trans (hb2.mono hz)
    obtain ⟨A3, c3, rfl, hc3, hr3⟩ := (own_any hown).rd
    go_wp2
    go_ret2
    rw [HF.out]
    exact ⟨_, _, _, rfl, by simpa using hr3.below hb2, hB⟩
  · have hne : (ck a x.k x.i != 0) = true := by simpa using h0
    clear h0
    have HF := hide hF
    clear hF
    go_enter Try.func16, Try.ntmps16
    go_wp2_with (at_builtin; refine wpList_append_rd _ rfl (.tmp 10) (.tmp 11) _ rfl w.heap.size 31 _ 8 64 under35 info31 rfl (by omega) (.slice (some ⟨w.heap.size + 1, 0, none⟩) 0 0) 0 [] rfl (own_made2 (b := w.heap.size + 1) (by simp) (by omega)) A n c (chv l) rfl ((hA.alloc _).alloc _) (chv_one l) (by omega) (by omega) (by simp <;> omega) ?_; intro v1 w1 hown hg hat; have hb1 : Below w.heap.size w w1 := (((Below.refl _ _).alloc (Nat.le_refl _) _).alloc (by simp <;> omega) _).grown hg (by simp <;> omega) (by simp [Value.ownBlock] <;> omega); have hbk : Blk w1 w.heap.size 31 #[.int .i64 x.k, .int .u16 (x.i : Int), .int .i64 x.x0, .int .i64 x.x1, .int .i64 x.x2, .int .i64 x.x3, .int .i64 x.x4, .int .u64 x.m] := ((Blk.new w 31 _).alloc _).grown hg (by simp [Value.ownBlock]); obtain ⟨b0, b1, b2, b3, b4, b5, b6, b7⟩ := at8_blk hbk)
    refine (rcheck_any a x.k x.i x.x0 x.x1 x.x2 x.x3 x.x4 x.m ha hx _).mono ?_
    rintro e w2 ⟨rfl, hb2⟩
    have hz := hb1.size
    have hz2 := hb2.size
    have hB : Below w.heap.size w w2 := hb1.trans (hb2.mono hz)
    obtain ⟨A3, c3, rfl, hc3, hr3⟩ := (own_any hown).rd
    go_wp2
    go_ret2
    rw [HF.out]
    exact ⟨_, _, _, rfl, by simpa using hr3.below hb2, hB⟩

/-- Those that are due; the others. -/
def dueL (a : Nat) (l : List Chg) : List Chg := l.filter fun c => came a c.i
def restL (a : Nat) (l : List Chg) : List Chg := l.filter fun c => !came a c.i
theorem dueL_yes (a : Nat) (l : List Chg) (k : Nat) (x : Chg) (h : l[k]? = some x) (hx : came a x.i = true) : dueL a (l.take (k + 1)) = dueL a (l.take k) ++ [x] ∧ restL a (l.take (k + 1)) = restL a (l.take k) := by
  rw [take_snoc h]; simp [dueL, restL, List.filter_append, hx]
theorem dueL_no (a : Nat) (l : List Chg) (k : Nat) (x : Chg) (h : l[k]? = some x) (hx : came a x.i = false) : dueL a (l.take (k + 1)) = dueL a (l.take k) ∧ restL a (l.take (k + 1)) = restL a (l.take k) ++ [x] := by
  rw [take_snoc h]; simp [dueL, restL, List.filter_append, hx]
theorem dueL_le (a : Nat) (l : List Chg) (k : Nat) : (dueL a (l.take k)).length ≤ k ∧ (restL a (l.take k)).length ≤ k := by
  have h1 := List.length_filter_le (fun c : Chg => came a c.i) (l.take k)
  have h2 := List.length_filter_le (fun c : Chg => !came a c.i) (l.take k)
  have h3 := List.length_take_le k l
  unfold dueL restL
  omega
/-- What the loop keeps of the two lists. -/
def Two (B : Nat) (a : Nat) (l : List Chg) (k : Nat) (v4 v5 : Value) (w : World) : Prop :=
  ∃ g4 g5, OwnG w B 31 8 v4 (restL a (l.take k)).length (chv (restL a (l.take k))) g4 ∧ OwnG w B 31 8 v5 (dueL a (l.take k)).length (chv (dueL a (l.take k))) g5 ∧ (∀ b, g4 = some b → g5 ≠ some b)
theorem Two.alloc {B a : Nat} {l : List Chg} {k : Nat} {v4 v5 : Value} {w : World} (h : Two B a l k v4 v5 w) (o : Obj) : Two B a l k v4 v5 (w.alloc o) := by
  obtain ⟨g4, g5, h4, h5, hs⟩ := h
  exact ⟨g4, g5, h4.alloc o, h5.alloc o, hs⟩
theorem Two.yes {B a : Nat} {l : List Chg} {k : Nat} {v4 v5' : Value} {w w' : World} {x : Chg} {g4 g5 g5' : Option Nat} (hx : l[k]? = some x) (hc : came a x.i = true)
    (h4 : OwnG w B 31 8 v4 (restL a (l.take k)).length (chv (restL a (l.take k))) g4) (hs : ∀ b, g4 = some b → g5 ≠ some b)
    (h5 : OwnG w' B 31 8 v5' ((dueL a (l.take k)).length + 1) (chv (dueL a (l.take k)) ++ chv [x]) g5') (hg : w.grownBy w' g5) (hat : g5' = g5 ∨ g5' = some w.heap.size) : Two B a l (k + 1) v4 v5' w' := by
  obtain ⟨e1, e2⟩ := dueL_yes a l k x hx hc
  refine ⟨g4, g5', ?_, ?_, ?_⟩
  · rw [e2]; exact h4.kept hg hs
  · rw [e1, chv_append, List.length_append]; exact h5
  · intro b hb
    rcases hat with rfl | rfl
    · exact hs b hb
    · intro e
      injection e with e
      have := (h4.lt b hb).2
      omega
theorem Two.no {B a : Nat} {l : List Chg} {k : Nat} {v4' v5 : Value} {w w' : World} {x : Chg} {g4 g5 g4' : Option Nat} (hx : l[k]? = some x) (hc : came a x.i = false)
    (h5 : OwnG w B 31 8 v5 (dueL a (l.take k)).length (chv (dueL a (l.take k))) g5) (hs : ∀ b, g4 = some b → g5 ≠ some b)
    (h4 : OwnG w' B 31 8 v4' ((restL a (l.take k)).length + 1) (chv (restL a (l.take k)) ++ chv [x]) g4') (hg : w.grownBy w' g4) (hat : g4' = g4 ∨ g4' = some w.heap.size) : Two B a l (k + 1) v4' v5 w' := by
  obtain ⟨e1, e2⟩ := dueL_no a l k x hx hc
  refine ⟨g4', g5, ?_, ?_, ?_⟩
  · rw [e2, chv_append, List.length_append]; exact h4
  · rw [e1]; exact h5.kept hg (fun b hb e => hs b e hb)
  · intro b hb
    rcases hat with rfl | rfl
    · exact hs b hb
    · intro e
      injection hb with hb
      have := (h5.lt b e).2
      omega
theorem Two.start (B a : Nat) (l : List Chg) (A C : Option Addr) (w : World) : Two B a l 0 (.slice A 0 0) (.slice C 0 0) w := ⟨none, none, OwnG.empty _ _ _ _ _, OwnG.empty _ _ _ _ _, fun b hb => by cases hb⟩
set_option maxHeartbeats 2000000 in
theorem due_any (A : Option Addr) (n c a : Nat) (l : List Chg) (w : World) (hA : Rd w 8 A n (chv l)) (hn : n ≤ 1000000) (hc : n ≤ c) (ha : a < 65536) (hl : ∀ x ∈ l, x.i < 65536) :
    Calls Try.prog 18 #[.slice A n c, .int .u16 (a : Int)] w fun e w' => ∃ R Q nr nq cr cq, e = .returned (.tuple #[.slice R nr cr, .slice Q nq cq]) ∧ Rd w' 8 R nr (chv (restL a l)) ∧ Rd w' 8 Q nq (chv (dueL a l)) ∧ Below w.heap.size w w' := by
  have HL := hide hA.clen
  go_enter Try.func18, Try.ntmps18
  go_wp2
  go_region
  go_wp2
  go_loopw [4, 5, 14] (fun v4 v5 i wr => ∃ k : Nat, k ≤ n ∧ i = .int .i64 k ∧ Two w.heap.size a l k v4 v5 wr ∧ Below w.heap.size w wr) (fun _ _ i _ => n - (intOf i).toNat)
  case atStart => exact ⟨0, Nat.zero_le _, rfl, Two.start _ _ _ _ _ _, (Below.refl _ _).drew⟩
  case round =>
    obtain ⟨k, hk, rfl, HT, hbe⟩ := hrel
    by_cases hlt : k < n
    · obtain ⟨b, o, x, rfl, hbs, HX, p0, p1, p2, p3, p4, p5, p6, p7⟩ := (hA.below hbe).chg hlt
      have hxi : x.i < 65536 := hl x (List.mem_of_getElem? HX.out)
      have hsz := hbe.size
      cases hcx : came a x.i
      · have HC := hide hcx
        clear hcx
        go_wp2_with fail
        refine (passed_any a x.i ha hxi _).mono ?_
        rintro e w' ⟨rfl, rfl⟩
        rw [HC.out]
        obtain ⟨g4, g5, h4, h5, hs⟩ := HT
        have hle := (dueL_le a l k).2
        go_wp2_with (at_builtin; refine wpList_append_g _ rfl (.tmp 26) (.tmp 28) _ rfl w.heap.size 31 _ 8 64 under35 info31 rfl (by omega) _ _ _ g4 rfl ((h4.alloc _).alloc _) (some ⟨wr.heap.size + 1, 0, none⟩) 1 1 (chv [x]) rfl (rd8_one2 _ x (by simp)) (by omega) (chv_one [x]) (by omega) (by omega) (by simp; omega) ?_; intro v3 w3 g3 hown3 hg3 hat3)
        have HT2 := Two.no HX.out HC.out ((h5.alloc _).alloc _) hs hown3 hg3 hat3
        have hbe2 : Below w.heap.size w w3 := ((hbe.alloc (by omega) _).alloc (by simp; omega) _).grown hg3 (by simp; omega) (fun q hq => (h4.lt q hq).1)
        clear h4 h5 hown3 hg3 hat3
        go_roundw
        case rel => exact ⟨k + 1, by omega, by go_num, HT2, hbe2⟩
        case measure => simp [intOf]; omega
      · have HC := hide hcx
        clear hcx
        go_wp2_with fail
        refine (passed_any a x.i ha hxi _).mono ?_
        rintro e w' ⟨rfl, rfl⟩
        rw [HC.out]
        obtain ⟨g4, g5, h4, h5, hs⟩ := HT
        have hle := (dueL_le a l k).1
        go_wp2_with (at_builtin; refine wpList_append_g _ rfl (.tmp 22) (.tmp 24) _ rfl w.heap.size 31 _ 8 64 under35 info31 rfl (by omega) _ _ _ g5 rfl ((h5.alloc _).alloc _) (some ⟨wr.heap.size + 1, 0, none⟩) 1 1 (chv [x]) rfl (rd8_one2 _ x (by simp)) (by omega) (chv_one [x]) (by omega) (by omega) (by simp; omega) ?_; intro v3 w3 g3 hown3 hg3 hat3)
        have HT2 := Two.yes HX.out HC.out ((h4.alloc _).alloc _) hs hown3 hg3 hat3
        have hbe2 : Below w.heap.size w w3 := ((hbe.alloc (by omega) _).alloc (by simp; omega) _).grown hg3 (by simp; omega) (fun q hq => (h5.lt q hq).1)
        clear h4 h5 hown3 hg3 hat3
        go_roundw
        case rel => exact ⟨k + 1, by omega, by go_num, HT2, hbe2⟩
        case measure => simp [intOf]; omega
    · obtain rfl : k = n := by omega
      obtain ⟨g4, g5, h4, h5, hs⟩ := HT
      rw [List.take_of_length_le (by rw [HL.out]; exact Nat.le_refl _)] at h4 h5
      obtain ⟨R, cr, rfl, _, hr⟩ := h4.rd
      obtain ⟨Q, cq, rfl, _, hq⟩ := h5.rd
      go_wp2
      go_ret2
      exact ⟨R, Q, _, _, cr, cq, rfl, hr, hq, hbe⟩
set_option maxHeartbeats 2000000 in
theorem rdue_any (A : Option Addr) (n c a : Nat) (l : List Chg) (w : World) (hA : Rd w 8 A n (chv l)) (hn : n ≤ 1000000) (hc : n ≤ c) (ha : a < 65536) (hl : ∀ x ∈ l, x.i < 65536) :
    Calls Try.prog 19 #[.slice A n c, .int .u16 (a : Int)] w fun e w' => ∃ R Q nr nq cr cq, e = .returned (.tuple #[.slice R nr cr, .slice Q nq cq]) ∧ Rd w' 8 R nr (chv (restL a l)) ∧ Rd w' 8 Q nq (chv (dueL a l)) ∧ Below w.heap.size w w' := by
  have HL := hide hA.clen
  go_enter Try.func19, Try.ntmps19
  go_wp2
  go_loopw [4, 5, 6] (fun v4 v5 i wr => ∃ k : Nat, k ≤ n ∧ i = .int .i64 k ∧ Two w.heap.size a l k v4 v5 wr ∧ Below w.heap.size w wr) (fun _ _ i _ => n - (intOf i).toNat)
  case atStart => exact ⟨0, Nat.zero_le _, rfl, Two.start _ _ _ _ _ _, ((Below.refl _ _).alloc (Nat.le_refl _) _).alloc (by simp <;> omega) _⟩
  case round =>
    obtain ⟨k, hk, rfl, HT, hbe⟩ := hrel
    by_cases hlt : k < n
    · obtain ⟨b, o, x, rfl, hbs, HX, p0, p1, p2, p3, p4, p5, p6, p7⟩ := (hA.below hbe).chg hlt
      have hxi : x.i < 65536 := hl x (List.mem_of_getElem? HX.out)
      have hsz := hbe.size
      cases hcx : came a x.i
      · have HC := hide hcx
        clear hcx
        go_wp2_with fail
        refine (rpassed_any a x.i ha hxi _).mono ?_
        rintro e w' ⟨rfl, rfl⟩
        rw [HC.out]
        obtain ⟨g4, g5, h4, h5, hs⟩ := HT
        have hle := (dueL_le a l k).2
        go_wp2_with (at_builtin; refine wpList_append_g _ rfl (.tmp 29) (.tmp 34) _ rfl w.heap.size 31 _ 8 64 under35 info31 rfl (by omega) _ _ _ g4 rfl (h4.alloc _) (some ⟨wr.heap.size, 0, none⟩) 1 1 (chv [x]) rfl (rd8_one2 _ x rfl) (by omega) (chv_one [x]) (by omega) (by omega) (by simp; omega) ?_; intro v3 w3 g3 hown3 hg3 hat3)
        have HT2 := Two.no HX.out HC.out (h5.alloc _) hs hown3 hg3 hat3
        have hbe2 : Below w.heap.size w w3 := (hbe.alloc (by omega) _).grown hg3 (by simp; omega) (fun q hq => (h4.lt q hq).1)
        clear h4 h5 hown3 hg3 hat3
        go_roundw
        case rel => exact ⟨k + 1, by omega, by go_num, HT2, hbe2⟩
        case measure => simp [intOf]; omega
      · have HC := hide hcx
        clear hcx
        go_wp2_with fail
        refine (rpassed_any a x.i ha hxi _).mono ?_
        rintro e w' ⟨rfl, rfl⟩
        rw [HC.out]
        obtain ⟨g4, g5, h4, h5, hs⟩ := HT
        have hle := (dueL_le a l k).1
        go_wp2_with (at_builtin; refine wpList_append_g _ rfl (.tmp 22) (.tmp 27) _ rfl w.heap.size 31 _ 8 64 under35 info31 rfl (by omega) _ _ _ g5 rfl (h5.alloc _) (some ⟨wr.heap.size, 0, none⟩) 1 1 (chv [x]) rfl (rd8_one2 _ x rfl) (by omega) (chv_one [x]) (by omega) (by omega) (by simp; omega) ?_; intro v3 w3 g3 hown3 hg3 hat3)
        have HT2 := Two.yes HX.out HC.out (h4.alloc _) hs hown3 hg3 hat3
        have hbe2 : Below w.heap.size w w3 := (hbe.alloc (by omega) _).grown hg3 (by simp; omega) (fun q hq => (h5.lt q hq).1)
        clear h4 h5 hown3 hg3 hat3
        go_roundw
        case rel => exact ⟨k + 1, by omega, by go_num, HT2, hbe2⟩
        case measure => simp [intOf]; omega
    · obtain rfl : k = n := by omega
      obtain ⟨g4, g5, h4, h5, hs⟩ := HT
      rw [List.take_of_length_le (by rw [HL.out]; exact Nat.le_refl _)] at h4 h5
      obtain ⟨R, cr, rfl, _, hr⟩ := h4.rd
      obtain ⟨Q, cq, rfl, _, hq⟩ := h5.rd
      go_wp2
      go_ret2
      exact ⟨R, Q, _, _, cr, cq, rfl, hr, hq, hbe⟩
end Go.Proofs.Ytbpfloalncapcaa
