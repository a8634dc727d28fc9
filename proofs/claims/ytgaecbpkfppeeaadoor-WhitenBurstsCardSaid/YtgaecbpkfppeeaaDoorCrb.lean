/-
  The walks of package crc's and its reference's functions on byte strings: Clone, Equal, Same, copied, tail, bit. Each function's contract.
-/
import Derived.Test.YtgaecbpkfppeeaaDoorCra
import Derived.Deep.RegionLaw
import Derived.Lib.SliceRun
namespace Go.Proofs.YtgaecbpkfppeeaaDoor
set_option linter.unusedVariables false
set_option linter.unusedSimpArgs false
open Go.RowKit

theorem under8 : Tryd.prog.underlying 23 = some (.slice 5) := Tryd.underlying23
theorem info8 : (Tryd.prog.info? 5).map (fun i => (i.zero, i.size, i.bytes)) = some (some (.int .u8 0), 1, 1) := by kernel_rfl

set_option maxHeartbeats 400000 in
theorem same_any (A C : Option Addr) (n m c d : Nat) (la lb : List Nat) (w : World) (hA : Rd w 1 A n (bv la)) (hC : Rd w 1 C m (bv lb)) (ha : ∀ x ∈ la, x < 256) (hb : ∀ x ∈ lb, x < 256) :
    Calls Tryd.prog 18 #[.slice A n c, .slice C m d] w fun e w' => e = .returned (.bool (decide (la = lb))) ∧ w = w' := by
  have k1 := run_bstr hA 23 5 9 under8 Tryd.underlying5 Tryd.underlying9 c
  have k2 := run_bstr hC 23 5 9 under8 Tryd.underlying5 Tryd.underlying9 d
  go_enter Tryd.func18, Tryd.ntmps18
  go_wp2
  go_ret
  exact ⟨ret_bool (bstr_beq la lb ha hb), rfl⟩
set_option maxHeartbeats 400000 in
theorem copied_any (A : Option Addr) (n c : Nat) (l : List Nat) (w : World) (hA : Rd w 1 A n (bv l)) (hn : n ≤ 140737488351232) :
    Calls Tryd.prog 12 #[.slice A n c] w fun e w' => ∃ v, e = .returned v ∧ w'.ownsRow w.heap.size 5 1 v n (bv l) ∧ Below w.heap.size w w' := by
  go_enter Tryd.func12, Tryd.ntmps12
  go_wp2_with (at_builtin; refine wpList_append_rd _ rfl (.tmp 3) (.tmp 4) _ rfl w.heap.size 5 (.int .u8 0) 1 1 under8 info8 rfl (by omega) (.slice (some ⟨w.heap.size, 0, none⟩) 0 0) 0 [] rfl (own_made w) A n c (bv l) rfl (hA.alloc _) (bv_one l) (by omega) (by omega) (by simp) ?_; intro v1 w1 hown hg _)
  go_ret
  rw [Nat.zero_add, List.nil_append] at hown
  exact ⟨v1, rfl, hown, ((Below.refl _ _).alloc (Nat.le_refl _) _).grown hg (by simp) (by simp [Value.ownBlock])⟩
set_option maxHeartbeats 400000 in
theorem clone_any (A : Option Addr) (n c : Nat) (l : List Nat) (w : World) (hA : Rd w 1 A n (bv l)) (hn : n ≤ 140737488351232) :
    Calls Tryd.prog 28 #[.slice A n c] w fun e w' => ∃ v, e = .returned v ∧ w'.ownsRow w.heap.size 5 1 v n (bv l) ∧ Below w.heap.size w w' := by
  have qT : ∀ (w : World) (a : Option Addr) (n c n' c' : Nat), (binOp .eql 23 (.slice a n c) (.slice none n' c')).run Tryd.prog w = .ok (.bool a.isNone) w := fun w a n c n' c' => Lib.run_eql_slice_nil w _ _ a n c n' c' Tryd.underlying23
  rcases A with _ | p
  · have hn0 : n = 0 := by
      rcases Nat.eq_zero_or_pos n with h | h
      · exact h
      · obtain ⟨b, o, e, _⟩ := hA.2 h; cases e
    subst hn0
    have hl : l = [] := List.eq_nil_of_length_eq_zero hA.blen
    subst hl
    go_enter Tryd.func28, Tryd.ntmps28
    go_wp2
    go_ret
    exact ⟨_, rfl, World.ownsRow_nil _ _ _ _, Below.refl _ _⟩
  · go_enter Tryd.func28, Tryd.ntmps28
    go_wp2_with (at_builtin; refine wpList_append_rd _ rfl (.tmp 5) (.tmp 6) _ rfl w.heap.size 5 (.int .u8 0) 1 1 under8 info8 rfl (by omega) (.slice (some ⟨w.heap.size, 0, none⟩) 0 0) 0 [] rfl (own_made w) (some p) n c (bv l) rfl (hA.alloc _) (bv_one l) (by omega) (by omega) (by simp) ?_; intro v1 w1 hown hg _)
    go_ret
    rw [Nat.zero_add, List.nil_append] at hown
    exact ⟨v1, rfl, hown, ((Below.refl _ _).alloc (Nat.le_refl _) _).grown hg (by simp) (by simp [Value.ownBlock])⟩
theorem take_all_eq {α : Type} {la lb : List α} {n : Nat} (h : la.take n = lb.take n) (ha : la.length = n) (hb : lb.length = n) : la = lb := by
  rw [List.take_of_length_le (by omega), List.take_of_length_le (by omega)] at h
  exact h
set_option maxHeartbeats 400000 in
theorem equal_any (A C : Option Addr) (n m c d : Nat) (la lb : List Nat) (w : World) (hA : Rd w 1 A n (bv la)) (hC : Rd w 1 C m (bv lb)) (hn : n ≤ 140737488351232) :
    Calls Tryd.prog 27 #[.slice A n c, .slice C m d] w fun e w' => e = .returned (.bool (decide (la = lb))) ∧ Below w.heap.size w w' := by
  by_cases hnm : n = m
  · subst hnm
    have HLA := hide hA.blen
    have HLC := hide hC.blen
    go_enter Tryd.func27, Tryd.ntmps27
    go_wp2
    go_loopw [13] (fun j wr => ∃ k : Nat, k ≤ n ∧ j = .int .i64 k ∧ Hid (la.take k = lb.take k) ∧ Rd wr 1 A n (bv la) ∧ Rd wr 1 C n (bv lb) ∧ Below w.heap.size w wr) (fun j _ => n - (intOf j).toNat)
    case atStart => exact ⟨0, Nat.zero_le _, rfl, hide rfl, hA, hC, Below.refl _ _⟩
    case round =>
      obtain ⟨k, hk, rfl, HK, hA, hC, hbel⟩ := hrel
      by_cases hlt : k < n
      · obtain ⟨b, o, x, rfl, hbs, hcx, HX⟩ := hA.byte hlt
        obtain ⟨b', o', y, rfl, hbs', hcy, HY⟩ := hC.byte hlt
        by_cases hxy : x = y
        · subst hxy
          go_wp2
          go_region
          go_wp2
          go_roundw
          case rel => exact ⟨k + 1, by omega, by go_num, hide (by rw [take_snoc HX.out, take_snoc HY.out, HK.out]), hA.drew, hC.drew, hbel.drew⟩
          case measure => simp [intOf]; omega
        · have hne : la ≠ lb := fun e => by
            have h1 := HX.out
            rw [e, HY.out] at h1
            exact hxy (by injection h1 with h1; exact h1.symm)
          have hd := hide (decide_eq_false hne)
          have h1 : ((x : Int) == (y : Int)) = false := by rw [beq_eq_false_iff_ne]; omega
          clear hne
          go_wp2
          go_region
          go_wp2
          go_ret
          exact ⟨ret_bool hd.out.symm, hbel.drew⟩
      · obtain rfl : k = n := by omega
        have hd := hide (decide_eq_true (take_all_eq HK.out HLA.out HLC.out))
        go_wp2
        go_ret
        exact ⟨ret_bool hd.out.symm, hbel⟩
  · have hne : la ≠ lb := fun e => hnm (by rw [← hA.blen, ← hC.blen, e])
    have hd : decide (la = lb) = false := decide_eq_false hne
    rw [hd]
    clear hne hd
    have h1 : ((n : Int) == (m : Int)) = false := by rw [beq_eq_false_iff_ne]; omega
    go_enter Tryd.func27, Tryd.ntmps27
    go_wp2
    go_ret
    exact ⟨rfl, Below.refl _ _⟩
theorem wtail (s : Nat) : bv (ctail s) = [.int .u8 ((s % 256 : Nat) : Int), .int .u8 ((s / 256 % 256 : Nat) : Int), .int .u8 ((s / 65536 : Nat) : Int)] := rfl
theorem wtailI (s : Nat) : bv (ctail s) = [.int .u8 ((s : Int) % 256), .int .u8 ((s : Int) / 256 % 256), .int .u8 ((s : Int) / 65536)] := by
  rw [wtail, Int.natCast_emod, Int.natCast_emod, Int.natCast_ediv, Int.natCast_ediv]; rfl
theorem tail_rd (w : World) (t : TypeId) (s : Nat) : Rd (w.alloc (.cells #[.int .u8 ((s : Int) % 256), .int .u8 ((s : Int) / 256 % 256), .int .u8 ((s : Int) / 65536)] t)) 1 (some ⟨w.heap.size, 0, none⟩) 3 (bv (ctail s)) := by
  rw [wtailI]
  exact (Blk.new w t _).rd rfl
theorem tail_any (s : Nat) (hs : s < 16777216) (w : World) :
    Calls Tryd.prog 29 #[.int .u32 (s : Int)] w fun e w' => e = .returned (.slice (some ⟨w.heap.size, 0, none⟩) 3 3) ∧ w' = w.alloc (.cells (bv (ctail s)).toArray 5) := by
  go_enter Tryd.func29, Tryd.ntmps29
  go_wp2
  go_ret
  exact ⟨rfl, by rw [wtailI]⟩
set_option maxHeartbeats 400000 in
theorem bit_any (i : Nat) (hi : i < 8) (w : World) :
    Calls Tryd.prog 30 #[.int .i64 (i : Int)] w fun e w' => e = .returned (.int .u8 ((2 ^ i : Nat) : Int)) ∧ w = w' := by
  go_enter Tryd.func30, Tryd.ntmps30
  go_wp2
  go_loop [3, 4] (fun v j => ∃ k m : Nat, k ≤ i ∧ j = .int .i64 k ∧ v = .int .u8 (m : Int) ∧ Hid (m = 2 ^ k)) (fun _ j => i - (intOf j).toNat)
  case atStart => exact ⟨0, 1, Nat.zero_le _, rfl, rfl, hide rfl⟩
  case round =>
    obtain ⟨k, m, hk, rfl, rfl, HM⟩ := hrel
    have hm : m ≤ 128 := by rw [HM.out]; exact Nat.pow_le_pow_right (n := 2) (j := 7) (by omega) (by omega)
    by_cases hlt : k < i
    · have hm2 : m ≤ 64 := by rw [HM.out]; exact Nat.pow_le_pow_right (n := 2) (j := 6) (by omega) (by omega)
      go_wp2
      go_round
      case rel => exact ⟨k + 1, 2 * m, by omega, by go_num, by push_cast; first | rfl | rw [Int.mul_comm], hide (by rw [HM.out, Nat.pow_succ, Nat.mul_comm])⟩
      case measure => simp [intOf]; omega
    · obtain rfl : k = i := by omega
      go_wp2
      go_ret
      exact ⟨ret_int (by rw [HM.out]; simp), rfl⟩

set_option maxHeartbeats 400000 in
theorem append_any (a : Nat) (ha : a < 4294967296) (A : Option Addr) (n c : Nat) (l : List Nat) (w : World) (hT : Tab w) (hA : Rd w 1 A n (bv l)) (hl : ∀ x ∈ l, x < 256) (hn : n ≤ 140737488351232) :
    Calls Tryd.prog 19 #[.int .u32 (a : Int), .slice A n c] w fun e w' => ∃ v, e = .returned v ∧ w'.ownsRow w.heap.size 5 1 v (n + 3) (bv (l ++ ctail (csum (a % 16777216) l))) ∧ Below w.heap.size w w' := by
  obtain ⟨s, hs⟩ : ∃ s, s = csum (a % 16777216) l := ⟨_, rfl⟩
  have hs2 : s < 16777216 := by rw [hs]; exact csum_lt _ _ (Nat.mod_lt _ (by omega))
  go_enter Tryd.func19, Tryd.ntmps19
  go_wp2_with fail
  refine (sum_any a ha A n c l w hT hA hl hn).mono ?_
  rintro e w' ⟨rfl, rfl⟩
  rw [← hs]
  have HS := hide hs
  clear hs
  go_wp2_with fail
  refine (clone_any A n c l w hA hn).mono ?_
  rintro e w1 ⟨v, rfl, hown, hbel⟩
  have hsz := hbel.size
  go_wp2_with (at_builtin; refine wpList_append_rd _ rfl (.tmp 10) (.tmp 19) _ rfl w.heap.size 5 (.int .u8 0) 1 1 under8 info8 rfl (by omega) v n (bv l) rfl (hown.alloc _) (some ⟨w1.heap.size, 0, none⟩) 3 3 (bv (ctail s)) rfl (tail_rd w1 _ s) (bv_one _) (by omega) (by omega) (by simp; omega) ?_; intro v1 w2 hown1 hg _)
  go_ret
  rw [← bv_append, HS.out] at hown1
  exact ⟨v1, rfl, hown1, (hbel.alloc hsz _).grown hg (by simp; omega) (fun q hq => (hown.lt q hq).1)⟩
set_option maxHeartbeats 400000 in
theorem rappend_any (a : Nat) (ha : a < 4294967296) (A : Option Addr) (n c : Nat) (l : List Nat) (w : World) (hA : Rd w 1 A n (bv l)) (hl : ∀ x ∈ l, x < 256) (hn : n ≤ 140737488351232) :
    Calls Tryd.prog 20 #[.int .u32 (a : Int), .slice A n c] w fun e w' => ∃ v, e = .returned v ∧ w'.ownsRow w.heap.size 5 1 v (n + 3) (bv (l ++ ctail (csum (a % 16777216) l))) ∧ Below w.heap.size w w' := by
  obtain ⟨s, hs⟩ : ∃ s, s = csum (a % 16777216) l := ⟨_, rfl⟩
  have hs2 : s < 16777216 := by rw [hs]; exact csum_lt _ _ (Nat.mod_lt _ (by omega))
  go_enter Tryd.func20, Tryd.ntmps20
  have HS := hide hs
  clear hs
  go_wp2_with (at_builtin; refine wpList_append_rd _ rfl (.tmp 5) (.tmp 6) _ rfl w.heap.size 5 (.int .u8 0) 1 1 under8 info8 rfl (by omega) (.slice (some ⟨w.heap.size, 0, none⟩) 0 0) 0 [] rfl (own_made w) A n c (bv l) rfl (hA.alloc _) (bv_one l) (by omega) (by omega) (by simp) ?_; intro v1 w1 hown hg _)
  have hb1 : Below w.heap.size w w1 := ((Below.refl _ _).alloc (Nat.le_refl _) _).grown hg (by simp) (by simp [Value.ownBlock])
  rw [Nat.zero_add, List.nil_append] at hown
  refine (rsum_any a ha A n c l w1 (hA.below hb1) hl hn).mono ?_
  rintro e w' ⟨rfl, rfl⟩
  rw [← HS.out]
  go_wp2_with fail
  refine (tail_any s hs2 w1).mono ?_
  rintro e w' ⟨rfl, rfl⟩
  have hsz := hb1.size
  go_wp2_with (at_builtin; refine wpList_append_rd _ rfl (.tmp 7) (.tmp 11) _ rfl w.heap.size 5 (.int .u8 0) 1 1 under8 info8 rfl (by omega) v1 n (bv l) rfl (hown.alloc _) (some ⟨w1.heap.size, 0, none⟩) 3 3 (bv (ctail s)) rfl ((Blk.new w1 _ _).rd rfl) (bv_one _) (by omega) (by omega) (by simp; omega) ?_; intro v2 w2 hown1 hg2 _)
  go_ret
  rw [← bv_append, HS.out] at hown1
  exact ⟨v2, rfl, hown1, (hb1.alloc hsz _).grown hg2 (by simp; omega) (fun q hq => (hown.lt q hq).1)⟩

/-- What is answered to bytes with a checksum, and the bytes. -/
def cerr (s : Nat) (l : List Nat) : Nat := if l.length < 3 then 3 else if csum s l = 0 then 0 else 10
def cout (s : Nat) (l : List Nat) : List Nat := if l.length < 3 then [] else if csum s l = 0 then l.take (l.length - 3) else []
theorem cerr_short {s : Nat} {l : List Nat} (h : l.length < 3) : cerr s l = 3 ∧ cout s l = [] := ⟨if_pos h, if_pos h⟩
theorem cerr_ok {s n : Nat} {l : List Nat} (h : l.length = n + 3) (h0 : csum s l = 0) : cerr s l = 0 ∧ cout s l = l.take n := by
  have h3 : ¬ l.length < 3 := by omega
  unfold cerr cout
  rw [if_neg h3, if_neg h3, if_pos h0, if_pos h0, h]
  exact ⟨rfl, rfl⟩
theorem cerr_bad {s n : Nat} {l : List Nat} (h : l.length = n + 3) (h0 : csum s l ≠ 0) : cerr s l = 10 ∧ cout s l = [] := by
  have h3 : ¬ l.length < 3 := by omega
  unfold cerr cout
  rw [if_neg h3, if_neg h3, if_neg h0, if_neg h0]
  exact ⟨rfl, rfl⟩
set_option maxHeartbeats 400000 in
theorem check_any (a : Nat) (ha : a < 4294967296) (A : Option Addr) (n c : Nat) (l : List Nat) (w : World) (hT : Tab w) (hA : Rd w 1 A n (bv l)) (hl : ∀ x ∈ l, x < 256) (hc : n ≤ c) (hn : n ≤ 140737488351000) :
    Calls Tryd.prog 16 #[.int .u32 (a : Int), .slice A n c] w fun e w' => ∃ v, e = .returned (.tuple #[v, .int .i64 ((cerr (a % 16777216) l : Nat) : Int)]) ∧ w'.ownsRow w.heap.size 5 1 v (cout (a % 16777216) l).length (bv (cout (a % 16777216) l)) ∧ Below w.heap.size w w' := by
  have hlen := hA.blen
  have hs2 : a % 16777216 < 16777216 := Nat.mod_lt _ (by omega)
  by_cases hsh : n < 3
  · obtain ⟨e1, e2⟩ := cerr_short (s := a % 16777216) (l := l) (by omega)
    rw [e1, e2]
    clear e1 e2 hlen
    go_enter Tryd.func16, Tryd.ntmps16
    go_wp2
    go_ret2
    exact ⟨_, rfl, World.ownsRow_nil _ _ _ _, Below.refl _ _⟩
  · obtain ⟨m, hm⟩ : ∃ m, m = n - 3 := ⟨_, rfl⟩
    have hlm : l.length = m + 3 := by omega
    have hkey := csum_take (a % 16777216) l hs2 m hlm hl
    have hnm : (n : Int) - 3 = (m : Int) := by omega
    have hmn : m ≤ n := by omega
    have hmc : m ≤ c := by omega
    have hTk : Rd w 1 A m (bv (l.take m)) := by rw [← bv_take]; exact hA.take hmn
    have hTl : ∀ x ∈ l.take m, x < 256 := fun x hx => hl x (List.mem_of_mem_take hx)
    have hl2 : (l.take m).length = m := by rw [List.length_take, hlm]; omega
    have HL2 := hide hl2
    rcases (show (cerr (a % 16777216) l = 0 ∧ cout (a % 16777216) l = l.take m ∧ decide (l.take m ++ ctail (csum (a % 16777216) (l.take m)) = l) = true) ∨ (cerr (a % 16777216) l = 10 ∧ cout (a % 16777216) l = [] ∧ decide (l.take m ++ ctail (csum (a % 16777216) (l.take m)) = l) = false) from by
      by_cases h0 : csum (a % 16777216) l = 0
      · exact .inl ⟨(cerr_ok hlm h0).1, (cerr_ok hlm h0).2, decide_eq_true (hkey.2 h0)⟩
      · exact .inr ⟨(cerr_bad hlm h0).1, (cerr_bad hlm h0).2, decide_eq_false fun e => h0 (hkey.1 e)⟩) with ⟨e1, e2, hd⟩ | ⟨e1, e2, hd⟩
    all_goals
      rw [e1, e2]
      have HD := hide hd
      clear e1 e2 hd hkey hlm hlen hm hl2
      go_enter Tryd.func16, Tryd.ntmps16
      go_wp2_with fail
      refine (append_any a ha A m c (l.take m) w hT hTk hTl (by omega)).mono ?_
      rintro e w1 ⟨v1, rfl, hown1, hb1⟩
      obtain ⟨A1, c1, rfl, hc1, hm1, hr1⟩ := own_rd hown1
      go_wp2_with fail
      refine (equal_any A1 A (m + 3) n c1 c _ l w1 hr1 (hA.below hb1) (by omega)).mono ?_
      rintro e w2 ⟨rfl, hb2⟩
      have hsz1 := hb1.size
      have hb12 : Below w.heap.size w w2 := hb1.trans (hb2.mono hsz1)
      have hsz2 := hb12.size
      rw [HD.out]
      clear hown1 hr1
    · go_wp2_with fail
      refine (clone_any A m c (l.take m) w2 (hTk.below hb12) (by omega)).mono ?_
      rintro e w3 ⟨v3, rfl, hown3, hb3⟩
      go_wp2
      go_ret2
      rw [HL2.out]
      exact ⟨_, rfl, ownsRow_weak hown3 hsz2, hb12.trans (hb3.mono hsz2)⟩
    · go_wp2
      go_ret2
      exact ⟨_, rfl, World.ownsRow_nil _ _ _ _, hb12⟩
set_option maxHeartbeats 4000000 in
theorem rcheck_any (a : Nat) (ha : a < 4294967296) (A : Option Addr) (n c : Nat) (l : List Nat) (w : World) (hA : Rd w 1 A n (bv l)) (hl : ∀ x ∈ l, x < 256) (hc : n ≤ c) (hn : n ≤ 140737488351000) :
    Calls Tryd.prog 17 #[.int .u32 (a : Int), .slice A n c] w fun e w' => ∃ v, e = .returned (.tuple #[v, .int .i64 ((cerr (a % 16777216) l : Nat) : Int)]) ∧ w'.ownsRow w.heap.size 5 1 v (cout (a % 16777216) l).length (bv (cout (a % 16777216) l)) ∧ Below w.heap.size w w' := by
  have hlen := hA.blen
  have hs2 : a % 16777216 < 16777216 := Nat.mod_lt _ (by omega)
  by_cases hsh : n < 3
  · obtain ⟨e1, e2⟩ := cerr_short (s := a % 16777216) (l := l) (by omega)
    rw [e1, e2]
    clear e1 e2 hlen
    go_enter Tryd.func17, Tryd.ntmps17
    go_wp2
    go_ret2
    exact ⟨_, rfl, World.ownsRow_nil _ _ _ _, Below.refl _ _⟩
  · obtain ⟨m, hm⟩ : ∃ m, m = n - 3 := ⟨_, rfl⟩
    have hlm : l.length = m + 3 := by omega
    have hkey := csum_take (a % 16777216) l hs2 m hlm hl
    have hnm : (n : Int) - 3 = (m : Int) := by omega
    have hmn : m ≤ n := by omega
    have hmc : m ≤ c := by omega
    have hTk : Rd w 1 A m (bv (l.take m)) := by rw [← bv_take]; exact hA.take hmn
    have hTl : ∀ x ∈ l.take m, x < 256 := fun x hx => hl x (List.mem_of_mem_take hx)
    have hl2 : (l.take m).length = m := by rw [List.length_take, hlm]; omega
    have HL2 := hide hl2
    have hl3 : l.drop m = ctail (csum (a % 16777216) (l.take m)) ↔ csum (a % 16777216) l = 0 := by
      rw [← hkey]
      constructor
      · intro e; rw [← e, List.take_append_drop]
      · intro e
        have e' : l.take m ++ ctail (csum (a % 16777216) (l.take m)) = l.take m ++ l.drop m := e.trans (List.take_append_drop m l).symm
        exact (List.append_cancel_left e').symm
    obtain ⟨b, o, rfl, hbw, _⟩ := hA.2 (by omega)
    have hD : Rd w 1 (some ⟨b, o + m, none⟩) (n - m) (bv (l.drop m)) := by
      rw [← bv_drop]
      exact hA.drop hmn _ (fun _ b' o' e => by injection e with e; injection e with e1 e2; rw [e1, e2])
    have hDl : ∀ x ∈ l.drop m, x < 256 := fun x hx => hl x (List.mem_of_mem_drop hx)
    have hs3 := csum_lt (a % 16777216) (l.take m) hs2
    obtain ⟨s, hs⟩ : ∃ s, s = csum (a % 16777216) (l.take m) := ⟨_, rfl⟩
    rw [← hs] at hl3 hs3
    have hb := bstr_beq (l.drop m) (ctail s) hDl (ctail_lt s hs3)
    have k0 := run_bstr (P := Tryd.prog) hD.drew 23 5 9 under8 Tryd.underlying5 Tryd.underlying9 (c - m)
    have k1 := run_bstr (P := Tryd.prog) (hD.alloc (.cells (bv (ctail s)).toArray 5)).drew 23 5 9 under8 Tryd.underlying5 Tryd.underlying9 (c - m)
    have k2 := run_bstr (P := Tryd.prog) ((Blk.new w 5 (bv (ctail s)).toArray).drew.rd (l := bv (ctail s)) (n := 3) rfl) 23 5 9 under8 Tryd.underlying5 Tryd.underlying9 3
    rcases (show (cerr (a % 16777216) l = 0 ∧ cout (a % 16777216) l = l.take m ∧ decide (l.drop m = ctail s) = true) ∨ (cerr (a % 16777216) l = 10 ∧ cout (a % 16777216) l = [] ∧ decide (l.drop m = ctail s) = false) from by
      by_cases h0 : csum (a % 16777216) l = 0
      · exact .inl ⟨(cerr_ok hlm h0).1, (cerr_ok hlm h0).2, decide_eq_true (hl3.2 h0)⟩
      · exact .inr ⟨(cerr_bad hlm h0).1, (cerr_bad hlm h0).2, decide_eq_false fun e => h0 (hl3.1 e)⟩) with ⟨e1, e2, hd⟩ | ⟨e1, e2, hd⟩
    · rw [e1, e2]
      rw [hd] at hb
      have HS := hide hs
      have HD := hide hD
      clear e1 e2 hd hkey hlm hlen hm hl2 hl3 hs hD hDl
      go_enter Tryd.func17, Tryd.ntmps17
      go_wp2_with fail
      go_region_with (first
        | (go_at_call 13; refine (rsum_any a ha _ m c (l.take m) _ ?_ hTl (by omega)).mono ?_; exact hTk.drew; rintro e w' ⟨rfl, rfl⟩; rw [← HS.out])
        | (go_at_call 29; refine (tail_any _ hs3 _).mono ?_; rintro e w' ⟨rfl, rfl⟩))
      all_goals
        go_wp2_with (at_builtin; refine wpList_append_rd _ rfl (.tmp 24) (.tmp 27) _ rfl w.heap.size 5 (.int .u8 0) 1 1 under8 info8 rfl (by omega) (.slice (some ⟨w.heap.size + 1, 0, none⟩) 0 0) 0 [] rfl (own_made2 (by simp) (by simp)) (some ⟨b, o, none⟩) m c (bv (l.take m)) rfl ((hTk.alloc _).drew.alloc _) (bv_one _) (by omega) (by omega) (by simp; omega) ?_; intro v1 w1 hown hg _)
        go_ret2
        rw [Nat.zero_add, List.nil_append] at hown
        rw [HL2.out]
        exact ⟨v1, rfl, hown, (((Below.refl _ _).alloc (Nat.le_refl _) _).drew.alloc (by simp) _).grown hg (by simp; omega) (by simp [Value.ownBlock])⟩
    · rw [e1, e2]
      rw [hd] at hb
      have HS := hide hs
      have HD := hide hD
      clear e1 e2 hd hkey hlm hlen hm hl2 hl3 hs hD hDl
      go_enter Tryd.func17, Tryd.ntmps17
      go_wp2_with fail
      go_region_with (first
        | (go_at_call 13; refine (rsum_any a ha _ m c (l.take m) _ ?_ hTl (by omega)).mono ?_; exact hTk.drew; rintro e w' ⟨rfl, rfl⟩; rw [← HS.out])
        | (go_at_call 29; refine (tail_any _ hs3 _).mono ?_; rintro e w' ⟨rfl, rfl⟩))
      all_goals
        go_wp2
        go_ret2
        exact ⟨_, rfl, World.ownsRow_nil _ _ _ _, ((Below.refl _ _).alloc (Nat.le_refl _) _).drew⟩
end Go.Proofs.YtgaecbpkfppeeaaDoor
