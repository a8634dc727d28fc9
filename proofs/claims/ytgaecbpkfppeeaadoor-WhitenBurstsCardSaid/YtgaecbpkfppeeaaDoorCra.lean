/-
  The walks of package crc's and its reference's functions on the register: feed, Sum, Shift. Each function's contract.
-/
import Derived.Test.YtgaecbpkfppeeaaDoorRows
import Derived.Test.YtgaecbpkfppeeaaDoorCrp
import Derived.Test.YtgaecbpkfppeeaaDoorMem
import Derived.WalkKit
import Derived.WalkSpells
import Derived.WalkLawsBesides
import Derived.Outline
namespace Go.Proofs.YtgaecbpkfppeeaaDoor
set_option linter.unusedVariables false
set_option linter.unusedSimpArgs false
open Go.RowKit

/-- The variable of the package holds its table. -/
def Tab (w : World) : Prop := 0 < w.heap.size ∧ ∀ i, i < 16 → w.cell? ⟨0, i, none⟩ = some (.int .u32 ((ctab.getD i 0 : Nat) : Int))
theorem Tab.below {w w' : World} (h : Tab w) (hb : Below w.heap.size w w') : Tab w' :=
  ⟨Nat.lt_of_lt_of_le h.1 hb.size, fun i hi => (hb.cell (p := ⟨0, i, none⟩) h.1).trans (h.2 i hi)⟩
theorem Tab.alloc {w : World} (h : Tab w) (o : Obj) : Tab (w.alloc o) := h.below ((Below.refl _ _).alloc (Nat.le_refl _) o)
theorem Tab.drew {w : World} (h : Tab w) : Tab w.drew := h
theorem ctab_lt (i : Nat) : ctab.getD i 0 < 16777216 := by
  rcases Nat.lt_or_ge i 16 with h | h
  · have : ∀ i : Fin 16, ctab.getD i.1 0 < 16777216 := by decide
    exact this ⟨i, h⟩
  · rw [List.getD_eq_getElem?_getD, List.getElem?_eq_none (by simpa [ctab] using h)]; decide
theorem u32_xor (a b : Nat) (ha : a < 4294967296) (hb : b < 4294967296) : bits .xor .u32 (a : Int) (b : Int) = ((a ^^^ b : Nat) : Int) := by
  have hx : a ^^^ b < 2 ^ 32 := Nat.xor_lt_two_pow (by omega) (by omega)
  show IntKind.u32.wrap ((BitVec.ofInt 32 (a : Int) ^^^ BitVec.ofInt 32 (b : Int)).toNat : Int) = _
  rw [BitVec.toNat_xor, BitVec.ofInt_natCast, BitVec.ofInt_natCast, BitVec.toNat_ofNat, BitVec.toNat_ofNat, Nat.mod_eq_of_lt (by omega : a < 2 ^ 32), Nat.mod_eq_of_lt (by omega : b < 2 ^ 32), IntKind.wrap_u32]
  omega
theorem u32_and (a b : Nat) (ha : a < 4294967296) (hb : b < 4294967296) : bits .and .u32 (a : Int) (b : Int) = ((a &&& b : Nat) : Int) := by
  have hx : a &&& b < 2 ^ 32 := Nat.and_lt_two_pow _ (by omega)
  show IntKind.u32.wrap ((BitVec.ofInt 32 (a : Int) &&& BitVec.ofInt 32 (b : Int)).toNat : Int) = _
  rw [BitVec.toNat_and, BitVec.ofInt_natCast, BitVec.ofInt_natCast, BitVec.toNat_ofNat, BitVec.toNat_ofNat, Nat.mod_eq_of_lt (by omega : a < 2 ^ 32), Nat.mod_eq_of_lt (by omega : b < 2 ^ 32), IntKind.wrap_u32]
  omega
set_option maxHeartbeats 400000 in
theorem feed_any (r x : Nat) (hr : r < 16777216) (hx : x < 256) (w : World) (hT : Tab w) :
    Calls Tryd.prog 25 #[.int .u32 (r : Int), .int .u8 (x : Int)] w fun e w' => e = .returned (.int .u32 ((cby r x : Nat) : Int)) ∧ w = w' := by
  obtain ⟨q1, hq1⟩ : ∃ q, q = r ^^^ x := ⟨_, rfl⟩
  obtain ⟨i1, hi1⟩ : ∃ q, q = q1 % 16 := ⟨_, rfl⟩
  obtain ⟨t1, ht1⟩ : ∃ q, q = ctab.getD i1 0 := ⟨_, rfl⟩
  obtain ⟨r1, hr1⟩ : ∃ q, q = (r / 16) ^^^ t1 := ⟨_, rfl⟩
  obtain ⟨q2, hq2⟩ : ∃ q, q = r1 ^^^ (x / 16) := ⟨_, rfl⟩
  obtain ⟨i2, hi2⟩ : ∃ q, q = q2 % 16 := ⟨_, rfl⟩
  obtain ⟨t2, ht2⟩ : ∃ q, q = ctab.getD i2 0 := ⟨_, rfl⟩
  obtain ⟨r2, hr2⟩ : ∃ q, q = (r1 / 16) ^^^ t2 := ⟨_, rfl⟩
  have hfin : cby r x = r2 := by rw [cby_eq, hr2, ht2, hi2, hq2, hr1, ht1, hi1, hq1]
  have b1 : q1 < 2 ^ 24 := by rw [hq1]; exact Nat.xor_lt_two_pow (by omega) (by omega)
  have bt1 : t1 < 16777216 := by rw [ht1]; exact ctab_lt _
  have br1 : r1 < 2 ^ 24 := by rw [hr1]; exact Nat.xor_lt_two_pow (by omega) (by omega)
  have b2 : q2 < 2 ^ 24 := by rw [hq2]; exact Nat.xor_lt_two_pow (by omega) (by omega)
  have bt2 : t2 < 16777216 := by rw [ht2]; exact ctab_lt _
  have bi1 : i1 < 16 := by omega
  have bi2 : i2 < 16 := by omega
  have e0 : bits BinOp.xor IntKind.u32 (r : Int) (x : Int) = (q1 : Int) := by rw [u32_xor _ _ (by omega) (by omega), hq1]
  have e1 : bits BinOp.and IntKind.u32 (q1 : Int) 15 = (i1 : Int) := by
    have := u32_and q1 15 (by omega) (by omega)
    rw [show q1 &&& 15 = q1 % 16 from Nat.and_two_pow_sub_one_eq_mod q1 4] at this
    rw [hi1]
    exact this
  have e2 : bits BinOp.xor IntKind.u32 ((r : Int) / 16) (t1 : Int) = (r1 : Int) := by
    have := u32_xor (r / 16) t1 (by omega) (by omega)
    rw [hr1]
    exact this
  have e3 : bits BinOp.xor IntKind.u32 (r1 : Int) ((x : Int) / 16) = (q2 : Int) := by
    have := u32_xor r1 (x / 16) (by omega) (by omega)
    rw [hq2]
    exact this
  have e4 : bits BinOp.and IntKind.u32 (q2 : Int) 15 = (i2 : Int) := by
    have := u32_and q2 15 (by omega) (by omega)
    rw [show q2 &&& 15 = q2 % 16 from Nat.and_two_pow_sub_one_eq_mod q2 4] at this
    rw [hi2]
    exact this
  have e5 : bits BinOp.xor IntKind.u32 ((r1 : Int) / 16) (t2 : Int) = (r2 : Int) := by
    have := u32_xor (r1 / 16) t2 (by omega) (by omega)
    rw [hr2]
    exact this
  have c1 : w.cell? ⟨0, i1, none⟩ = some (.int .u32 (t1 : Int)) := by rw [ht1]; exact hT.2 i1 bi1
  have c2 : w.cell? ⟨0, i2, none⟩ = some (.int .u32 (t2 : Int)) := by rw [ht2]; exact hT.2 i2 bi2
  have HF := hide hfin
  clear hfin hq1 hi1 ht1 hr1 hq2 hi2 ht2 hr2 hT
  go_enter Tryd.func25, Tryd.ntmps25
  go_wp2
  go_ret
  exact ⟨ret_int (by rw [HF.out]), rfl⟩
set_option maxHeartbeats 400000 in
theorem rfeed_any (r b : Nat) (hr : r < 16777216) (hb : b < 2) (w : World) :
    Calls Tryd.prog 26 #[.int .u32 (r : Int), .int .u32 (b : Int)] w fun e w' => e = .returned (.int .u32 ((cfb r b : Nat) : Int)) ∧ w = w' := by
  obtain ⟨q, hq⟩ : ∃ q, q = (r % 2) ^^^ b := ⟨_, rfl⟩
  have e0 : bits BinOp.xor IntKind.u32 ((r : Int) % 2) (b : Int) = (q : Int) := by
    have := u32_xor (r % 2) b (by omega) (by omega)
    rw [hq]
    exact this
  have e1 : bits BinOp.xor IntKind.u32 ((r : Int) / 2) 14311424 = (((r / 2) ^^^ 14311424 : Nat) : Int) := u32_xor (r / 2) 14311424 (by omega) (by omega)
  by_cases h : q = 1
  · have HF := hide (show cfb r b = (r / 2) ^^^ 14311424 from by unfold cfb; rw [← hq, if_pos h])
    clear hq
    subst h
    go_enter Tryd.func26, Tryd.ntmps26
    go_wp2
    go_ret
    exact ⟨ret_int (by rw [HF.out]), rfl⟩
  · have HF := hide (show cfb r b = r / 2 from by unfold cfb; rw [← hq, if_neg h, Nat.xor_zero])
    have hne : ((q : Int) == 1) = false := by rw [beq_eq_false_iff_ne]; omega
    clear hq
    go_enter Tryd.func26, Tryd.ntmps26
    go_wp2
    go_ret
    exact ⟨ret_int (by rw [HF.out]; omega), rfl⟩

theorem mask_and (a : Nat) (ha : a < 4294967296) : bits BinOp.and IntKind.u32 (a : Int) 16777215 = ((a % 16777216 : Nat) : Int) := by
  have := u32_and a 16777215 ha (by omega)
  rw [show a &&& 16777215 = a % 16777216 from Nat.and_two_pow_sub_one_eq_mod a 24] at this
  exact this
theorem csum_snoc {l : List Nat} {k x : Nat} (s : Nat) (h : l[k]? = some x) : csum s (l.take (k + 1)) = cby (csum s (l.take k)) x := by
  rw [take_snoc h, csum_append]; rfl
set_option maxHeartbeats 400000 in
theorem sum_any (a : Nat) (ha : a < 4294967296) (A : Option Addr) (n c : Nat) (l : List Nat) (w : World) (hT : Tab w) (hA : Rd w 1 A n (bv l)) (hl : ∀ x ∈ l, x < 256) (hn : n ≤ 140737488351232) :
    Calls Tryd.prog 11 #[.int .u32 (a : Int), .slice A n c] w fun e w' => e = .returned (.int .u32 ((csum (a % 16777216) l : Nat) : Int)) ∧ w = w' := by
  have hm := mask_and a ha
  obtain ⟨s0, hs0⟩ : ∃ s, s = a % 16777216 := ⟨_, rfl⟩
  have hs : s0 < 16777216 := by omega
  rw [← hs0] at hm ⊢
  have HL := hide hA.blen
  clear hs0
  go_enter Tryd.func11, Tryd.ntmps11
  go_wp2
  clear hm
  go_loop [5, 12] (fun r i => ∃ k : Nat, k ≤ n ∧ i = .int .i64 k ∧ r = .int .u32 ((csum s0 (l.take k) : Nat) : Int)) (fun _ i => n - (intOf i).toNat)
  case atStart => exact ⟨0, Nat.zero_le _, rfl, rfl⟩
  case round =>
    obtain ⟨k, hk, rfl, rfl⟩ := hrel
    by_cases hlt : k < n
    · obtain ⟨b, o, x, rfl, hbs, hcx, HX⟩ := hA.byte hlt
      go_wp2_with (go_at_call 25; refine (feed_any _ x (csum_lt _ _ hs) (hl x (List.mem_of_getElem? HX.out)) _ hT).mono ?_; rintro e w' ⟨rfl, rfl⟩)
      go_round
      case rel => exact ⟨k + 1, by omega, by go_num, by rw [csum_snoc s0 HX.out]⟩
      case measure => simp [intOf]; omega
    · obtain rfl : k = n := by omega
      go_wp2
      go_ret
      exact ⟨ret_int (by rw [List.take_of_length_le (by rw [HL.out]; exact Nat.le_refl _)]), rfl⟩
set_option maxHeartbeats 800000 in
theorem rsum_any (a : Nat) (ha : a < 4294967296) (A : Option Addr) (n c : Nat) (l : List Nat) (w : World) (hA : Rd w 1 A n (bv l)) (hl : ∀ x ∈ l, x < 256) (hn : n ≤ 140737488351232) :
    Calls Tryd.prog 13 #[.int .u32 (a : Int), .slice A n c] w fun e w' => e = .returned (.int .u32 ((csum (a % 16777216) l : Nat) : Int)) ∧ w = w' := by
  have HL := hide hA.blen
  go_enter Tryd.func13, Tryd.ntmps13
  go_wp2
  go_loop [5, 6] (fun r i => ∃ k s : Nat, k ≤ n ∧ i = .int .i64 k ∧ r = .int .u32 (s : Int) ∧ s < 16777216 ∧ Hid (s = csum (a % 16777216) (l.take k))) (fun _ i => n - (intOf i).toNat)
  case atStart => exact ⟨0, a % 16777216, Nat.zero_le _, rfl, rfl, by omega, hide rfl⟩
  case round =>
    obtain ⟨k, s, hk, rfl, rfl, hs, HS⟩ := hrel
    by_cases hlt : k < n
    · obtain ⟨b, o, x, rfl, hbs, hcx, HX⟩ := hA.byte hlt
      have hx : x < 256 := hl x (List.mem_of_getElem? HX.out)
      go_wp2
      go_loop [5, 7, 8] (fun r v j => ∃ m t y : Nat, m ≤ 8 ∧ j = .int .i64 m ∧ r = .int .u32 (t : Int) ∧ v = .int .u32 (y : Int) ∧ t < 16777216 ∧ y < 256 ∧ Hid (cfbs (8 - m) t y = cby s x)) (fun _ _ j => 8 - (intOf j).toNat)
      case atStart => exact ⟨0, s, x, by omega, rfl, rfl, rfl, hs, hx, hide rfl⟩
      case round =>
        obtain ⟨m, t, y, hm, rfl, rfl, rfl, ht, hy, HM⟩ := hrel
        by_cases hlm : m < 8
        · obtain ⟨bt, hbt⟩ : ∃ q, q = y % 2 := ⟨_, rfl⟩
          have hbt1 : (y : Int) % 2 = (bt : Int) := by omega
          have hbt2 : bt < 2 := by omega
          have HB := hide hbt
          clear hbt
          go_wp2_with (go_at_call 26; refine (rfeed_any t bt ht hbt2 _).mono ?_; rintro e w' ⟨rfl, rfl⟩)
          go_round
          case rel =>
            refine ⟨m + 1, cfb t bt, y / 2, by omega, by go_num, rfl, by push_cast; rfl, cfb_lt _ _ ht, by omega, hide ?_⟩
            have h := HM.out
            rw [show 8 - m = (8 - (m + 1)) + 1 by omega] at h
            rw [HB.out]
            exact h
          case measure => simp [intOf]; omega
        · obtain rfl : m = 8 := by omega
          have ht2 := hide (show t = cby s x from HM.out)
          go_wp2
          go_round
          case rel => exact ⟨k + 1, t, by omega, by go_num, rfl, ht, hide (by rw [ht2.out, HS.out, csum_snoc _ HX.out])⟩
          case measure => simp [intOf]; omega
    · obtain rfl : k = n := by omega
      go_wp2
      go_ret
      exact ⟨ret_int (by rw [HS.out, List.take_of_length_le (by rw [HL.out]; exact Nat.le_refl _)]), rfl⟩

/-- As many zero bytes as are fed. -/
def ccut (n : Int) : Nat := (min (max n 0) 65536).toNat
theorem cz_step (k s : Nat) : cz (k + 1) s = cfb (cz k s) 0 := by rw [cz_add]; rfl
set_option maxHeartbeats 800000 in
theorem shift_any (a : Nat) (ha : a < 4294967296) (n : Int) (w : World) (hT : Tab w) :
    Calls Tryd.prog 14 #[.int .u32 (a : Int), .int .i64 n] w fun e w' => e = .returned (.int .u32 ((cz (8 * ccut n) (a % 16777216) : Nat) : Int)) ∧ w = w' := by
  have hm := mask_and a ha
  obtain ⟨s0, hs0⟩ : ∃ s, s = a % 16777216 := ⟨_, rfl⟩
  have hs : s0 < 16777216 := by omega
  rw [← hs0] at hm ⊢
  clear hs0
  obtain ⟨M, hM⟩ : ∃ M : Nat, M = ccut n := ⟨_, rfl⟩
  have hb : M ≤ 65536 := by rw [hM]; unfold ccut; omega
  have hc : (n < 0 ∧ (0 : Int) = (M : Int)) ∨ (65536 < n ∧ (65536 : Int) = (M : Int)) ∨ (0 ≤ n ∧ n ≤ 65536 ∧ n = (M : Int)) := by
    rw [hM]; unfold ccut
    rcases (show n < 0 ∨ 65536 < n ∨ (0 ≤ n ∧ n ≤ 65536) from by omega) with h | h | ⟨h, h'⟩
    · exact .inl ⟨h, by omega⟩
    · exact .inr (.inl ⟨h, by omega⟩)
    · exact .inr (.inr ⟨h, h', by omega⟩)
  rw [← hM]
  clear hM
  rcases hc with ⟨h, hM⟩ | hc
  · obtain rfl : M = 0 := by omega
    clear hM
    go_enter Tryd.func14, Tryd.ntmps14
    go_wp2
    go_loop [5, 11] (fun r i => i = .int .i64 0 ∧ r = .int .u32 (s0 : Int)) (fun _ i => 0)
    case atStart => exact ⟨rfl, rfl⟩
    case round =>
      obtain ⟨rfl, rfl⟩ := hrel
      go_wp2
      go_ret
      exact ⟨ret_int rfl, rfl⟩
  · rcases hc with ⟨h, hM⟩ | ⟨h, h', hM⟩
    all_goals
      have HM := hide hM
      clear hM
      go_enter Tryd.func14, Tryd.ntmps14
      go_wp2
      clear hm
      rw [HM.out]
      go_loop [5, 11] (fun r i => ∃ k : Nat, k ≤ M ∧ i = .int .i64 k ∧ r = .int .u32 ((cz (8 * k) s0 : Nat) : Int)) (fun _ i => M - (intOf i).toNat)
      case atStart => exact ⟨0, Nat.zero_le _, rfl, rfl⟩
      case round =>
        obtain ⟨k, hk, rfl, rfl⟩ := hrel
        by_cases hlt : k < M
        · go_wp2_with (go_at_call 25; refine (feed_any _ 0 (cz_lt _ _ hs) (by omega) _ hT).mono ?_; rintro e w' ⟨rfl, rfl⟩)
          go_round
          case rel => exact ⟨k + 1, by omega, by go_num, by rw [Nat.mul_add, Nat.mul_one, cz_add, cz8]⟩
          case measure => simp [intOf]; omega
        · obtain rfl : k = M := by omega
          go_wp2
          go_ret
          exact ⟨ret_int rfl, rfl⟩
theorem rshift_any (a : Nat) (ha : a < 4294967296) (n : Int) (w : World) :
    Calls Tryd.prog 15 #[.int .u32 (a : Int), .int .i64 n] w fun e w' => e = .returned (.int .u32 ((cz (8 * ccut n) (a % 16777216) : Nat) : Int)) ∧ w = w' := by
  obtain ⟨M, hM⟩ : ∃ M : Nat, M = ccut n := ⟨_, rfl⟩
  have hb : M ≤ 65536 := by rw [hM]; unfold ccut; omega
  have hc : (n ≤ 0 ∧ M = 0) ∨ (65536 < n ∧ (65536 : Int) = (M : Int)) ∨ (0 < n ∧ n ≤ 65536 ∧ n = (M : Int)) := by
    rw [hM]; unfold ccut
    rcases (show n ≤ 0 ∨ 65536 < n ∨ (0 < n ∧ n ≤ 65536) from by omega) with h | h | ⟨h, h'⟩
    · exact .inl ⟨h, by omega⟩
    · exact .inr (.inl ⟨h, by omega⟩)
    · exact .inr (.inr ⟨h, h', by omega⟩)
  rw [← hM]
  clear hM
  rcases hc with ⟨h, rfl⟩ | hc
  · go_enter Tryd.func15, Tryd.ntmps15
    go_wp2
    go_loop [5, 6] (fun r i => i = .int .i64 0 ∧ r = .int .u32 ((a % 16777216 : Nat) : Int)) (fun _ i => 0)
    case atStart => exact ⟨rfl, rfl⟩
    case round =>
      obtain ⟨rfl, rfl⟩ := hrel
      go_wp2
      go_ret
      exact ⟨ret_int rfl, rfl⟩
  · rcases hc with ⟨h, hM⟩ | ⟨h, h', hM⟩
    all_goals
      have HM := hide hM
      clear hM
      go_enter Tryd.func15, Tryd.ntmps15
      go_wp2
      rw [HM.out]
      go_loop [5, 6] (fun r i => ∃ k : Nat, k ≤ 8 * M ∧ i = .int .i64 k ∧ r = .int .u32 ((cz k (a % 16777216) : Nat) : Int)) (fun _ i => 8 * M - (intOf i).toNat)
      case atStart => exact ⟨0, Nat.zero_le _, rfl, rfl⟩
      case round =>
        obtain ⟨k, hk, rfl, rfl⟩ := hrel
        by_cases hlt : k < 8 * M
        · go_wp2_with (go_at_call 26; refine (rfeed_any _ 0 (cz_lt _ _ (Nat.mod_lt _ (by omega))) (by omega) _).mono ?_; rintro e w' ⟨rfl, rfl⟩)
          go_round
          case rel => exact ⟨k + 1, by omega, by go_num, by rw [cz_step]⟩
          case measure => simp [intOf]; omega
        · obtain rfl : k = 8 * M := by omega
          go_wp2
          go_ret
          exact ⟨ret_int rfl, rfl⟩
end Go.Proofs.YtgaecbpkfppeeaaDoor
