/-
  The walk of the statement on combined checksums: it returns true, and nothing that was there is written.
-/
import Derived.Test.YtgaecbpkfppeeaaDoorCre
import Derived.ProofKit
import Derived.OpenShut
import Derived.WideShapes
namespace Go.Proofs.YtgaecbpkfppeeaaDoor
set_option linter.unusedVariables false
set_option linter.unusedSimpArgs false
open Go.RowKit

theorem u32_xor_lt {a b : Nat} (ha : a < 4294967296) (hb : b < 4294967296) : a ^^^ b < 4294967296 := Nat.xor_lt_two_pow (n := 32) (by simpa using ha) (by simpa using hb)
theorem xor_mod24 (a b : Nat) : (a ^^^ b) % 16777216 = (a % 16777216) ^^^ (b % 16777216) := Nat.xor_mod_two_pow (n := 24)
def czip (a b : List Nat) : List Nat := List.zipWith (· ^^^ ·) a b
theorem czip_take_snoc {a b : List Nat} {k x y : Nat} (hx : a[k]? = some x) (hy : b[k]? = some y) : (czip a b).take (k + 1) = (czip a b).take k ++ [x ^^^ y] := by
  apply take_snoc
  simp [czip, List.getElem?_zipWith, hx, hy]
theorem czip_bytes {a b : List Nat} (ha : ∀ x ∈ a, x < 256) (hb : ∀ x ∈ b, x < 256) : ∀ x ∈ czip a b, x < 256 := by
  intro x hx
  obtain ⟨i, hi⟩ := List.mem_iff_getElem?.1 hx
  simp only [czip, List.getElem?_zipWith] at hi
  split at hi
  · rename_i u v hu hv
    injection hi with hi
    rw [← hi]
    exact Nat.xor_lt_two_pow (n := 8) (ha _ (List.mem_of_getElem? hu)) (hb _ (List.mem_of_getElem? hv))
  · cases hi
theorem czip_length {a b : List Nat} {n : Nat} (ha : a.length = n) (hb : b.length = n) : (czip a b).length = n := by simp [czip, ha, hb]
set_option maxHeartbeats 2000000 in
theorem crcLinear_walk (a0 : Option Addr) (len0 cap0 : Nat) (l0 : List Nat) (a1 : Option Addr) (len1 cap1 : Nat) (l1 : List Nat) (i0 i1 : Nat) (w : World)
    (f0 : Rd w 1 a0 len0 (bv l0) ∧ (∀ x ∈ l0, x < 256) ∧ len0 ≤ cap0 ∧ cap0 ≤ maxLen) (f1 : Rd w 1 a1 len1 (bv l1) ∧ (∀ x ∈ l1, x < 256) ∧ len1 ≤ cap1 ∧ cap1 ≤ maxLen) (f2 : i0 < 4294967296 ∧ i1 < 4294967296) (hT : Tab w) :
    Calls Tryd.prog 7 #[.slice a0 len0 cap0, .slice a1 len1 cap1, .agg #[.int .u32 (i0 : Int), .int .u32 (i1 : Int)]] w fun e w' => e = .returned (.bool true) ∧ Below w.heap.size w w' := by
  obtain ⟨hA, hl, hc, hm⟩ := f0
  obtain ⟨hA', hl', hc', hm'⟩ := f1
  obtain ⟨hi0, hi1⟩ := f2
  unfold maxLen at hm hm'
  obtain ⟨N, hN⟩ : ∃ N, N = min len0 len1 := ⟨_, rfl⟩
  have hN0 : N ≤ len0 := by omega
  have hN1 : N ≤ len1 := by omega
  have hNA : Rd w 1 a0 N (bv (l0.take N)) := by rw [← bv_take]; exact hA.take hN0
  have hNB : Rd w 1 a1 N (bv (l1.take N)) := by rw [← bv_take]; exact hA'.take hN1
  have hla : ∀ x ∈ l0.take N, x < 256 := fun x hx => hl x (List.mem_of_mem_take hx)
  have hlb : ∀ x ∈ l1.take N, x < 256 := fun x hx => hl' x (List.mem_of_mem_take hx)
  obtain ⟨la, hA1⟩ : ∃ la, la = l0.take N := ⟨_, rfl⟩
  obtain ⟨lb, hB1⟩ : ∃ lb, lb = l1.take N := ⟨_, rfl⟩
  rw [← hA1] at hNA hla
  rw [← hB1] at hNB hlb
  have hNc0 : N ≤ cap0 := by omega
  have hNc1 : N ≤ cap1 := by omega
  clear hA1 hB1 hA hA' hl hl'
  rcases (show (N = len0 ∧ len0 ≤ len1) ∨ (N = len1 ∧ len1 < len0) by omega) with ⟨h, hle⟩ | ⟨h, hle⟩
  all_goals
    subst h
    clear hN
    by_cases hbig : 4096 < N
    · have hbig' : (4096 : Int) < (N : Int) := by omega
      go_enter Tryd.func7, Tryd.ntmps7
      go_wp2_with fail
      refine (lives_any _ (hT.alloc _)).mono ?_
      rintro e w1 ⟨rfl, hb1⟩
      go_wp2
      go_ret
      exact ⟨rfl, below_step (Below.refl _ _) _ hb1⟩
    · have hbig' : (N : Int) ≤ 4096 := by omega
      go_enter Tryd.func7, Tryd.ntmps7
      go_wp2_with fail
      refine (lives_any _ (hT.alloc _)).mono ?_
      rintro e w1 ⟨rfl, hb1⟩
      have hbx : Blk w1 w.heap.size 36 #[.int .u32 (i0 : Int), .int .u32 (i1 : Int)] := (Blk.new w _ _).below hb1 (Blk.new w _ _).lt
      have B1 := below_step (Below.refl _ w) _ hb1
      have hLA := hide hNA.blen
      have hLB := hide hNB.blen
      clear hb1
      go_wp2_with fail
      go_region
      go_wp2_with fail
      have B2 := B1.drew.alloc B1.size (.cells #[] 5)
      have hbx2 := hbx.drew.alloc (.cells #[] 5)
      have hown2 : (w1.drew.alloc (.cells #[] 5)).ownsRow (w.heap.size + 1) 5 1 (.slice (some ⟨w1.heap.size, 0, none⟩) 0 0) 0 [] := own_made2 rfl hbx.lt
      go_loopw [8, 9] (fun v i wr => ∃ k : Nat, k ≤ N ∧ i = .int .i64 k ∧ wr.ownsRow (w.heap.size + 1) 5 1 v k (bv ((czip la lb).take k)) ∧ Blk wr w.heap.size 36 #[.int .u32 (i0 : Int), .int .u32 (i1 : Int)] ∧ Below w.heap.size w wr) (fun _ i _ => N - (intOf i).toNat)
      case atStart => exact ⟨0, Nat.zero_le _, rfl, hown2, hbx2, B2⟩
      case round =>
        obtain ⟨k, hk, rfl, hown, hbk, hB⟩ := hrel
        by_cases hlt : k < N
        · obtain ⟨b, o, x, rfl, hbs, hcx, HX⟩ := (hNA.below hB).byte hlt
          obtain ⟨b', o', y, rfl, hbs', hcy, HY⟩ := (hNB.below hB).byte hlt
          have hxy := u8_xor x y (hla _ (List.mem_of_getElem? HX.out)) (hlb _ (List.mem_of_getElem? HY.out))
          obtain ⟨z, hz⟩ : ∃ z, z = x ^^^ y := ⟨_, rfl⟩
          rw [← hz] at hxy
          have HZ := hide hz
          clear hz
          have hsz := hB.size
          have hlt1 := hbk.lt
          go_wp2_with fail
          go_region_law (refine step_append_rd _ rfl (.tmp 33) (.tmp 43) _ rfl (w.heap.size + 1) 5 (.int .u8 0) 1 1 under8 info8 rfl (by omega) _ k (bv ((czip la lb).take k)) (by simp [Act.eval, Act.put]) (hown.alloc _) (some ⟨wr.heap.size, 0, none⟩) 1 1 (bv [z]) (by simp [Act.eval, Act.put]) ((Blk.new _ _ _).rd rfl) (bv_one _) (by omega) (by omega) (by simp; omega) ?_; intro v1 w2 hown2 hg _)
          all_goals
            have hbk2 := (hbk.alloc (.cells (bv [z]).toArray 5)).drew.grown hg (fun e => by have := (hown.lt _ e.symm).1; omega)
            have hB3 : Below w.heap.size w w2 := (hB.alloc hsz _).drew.grown hg (by simp; omega) (fun q hq => Nat.le_of_succ_le (hown.lt q hq).1)
            rw [← bv_append, HZ.out, ← czip_take_snoc HX.out HY.out] at hown2
            clear hg hown
            go_wp2
            go_roundw
            case rel => exact ⟨k + 1, by omega, by go_num, hown2, hbk2, hB3⟩
            case measure => simp [intOf]; omega
        · obtain rfl : k = N := by omega
          rw [List.take_of_length_le (by rw [czip_length hLA.out hLB.out]; exact Nat.le_refl _)] at hown
          obtain ⟨AZ, cZ, rfl, hcZ, hmZ, hrZ⟩ := own_rd hown
          have hxor : bits BinOp.xor IntKind.u32 ((csum (i0 % 16777216) la : Nat) : Int) ((csum (i1 % 16777216) lb : Nat) : Int) = ((csum ((i0 ^^^ i1) % 16777216) (czip la lb) : Nat) : Int) := by
            have g0 := csum_lt (i0 % 16777216) la (mod24 i0)
            have g1 := csum_lt (i1 % 16777216) lb (mod24 i1)
            rw [u32_xor _ _ (by omega) (by omega), xor_mod24, czip, csum_xor _ _ _ _ (by rw [hLA.out, hLB.out])]
          have hcut : ccut (k : Int) = k := by unfold ccut; omega
          have hxor2 : bits BinOp.xor IntKind.u32 ((cz (8 * k) (i0 % 16777216) : Nat) : Int) ((csum 0 la : Nat) : Int) = ((csum (i0 % 16777216) la : Nat) : Int) := by
            have g0 := cz_lt (8 * k) (i0 % 16777216) (mod24 i0)
            have g1 := csum_lt 0 la (by omega)
            have g2 := csum_state (i0 % 16777216) 0 la
            rw [Nat.xor_zero, hLA.out] at g2
            rw [u32_xor _ _ (by omega) (by omega), g2]
          clear hown
          go_wp2_with fail
          have F0 : ∀ {w' : World}, Blk w' w.heap.size 36 #[.int .u32 (i0 : Int), .int .u32 (i1 : Int)] → Below w.heap.size w w' → w'.cell? ⟨w.heap.size, 0, none⟩ = some (.int .u32 (i0 : Int)) ∧ w'.cell? ⟨w.heap.size, 1, none⟩ = some (.int .u32 (i1 : Int)) ∧ Below w.heap.size w w' := fun h1 h2 => ⟨h1.cell 0, h1.cell 1, h2⟩
          have G0 := F0 hbk.drew hB.drew
          go_region_held3 (fun w' => w'.cell? ⟨w.heap.size, 0, none⟩ = some (.int .u32 (i0 : Int)) ∧ w'.cell? ⟨w.heap.size, 1, none⟩ = some (.int .u32 (i1 : Int)) ∧ Below w.heap.size w w') (first | assumption | exact F0 hbk.drew hB.drew | exact F0 hbk2 B3 | exact F0 hbk3 B4) (first
            | (go_at_call 12; (with_reducible refine (copied_any a0 k _ la _ ?_ ?_).mono ?_); exact (hNA.below hB).drew; omega; rintro e w2 ⟨v2, rfl, hown2, hb2⟩; obtain ⟨A2, c2, rfl, hc2, hm2, hr2⟩ := own_rd hown2; have hbk2 := hbk.drew.below hb2 hbk.lt; have B3 := hB.drew.trans (hb2.mono hB.size))
            | (go_at_call 11; (with_reducible refine (sum_any i0 hi0 _ k _ la _ ?_ ?_ hla ?_).mono ?_); exact hT.below B3; exact hr2; omega; rintro e w' ⟨rfl, rfl⟩)
            | (go_at_call 12; (with_reducible refine (copied_any a1 k _ lb _ ?_ ?_).mono ?_); exact hNB.below B3; omega; rintro e w3 ⟨v3, rfl, hown3, hb3⟩; obtain ⟨A3, c3, rfl, hc3, hm3, hr3⟩ := own_rd hown3; have hbk3 := hbk2.below hb3 hbk2.lt; have B4 := B3.trans (hb3.mono B3.size))
            | (go_at_call 11; (with_reducible refine (sum_any i1 hi1 _ k _ lb _ ?_ ?_ hlb ?_).mono ?_); exact hT.below B4; exact hr3; omega; rintro e w' ⟨rfl, rfl⟩))
          all_goals
            have BB := B4
            go_wp2_with fail
            rw [u32_xor i0 i1 hi0 hi1]
            refine (sum_any (i0 ^^^ i1) (u32_xor_lt hi0 hi1) AZ k cZ (czip la lb) w3 (hT.below B4) ((((hrZ.drew).below hb2).below hb3)) (czip_bytes hla hlb) (by omega)).mono ?_
            rintro e w' ⟨rfl, rfl⟩
            go_wp2_with fail
            refine (shift_any i0 hi0 (k : Int) w3 (hT.below B4)).mono ?_
            rintro e w' ⟨rfl, rfl⟩
            rw [hcut]
            go_wp2_with fail
            refine (copied_any a0 k _ la w3 (hNA.below B4) (by omega)).mono ?_
            rintro e w5 ⟨v5, rfl, hown5, hb5⟩
            obtain ⟨A5, c5, rfl, hc5, hm5, hr5⟩ := own_rd hown5
            have B5 := B4.trans (hb5.mono B4.size)
            go_wp2_with fail
            refine (sum_any 0 (by omega) A5 k c5 la w5 (hT.below B5) hr5 hla (by omega)).mono ?_
            rintro e w' ⟨rfl, rfl⟩
            rw [Nat.zero_mod]
            go_wp2
            go_ret
            exact ⟨rfl, B5⟩
section
variable {H : Type} {enc : TypeId × Value → H} {W : World} {base : Nat} {sp : Nat → Bool} {held : Bool}
theorem cells_u32 : Tryd.prog.cellsOf 22 = 1 := by kernel_rfl
theorem cells_two : Tryd.prog.cellsOf 36 = 2 := by kernel_rfl
theorem okw_array {P : Program} {w : World} {r : Reach} {b t e : TypeId} {n : Nat} {v : Value} (ht : P.underlying t = some (.array n e)) (h : Value.okWide P w r b t v) : ∃ cs, v = .agg cs ∧ cs.size = P.cellsOf t := by
  simp only [Value.okWide, ht] at h
  obtain ⟨cs, h1, h2, _⟩ := h
  exact ⟨cs, h1, h2⟩
theorem open_two {r : Reach} {b0 : Nat} {v : Value} {d : DataW H} {p : List MemPlace} (hv : Value.okWide Tryd.prog W r b0 36 v) (h : DataW.Trod enc Tryd.prog W base sp held 36 v d p) :
    ∃ i j : Nat, v = .agg #[.int .u32 (i : Int), .int .u32 (j : Int)] ∧ (i < 4294967296 ∧ j < 4294967296) := by
  obtain ⟨cs, rfl, hsz⟩ := okw_array Tryd.underlying36 hv
  obtain ⟨fuel, hf⟩ := h
  obtain ⟨l⟩ := cs
  obtain ⟨xs, n, _, _, hlen, hxl, hi⟩ := DataW.trod_array Tryd.underlying36 hf
  rw [cells_two] at hsz
  match l, hsz with
  | [x, y], _ =>
    match xs, hxl with
    | [p, q], _ =>
      have h0 := hi 0 (by omega)
      have h1 := hi 1 (by omega)
      simp [cells_u32, Value.cells] at h0 h1
      obtain ⟨i, e0, _, wi⟩ := DataW.trod_int Tryd.underlying22 h0
      obtain ⟨j, e1, _, wj⟩ := DataW.trod_int Tryd.underlying22 h1
      simp only [List.cons.injEq, and_true] at e0 e1
      have b0 := wf_u32 wi
      have b1 := wf_u32 wj
      exact ⟨i.toNat, j.toNat, by rw [e0, e1, Int.toNat_of_nonneg b0.1, Int.toNat_of_nonneg b1.1], by omega, by omega⟩
theorem open_bytes {r : Reach} {b0 : Nat} {v : Value} {d : DataW H} {p : List MemPlace} (hv : Value.okWide Tryd.prog W r b0 23 v) (h : DataW.Trod enc Tryd.prog W 0 (fun _ => true) held 23 v d p) :
    ∃ (A : Option Addr) (n c : Nat) (l : List Nat), v = .slice A n c ∧ (Rd W 1 A n (bv l) ∧ (∀ x ∈ l, x < 256) ∧ n ≤ c ∧ c ≤ maxLen) := by
  obtain ⟨A, n, c, rfl⟩ := Go.WideShapes.okWide_slice Tryd.underlying23 hv
  have hrow : ∃ zs, IsRow .u8 W A n c zs := by
    obtain ⟨fuel, hf⟩ := h
    rcases Go.ChangeShapes.open_ints Tryd.underlying23 Tryd.underlying5 (by kernel_rfl) hf with ⟨hcs, _⟩ | ⟨x, l, c, zs, hcs, _, hl, hm, hz, _, hcell, hwz⟩
    · simp [Value.cells] at hcs
      obtain ⟨rfl, rfl, rfl⟩ := hcs
      exact ⟨[], .inl ⟨rfl, rfl, rfl, rfl⟩⟩
    · simp [Value.cells] at hcs
      obtain ⟨rfl, rfl, rfl⟩ := hcs
      exact ⟨zs, .inr ⟨_, rfl, hl, hm, by simpa using hz, hcell, hwz⟩⟩
  obtain ⟨zs, hrow⟩ := hrow
  obtain ⟨l, h1, h2, h3, h4⟩ := hrow.rd
  exact ⟨A, n, c, l, rfl, h1, h2, h3, h4⟩
end
end Go.Proofs.YtgaecbpkfppeeaaDoor
