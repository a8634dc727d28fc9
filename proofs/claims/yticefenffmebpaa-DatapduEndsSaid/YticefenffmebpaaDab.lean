/-
  The walks of octets.Join, Same, and of the two Encodes. Each function's contract.
-/
import Derived.Test.YticefenffmebpaaDaa
import Derived.Deep.RegionLaw
import Derived.Deep.RegionHeld3
namespace Go.Proofs.Yticefenffmebpaa
set_option linter.unusedVariables false
set_option linter.unusedSimpArgs false
open Go.RowKit

theorem under8 : Try.prog.underlying 22 = some (.slice 5) := Try.underlying22
theorem info8 : (Try.prog.info? 5).map (fun i => (i.zero, i.size, i.bytes)) = some (some (.int .u8 0), 1, 1) := by kernel_rfl
set_option maxHeartbeats 400000 in
theorem same_any (A C : Option Addr) (n m c d : Nat) (la lb : List Nat) (w : World) (hA : Rd w 1 A n (bv la)) (hC : Rd w 1 C m (bv lb)) (ha : ∀ x ∈ la, x < 256) (hb : ∀ x ∈ lb, x < 256) :
    Calls Try.prog 16 #[.slice A n c, .slice C m d] w fun e w' => e = .returned (.bool (decide (la = lb))) ∧ w = w' := by
  have k1 := run_bstr hA 22 5 9 under8 Try.underlying5 Try.underlying9 c
  have k2 := run_bstr hC 22 5 9 under8 Try.underlying5 Try.underlying9 d
  go_enter Try.func16, Try.ntmps16
  go_wp2
  go_ret
  exact ⟨ret_bool (bstr_beq la lb ha hb), rfl⟩
/-- A part: a slice of bytes and what it reads as. -/
structure Part where
  A : Option Addr
  n : Nat
  c : Nat
  l : List Nat
def Part.val (p : Part) : Value := .slice p.A p.n p.c
def joined (ps : List Part) : List Nat := ps.flatMap (·.l)
theorem joined_snoc {ps : List Part} {k : Nat} {p : Part} (h : ps[k]? = some p) : joined (ps.take (k + 1)) = joined (ps.take k) ++ p.l := by
  rw [take_snoc h]
  simp [joined]
set_option maxHeartbeats 1000000 in
theorem join_any (g o m c : Nat) (ps : List Part) (w : World) (hlen : ps.length = m) (hg : g < w.heap.size) (hm : m ≤ 1000)
    (hp : ∀ j p, ps[j]? = some p → w.cell? ⟨g, o + j, none⟩ = some p.val ∧ Rd w 1 p.A p.n (bv p.l) ∧ p.n ≤ 1000000) :
    Calls Try.prog 24 #[.slice (some ⟨g, o, none⟩) m c] w fun e w' => ∃ v, e = .returned v ∧ w'.ownsRow w.heap.size 5 1 v (joined ps).length (bv (joined ps)) ∧ Below w.heap.size w w' := by
  have HP := hide hp
  have HL := hide hlen
  clear hp hlen
  go_enter Try.func24, Try.ntmps24
  go_wp2_with fail
  go_loopw [3, 8] (fun v i wr => ∃ k L : Nat, k ≤ m ∧ i = .int .i64 k ∧ L = (joined (ps.take k)).length ∧ L ≤ k * 1000000 ∧ wr.ownsRow w.heap.size 5 1 v L (bv (joined (ps.take k))) ∧ Below w.heap.size w wr) (fun _ i _ => m - (intOf i).toNat)
  case atStart => exact ⟨0, 0, Nat.zero_le _, rfl, rfl, by omega, World.ownsRow_nil _ _ _ _, Below.refl _ _⟩
  case round =>
    obtain ⟨k, L, hk, rfl, hL, hLm, hown, hB⟩ := hrel
    by_cases hlt : k < m
    · obtain ⟨q, hq⟩ : ∃ q, ps[k]? = some q := ⟨_, List.getElem?_eq_getElem (by rw [HL.out]; exact hlt)⟩
      obtain ⟨hc, hr, hn⟩ := HP.out k q hq
      have hc2 := hB.cell (p := ⟨g, o + k, none⟩) hg
      rw [hc] at hc2
      unfold Part.val at hc2
      have hr2 := hr.below hB
      have hsz := hB.size
      have hlen := hr.blen
      have HQ := hide hq
      have HLL := hide hL
      clear hq hc hr hL
      go_wp2_with (at_builtin; refine wpList_append_rd _ rfl (.tmp 12) (.tmp 13) _ rfl w.heap.size 5 (.int .u8 0) 1 1 under8 info8 rfl (by omega) _ L (bv (joined (ps.take k))) rfl hown q.A q.n q.c (bv q.l) rfl hr2 (bv_one _) (by omega) (by omega) hsz ?_; intro v1 w1 hown1 hg1 _)
      rw [← bv_append, ← joined_snoc HQ.out] at hown1
      have hB1 := hB.grown hg1 hsz (fun q hq => (hown.lt q hq).1)
      clear hown hg1
      go_wp2
      go_roundw
      case rel => exact ⟨k + 1, L + q.n, by omega, by go_num, by rw [joined_snoc HQ.out, List.length_append, HLL.out, hlen], by omega, hown1, hB1⟩
      case measure => simp [intOf]; omega
    · obtain rfl : k = m := by omega
      rw [List.take_of_length_le (by rw [HL.out]; exact Nat.le_refl _)] at hL hown
      subst hL
      go_wp2
      go_ret
      exact ⟨_, rfl, hown, hB⟩
/-- A block that is known whole is owned. -/
theorem own_blk {w : World} {base g n : Nat} {e : TypeId} {xs : List Value} (h : Blk w g e xs.toArray) (hb : base ≤ g) (hn : xs.length = n) (hm : n ≤ 1000000) : w.ownsRow base e 1 (.slice (some ⟨g, 0, none⟩) n n) n xs :=
  ⟨by omega, .inr ⟨g, n, xs.toArray, rfl, hb, h, Nat.le_refl _, Nat.le_trans hm (by decide), by simp [hn], by simp [← hn]⟩⟩
/-- The bytes of a PDU. -/
def dhead (sn ne md id : Int) : Nat := (id + 4 * ne + 8 * sn + 16 * md).toNat
def denc (sn ne md id : Int) (l : List Nat) : List Nat := dhead sn ne md id :: l.length :: l
theorem dok_nat {x : Int} (hx : dok x = true) : ∃ y : Nat, x = (y : Int) ∧ y < 2 := by
  simp only [dok, Bool.or_eq_true, beq_iff_eq] at hx
  exact ⟨x.toNat, by omega, by omega⟩
theorem dchk_zero {sn ne md id : Int} {n : Nat} (h0 : dchk sn ne md id n = 0) : (dok sn = true ∧ dok ne = true ∧ dok md = true) ∧ 1 ≤ id ∧ id ≤ 3 ∧ n ≤ 255 ∧ (n = 0 → id = 1) := by
  unfold dchk at h0
  split at h0
  · rename_i hd
    rcases dpk_cases id n with ⟨_, e⟩ | ⟨_, _, e⟩ | ⟨_, _, _, _, e⟩ | ⟨_, _, e⟩ | ⟨_, _, _, _, e⟩ | ⟨_, _, _, _, e⟩
    all_goals first | (rw [e] at h0; omega) | (refine ⟨by simpa [and_assoc] using hd, ?_⟩; omega)
  · omega
/-- Two results, of which the first is a struct in a cell. -/
theorem run_res_cell {P : Program} {w : World} {fn : Func} {tmps : Array Value} {i j g : Nat} {t ty : TypeId} {cs : Array Value} {r : Value} (hf : fn.results = #[.cell i ty, .tmp j]) (hi : tmps.getD i undef = .pointer (some ⟨g, 0, none⟩)) (hj : tmps.getD j undef = r) (hB : Blk w g t cs)
    (d : TypeDesc) (hu : P.underlying ty = some d) (hd : (match d with | .struct _ | .array _ _ => true | _ => false) = true) (hs : (P.info? ty).map (·.size) = some cs.size) :
    (results fn tmps).run P w = .ok (.tuple #[.agg cs, r]) w := by
  have hl := run_loadVar_row (P := P) w g t ty cs (0, 0) d hB hu hd hs
  have ha : ∀ w : World, (asAddr (.pointer (some ⟨g, 0, none⟩))).run P w = .ok ⟨g, 0, none⟩ w := fun w => by simp [asAddr, go_sem]
  subst hj
  unfold results
  rw [hf]
  simp only [List.mapM_toArray, List.mapM_cons, List.mapM_nil, map_eq_pure_bind, bind_assoc, pure_bind, Sem.run_bind, Sem.run_pure, Result.andThen_ok, hi, ha, hl]
  rfl
theorem run_res_pdu {w : World} {fn : Func} {tmps : Array Value} {g : Nat} {t : TypeId} {x0 x1 x2 x3 x4 : Value} {r : Value} (hf : fn.results = #[.cell 2 26, .tmp 3]) (hi : tmps.getD 2 undef = .pointer (some ⟨g, 0, none⟩)) (hj : tmps.getD 3 undef = r) (hB : Blk w g t #[x0, x1, x2, x3, x4]) :
    (results fn tmps).run Try.prog w = .ok (.tuple #[.agg #[x0, x1, x2, x3, x4], r]) w :=
  run_res_cell hf hi hj hB _ Try.underlying26 rfl (by kernel_rfl)
theorem own_far {w : World} {base : Nat} {e : TypeId} {size : Nat} {v : Value} {n : Nat} {xs : List Value} (h : w.ownsRow base e size v n xs) {p : Addr} (hp : v.ownBlock ≠ some p.block) (u : Value) : (w.setCell p u).ownsRow base e size v n xs := by
  refine ⟨h.1, ?_⟩
  rcases h.2 with h | ⟨g, cap, cur, rfl, h2, h3, h4⟩
  · exact .inl h
  · exact .inr ⟨g, cap, cur, rfl, h2, (Below.heap_setCell w p u g (fun e => hp (by simp [Value.ownBlock, e]))).trans h3, h4⟩
/-- Five cells of a block are written. -/
def fill5 (w : World) (g : Nat) (x0 x1 x2 x3 x4 : Value) : World := ((((w.setCell ⟨g, 0, none⟩ x0).setCell ⟨g, 1, none⟩ x1).setCell ⟨g, 2, none⟩ x2).setCell ⟨g, 3, none⟩ x3).setCell ⟨g, 4, none⟩ x4
theorem blk_fill5 {w : World} {g : Nat} {t : TypeId} {a0 a1 a2 a3 a4 : Value} (h : Blk w g t #[a0, a1, a2, a3, a4]) (x0 x1 x2 x3 x4 : Value) : Blk (fill5 w g x0 x1 x2 x3 x4) g t #[x0, x1, x2, x3, x4] := by
  simpa [fill5] using (((((h.set_ 0 x0).set_ 1 x1).set_ 2 x2).set_ 3 x3).set_ 4 x4)
theorem own_fill5 {w : World} {base g : Nat} {e : TypeId} {size : Nat} {v : Value} {n : Nat} {xs : List Value} (h : w.ownsRow base e size v n xs) (hp : v.ownBlock ≠ some g) (x0 x1 x2 x3 x4 : Value) : (fill5 w g x0 x1 x2 x3 x4).ownsRow base e size v n xs :=
  own_far (own_far (own_far (own_far (own_far h hp x0) hp x1) hp x2) hp x3) hp x4
theorem below_fill5 {B : Nat} {w w1 : World} (h : Below B w w1) {g : Nat} (hg : B ≤ g) (x0 x1 x2 x3 x4 : Value) : Below B w (fill5 w1 g x0 x1 x2 x3 x4) :=
  ((((h.setCell (p := ⟨g, 0, none⟩) hg x0).setCell (p := ⟨g, 1, none⟩) hg x1).setCell (p := ⟨g, 2, none⟩) hg x2).setCell (p := ⟨g, 3, none⟩) hg x3).setCell (p := ⟨g, 4, none⟩) hg x4
/-- What Decode answers. -/
def derr (l : List Nat) : Nat :=
  if l.length < 2 then 3 else if 32 ≤ l.getD 0 0 then 2 else if l.getD 0 0 % 4 = 0 then 12 else if l.getD 1 0 = 0 ∧ l.getD 0 0 % 4 ≠ 1 then 1 else if l.length - 2 < l.getD 1 0 then 3 else if l.getD 1 0 < l.length - 2 then 2 else 0
def dsn (l : List Nat) : Nat := if derr l = 0 then l.getD 0 0 / 8 % 2 else 0
def dne (l : List Nat) : Nat := if derr l = 0 then l.getD 0 0 / 4 % 2 else 0
def dmd (l : List Nat) : Nat := if derr l = 0 then l.getD 0 0 / 16 % 2 else 0
def did (l : List Nat) : Nat := if derr l = 0 then l.getD 0 0 % 4 else 0
def dpl (l : List Nat) : List Nat := if derr l = 0 then l.drop 2 else []
theorem ddec_bad {l : List Nat} (h : derr l ≠ 0) : dsn l = 0 ∧ dne l = 0 ∧ dmd l = 0 ∧ did l = 0 ∧ dpl l = [] := by
  simp [dsn, dne, dmd, did, dpl, h]
theorem ddec_ok {l : List Nat} (h : derr l = 0) : dsn l = l.getD 0 0 / 8 % 2 ∧ dne l = l.getD 0 0 / 4 % 2 ∧ dmd l = l.getD 0 0 / 16 % 2 ∧ did l = l.getD 0 0 % 4 ∧ dpl l = l.drop 2 := by
  simp [dsn, dne, dmd, did, dpl, h]
theorem two_of {l : List Nat} (h : 2 ≤ l.length) : ∃ x y t, l = x :: y :: t := by
  match l, h with
  | x :: y :: t, _ => exact ⟨x, y, t, rfl⟩
theorem derr_pair (h m : Nat) (t : List Nat) : derr (h :: m :: t) = if 32 ≤ h then 2 else if h % 4 = 0 then 12 else if m = 0 ∧ h % 4 ≠ 1 then 1 else if t.length < m then 3 else if m < t.length then 2 else 0 := by
  have e : ¬ (h :: m :: t).length < 2 := by simp
  unfold derr
  rw [if_neg e]
  rfl
theorem derr_two (h m : Nat) (t : List Nat) : (32 ≤ h ∧ derr (h :: m :: t) = 2) ∨ (h < 32 ∧ h % 4 = 0 ∧ derr (h :: m :: t) = 12) ∨ (h < 32 ∧ h % 4 ≠ 0 ∧ m = 0 ∧ h % 4 ≠ 1 ∧ derr (h :: m :: t) = 1) ∨
    (h < 32 ∧ h % 4 ≠ 0 ∧ m ≠ 0 ∧ t.length < m ∧ derr (h :: m :: t) = 3) ∨ (h < 32 ∧ h % 4 ≠ 0 ∧ m ≠ 0 ∧ m < t.length ∧ derr (h :: m :: t) = 2) ∨ (h < 32 ∧ h % 4 ≠ 0 ∧ m ≠ 0 ∧ m = t.length ∧ derr (h :: m :: t) = 0) ∨
    (h < 32 ∧ h % 4 = 1 ∧ m = 0 ∧ 0 < t.length ∧ derr (h :: m :: t) = 2) ∨ (h < 32 ∧ h % 4 = 1 ∧ m = 0 ∧ t.length = 0 ∧ derr (h :: m :: t) = 0) := by
  rw [derr_pair]
  by_cases a : 32 ≤ h
  · rw [if_pos a]; exact .inl ⟨a, rfl⟩
  · rw [if_neg a]
    by_cases b : h % 4 = 0
    · rw [if_pos b]; exact .inr (.inl ⟨by omega, b, rfl⟩)
    · rw [if_neg b]
      by_cases c : m = 0 ∧ h % 4 ≠ 1
      · rw [if_pos c]; exact .inr (.inr (.inl ⟨by omega, b, c.1, c.2, rfl⟩))
      · rw [if_neg c]
        by_cases d : t.length < m
        · rw [if_pos d]; exact .inr (.inr (.inr (.inl ⟨by omega, b, by omega, d, rfl⟩)))
        · rw [if_neg d]
          by_cases e : m < t.length
          · rw [if_pos e]
            by_cases f : m = 0
            · exact .inr (.inr (.inr (.inr (.inr (.inr (.inl ⟨by omega, by omega, f, by omega, rfl⟩))))))
            · exact .inr (.inr (.inr (.inr (.inl ⟨by omega, b, f, e, rfl⟩))))
          · rw [if_neg e]
            by_cases f : m = 0
            · exact .inr (.inr (.inr (.inr (.inr (.inr (.inr ⟨by omega, by omega, f, by omega, rfl⟩))))))
            · exact .inr (.inr (.inr (.inr (.inr (.inl ⟨by omega, b, f, by omega, rfl⟩)))))
theorem Rd.two {w : World} {A : Option Addr} {n : Nat} {x y : Nat} {t : List Nat} (h : Rd w 1 A n (bv (x :: y :: t))) : ∃ b o, A = some ⟨b, o, none⟩ ∧ b < w.heap.size ∧ w.cell? ⟨b, o, none⟩ = some (.int .u8 (x : Int)) ∧ w.cell? ⟨b, o + 1, none⟩ = some (.int .u8 (y : Int)) := by
  have hl := h.blen
  simp only [List.length_cons] at hl
  obtain ⟨b, o, e, hb, hc⟩ := h.2 (by omega)
  exact ⟨b, o, e, hb, hc 0 _ rfl, hc 1 _ rfl⟩
theorem get_bits (x k : Nat) (hx : x < 256) (hk : k = 2 ∨ k = 3 ∨ k = 4) : bits BinOp.and IntKind.u8 ((x : Int) / ((2 ^ k : Nat) : Int)) 1 = ((x / 2 ^ k % 2 : Nat) : Int) := by
  have key : ∀ x : Fin 256, ∀ k ∈ [2, 3, 4], bits BinOp.and IntKind.u8 ((x.1 : Int) / ((2 ^ k : Nat) : Int)) 1 = ((x.1 / 2 ^ k % 2 : Nat) : Int) := by decide +kernel
  exact key ⟨x, hx⟩ k (by simpa using hk)
theorem and3 (x : Nat) (hx : x < 256) : bits BinOp.and IntKind.u8 (x : Int) 3 = ((x % 4 : Nat) : Int) := by
  have key : ∀ x : Fin 256, bits BinOp.and IntKind.u8 (x.1 : Int) 3 = ((x.1 % 4 : Nat) : Int) := by decide +kernel
  exact key ⟨x, hx⟩
theorem get_any (x k g : Nat) (hx : x < 256) (hk : k = 2 ∨ k = 3 ∨ k = 4) (w : World) (hB : Blk w g 5 #[.int .u8 (x : Int)]) :
    Calls Try.prog 25 #[.int .i64 (k : Int), .pointer (some ⟨g, 0, none⟩)] w fun e w' => e = .returned (.int .i64 ((x / 2 ^ k % 2 : Nat) : Int)) ∧ w = w' := by
  have c0 : w.cell? ⟨g, 0, none⟩ = some (.int .u8 (x : Int)) := hB.cell 0
  have e0 := get_bits x k hx hk
  obtain ⟨z, hz⟩ : ∃ z, z = x / 2 ^ k % 2 := ⟨_, rfl⟩
  have hz2 : z < 2 := by omega
  rw [← hz] at e0 ⊢
  rcases hk with rfl | rfl | rfl
  all_goals
    simp at e0
    clear hz
    go_enter Try.func25, Try.ntmps25
    go_wp2
    go_ret
    exact ⟨rfl, rfl⟩
theorem get2_any (x g : Nat) (hx : x < 256) (w : World) (hB : Blk w g 5 #[.int .u8 (x : Int)]) :
    Calls Try.prog 25 #[.int .i64 2, .pointer (some ⟨g, 0, none⟩)] w fun e w' => e = .returned (.int .i64 ((x / 4 % 2 : Nat) : Int)) ∧ w = w' := get_any x 2 g hx (by omega) w hB
theorem get3_any (x g : Nat) (hx : x < 256) (w : World) (hB : Blk w g 5 #[.int .u8 (x : Int)]) :
    Calls Try.prog 25 #[.int .i64 3, .pointer (some ⟨g, 0, none⟩)] w fun e w' => e = .returned (.int .i64 ((x / 8 % 2 : Nat) : Int)) ∧ w = w' := get_any x 3 g hx (by omega) w hB
theorem get4_any (x g : Nat) (hx : x < 256) (w : World) (hB : Blk w g 5 #[.int .u8 (x : Int)]) :
    Calls Try.prog 25 #[.int .i64 4, .pointer (some ⟨g, 0, none⟩)] w fun e w' => e = .returned (.int .i64 ((x / 16 % 2 : Nat) : Int)) ∧ w = w' := get_any x 4 g hx (by omega) w hB
end Go.Proofs.Yticefenffmebpaa
