/-
  How the laws' arguments are opened; and the plain laws of the bytes of a PDU.
-/
import Derived.Test.YticefenffmebpaaDab
import Derived.ProofKit
import Derived.OpenShut
import Derived.ChangeOld
namespace Go.Proofs.Yticefenffmebpaa
set_option linter.unusedVariables false
set_option linter.unusedSimpArgs false
open Go.RowKit

section
variable {H : Type} {enc : TypeId × Value → H} {W : World} {base : Nat} {sp : Nat → Bool} {held : Bool}
theorem cells_int : Try.prog.cellsOf 3 = 1 := by kernel_rfl
theorem cells_sl8 : Try.prog.cellsOf 22 = 1 := by kernel_rfl
theorem cells_packet : Try.prog.cellsOf 24 = 2 := by kernel_rfl
theorem cells_pdu : Try.prog.cellsOf 26 = 5 := by kernel_rfl
theorem list1 {α : Type} {l : List α} (h : l.length = 1) : ∃ a, l = [a] := by
  match l, h with
  | [a], _ => exact ⟨a, rfl⟩
theorem list2 {α : Type} {l : List α} (h : l.length = 2) : ∃ a b, l = [a, b] := by
  match l, h with
  | [a, b], _ => exact ⟨a, b, rfl⟩
theorem list4 {α : Type} {l : List α} (h : l.length = 4) : ∃ a b c d, l = [a, b, c, d] := by
  match l, h with
  | [a, b, c, d], _ => exact ⟨a, b, c, d, rfl⟩
theorem list5 {α : Type} {l : List α} (h : l.length = 5) : ∃ a b c d e, l = [a, b, c, d, e] := by
  match l, h with
  | [a, b, c, d, e], _ => exact ⟨a, b, c, d, e, rfl⟩
theorem open_bytecs {fuel : Nat} {cs : List Value} {x : DataW H × List MemPlace} (h : DataW.trod enc Try.prog W 0 (fun _ => true) held fuel 22 cs = some x) :
    ∃ (A : Option Addr) (n c : Nat) (l : List Nat), cs = [.slice A n c] ∧ (Rd W 1 A n (bv l) ∧ (∀ x ∈ l, x < 256) ∧ n ≤ c ∧ c ≤ maxLen) := by
  rcases Go.ChangeShapes.open_ints Try.underlying22 Try.underlying5 (by kernel_rfl) h with ⟨hcs, _⟩ | ⟨x, len, c, zs, hcs, _, hl, hm, hz, _, hcell, hwz⟩
  · obtain ⟨l, h1, h2, h3, h4⟩ := IsRow.rd (show IsRow .u8 W none 0 0 [] from .inl ⟨rfl, rfl, rfl, rfl⟩)
    exact ⟨none, 0, 0, l, hcs, h1, h2, h3, h4⟩
  · obtain ⟨l, h1, h2, h3, h4⟩ := IsRow.rd (show IsRow .u8 W (some x) len c zs from .inr ⟨_, rfl, hl, hm, by simpa using hz, hcell, hwz⟩)
    exact ⟨some x, len, c, l, hcs, h1, h2, h3, h4⟩
theorem open_bytes {r : Reach} {b0 : Nat} {v : Value} {d : DataW H} {p : List MemPlace} (hv : Value.okWide Try.prog W r b0 22 v) (h : DataW.Trod enc Try.prog W 0 (fun _ => true) held 22 v d p) :
    ∃ (A : Option Addr) (n c : Nat) (l : List Nat), v = .slice A n c ∧ (Rd W 1 A n (bv l) ∧ (∀ x ∈ l, x < 256) ∧ n ≤ c ∧ c ≤ maxLen) := by
  obtain ⟨A, n, c, rfl⟩ := Go.WideShapes.okWide_slice Try.underlying22 hv
  obtain ⟨fuel, hf⟩ := h
  obtain ⟨A', n', c', l, hcs, h1⟩ := open_bytecs hf
  simp [Value.cells] at hcs
  obtain ⟨rfl, rfl, rfl⟩ := hcs
  exact ⟨A, n, c, l, rfl, h1⟩
theorem open_packetcs {fuel : Nat} {cs : List Value} {x : DataW H × List MemPlace} (h : DataW.trod enc Try.prog W 0 (fun _ => true) held fuel 24 cs = some x) :
    ∃ (id : Int) (A : Option Addr) (n c : Nat) (l : List Nat), cs = [.int .i64 id, .slice A n c] ∧ (Rd W 1 A n (bv l) ∧ (∀ x ∈ l, x < 256) ∧ n ≤ c ∧ c ≤ maxLen) := by
  obtain ⟨xs, n, _, _, hlen, hxl, hf⟩ := DataW.trod_struct Try.underlying24 h
  rw [cells_packet] at hlen
  obtain ⟨c0, c1, rfl⟩ := list2 hlen
  obtain ⟨y0, y1, rfl⟩ := list2 (by simpa using hxl)
  have h0 := hf 0 _ rfl
  have h1 := hf 1 _ rfl
  simp [cells_int, cells_sl8] at h0 h1
  obtain ⟨id, e0, _⟩ := DataW.trod_int Try.underlying3 h0
  obtain ⟨A, n', c, l, e1, hl⟩ := open_bytecs h1
  simp only [List.cons.injEq, and_true] at e0 e1
  exact ⟨id, A, n', c, l, by rw [e0, e1], hl⟩
theorem open_pducs {fuel : Nat} {cs : List Value} {x : DataW H × List MemPlace} (h : DataW.trod enc Try.prog W 0 (fun _ => true) held fuel 26 cs = some x) :
    ∃ (sn ne md id : Int) (A : Option Addr) (n c : Nat) (l : List Nat), cs = [.int .i64 sn, .int .i64 ne, .int .i64 md, .int .i64 id, .slice A n c] ∧ (Rd W 1 A n (bv l) ∧ (∀ x ∈ l, x < 256) ∧ n ≤ c ∧ c ≤ maxLen) := by
  obtain ⟨xs, n, _, _, hlen, hxl, hf⟩ := DataW.trod_struct Try.underlying26 h
  rw [cells_pdu] at hlen
  obtain ⟨c0, c1, c2, c3, c4, rfl⟩ := list5 hlen
  obtain ⟨y0, y1, y2, y3, rfl⟩ := list4 (by simpa using hxl)
  have h0 := hf 0 _ rfl
  have h1 := hf 1 _ rfl
  have h2 := hf 2 _ rfl
  have h3 := hf 3 _ rfl
  simp [cells_int, cells_packet] at h0 h1 h2 h3
  obtain ⟨a, e0, _⟩ := DataW.trod_int Try.underlying3 h0
  obtain ⟨b, e1, _⟩ := DataW.trod_int Try.underlying3 h1
  obtain ⟨c, e2, _⟩ := DataW.trod_int Try.underlying3 h2
  obtain ⟨id, A, n', k, l, e3, hl⟩ := open_packetcs h3
  simp only [List.cons.injEq, and_true] at e0 e1 e2 e3
  exact ⟨a, b, c, id, A, n', k, l, by rw [e0, e1, e2, e3.1, e3.2], hl⟩
theorem open_pdu {r : Reach} {b0 : Nat} {v : Value} {d : DataW H} {p : List MemPlace} (hv : Value.okWide Try.prog W r b0 26 v) (h : DataW.Trod enc Try.prog W 0 (fun _ => true) held 26 v d p) :
    ∃ (sn ne md id : Int) (A : Option Addr) (n c : Nat) (l : List Nat), v = .agg #[.int .i64 sn, .int .i64 ne, .int .i64 md, .int .i64 id, .slice A n c] ∧ (Rd W 1 A n (bv l) ∧ (∀ x ∈ l, x < 256) ∧ n ≤ c ∧ c ≤ maxLen) := by
  obtain ⟨cs, rfl, _⟩ := Go.WideShapes.okWide_struct Try.underlying26 hv
  obtain ⟨fuel, hf⟩ := h
  obtain ⟨sn, ne, md, id, A, n, c, l, hc, hl⟩ := open_pducs hf
  obtain ⟨q⟩ := cs
  have hq : q = [.int .i64 sn, .int .i64 ne, .int .i64 md, .int .i64 id, .slice A n c] := hc
  exact ⟨sn, ne, md, id, A, n, c, l, by rw [hq], hl⟩
end

/-- What a valid PDU's bytes are. -/
theorem dvalid {sn ne md id : Int} {n : Nat} (h : dchk sn ne md id n = 0) : ∃ s e m i : Nat, sn = (s : Int) ∧ ne = (e : Int) ∧ md = (m : Int) ∧ id = (i : Int) ∧ s < 2 ∧ e < 2 ∧ m < 2 ∧ 1 ≤ i ∧ i ≤ 3 ∧ n ≤ 255 ∧ (n = 0 → i = 1) := by
  obtain ⟨⟨k1, k2, k3⟩, i1, i2, hn2, hn3⟩ := dchk_zero h
  obtain ⟨s, rfl, hs⟩ := dok_nat k1
  obtain ⟨e, rfl, he⟩ := dok_nat k2
  obtain ⟨m, rfl, hm⟩ := dok_nat k3
  obtain ⟨i, rfl⟩ : ∃ y : Nat, id = (y : Int) := Int.eq_ofNat_of_zero_le (by omega)
  exact ⟨s, e, m, i, rfl, rfl, rfl, rfl, hs, he, hm, by omega, by omega, hn2, fun h0 => by have := hn3 h0; omega⟩
theorem dchk_valid {s e m i n : Nat} (hs : s < 2) (he : e < 2) (hm : m < 2) (h1 : 1 ≤ i) (h3 : i ≤ 3) (hn : n ≤ 255) (h0 : n = 0 → i = 1) : dchk (s : Int) (e : Int) (m : Int) (i : Int) n = 0 := by
  have k : ∀ x : Nat, x < 2 → dok (x : Int) = true := by
    intro x hx
    unfold dok
    rcases (show x = 0 ∨ x = 1 by omega) with rfl | rfl <;> rfl
  rw [dchk_ok (k s hs) (k e he) (k m hm)]
  unfold dpk
  rw [if_neg (by omega), if_neg (by omega), if_neg (by omega)]
theorem dhead_nat (s e m i : Nat) : dhead (s : Int) (e : Int) (m : Int) (i : Int) = i + 4 * e + 8 * s + 16 * m := by unfold dhead; omega
/-- The bytes of a valid PDU are accepted, and are its. -/
theorem dback {sn ne md id : Int} {l : List Nat} (h : dchk sn ne md id l.length = 0) : derr (denc sn ne md id l) = 0 ∧ ((dhead sn ne md id / 8 % 2 : Nat) : Int) = sn ∧ ((dhead sn ne md id / 4 % 2 : Nat) : Int) = ne ∧ ((dhead sn ne md id / 16 % 2 : Nat) : Int) = md ∧ ((dhead sn ne md id % 4 : Nat) : Int) = id ∧ dhead sn ne md id < 256 := by
  obtain ⟨s, e, m, i, rfl, rfl, rfl, rfl, hs, he, hm, h1, h3, hn, h0⟩ := dvalid h
  have hh := dhead_nat s e m i
  unfold denc
  rw [derr_pair]
  rw [hh]
  refine ⟨?_, by omega, by omega, by omega, by omega, by omega⟩
  rw [if_neg (by omega), if_neg (by omega), if_neg (by rintro ⟨a, b⟩; have := h0 a; omega), if_neg (by omega), if_neg (by omega)]
/-- Accepted bytes are those of what is returned. -/
theorem dunique {l : List Nat} (hl : ∀ x ∈ l, x < 256) (h : derr l = 0) : 2 ≤ l.length ∧ l.length ≤ 257 ∧ dchk ((l.getD 0 0 / 8 % 2 : Nat) : Int) ((l.getD 0 0 / 4 % 2 : Nat) : Int) ((l.getD 0 0 / 16 % 2 : Nat) : Int) ((l.getD 0 0 % 4 : Nat) : Int) (l.drop 2).length = 0 ∧
    denc ((l.getD 0 0 / 8 % 2 : Nat) : Int) ((l.getD 0 0 / 4 % 2 : Nat) : Int) ((l.getD 0 0 / 16 % 2 : Nat) : Int) ((l.getD 0 0 % 4 : Nat) : Int) (l.drop 2) = l := by
  have h2 : 2 ≤ l.length := by
    rcases Nat.lt_or_ge l.length 2 with hlt | hge
    · unfold derr at h; rw [if_pos hlt] at h; omega
    · exact hge
  obtain ⟨x, y, t, rfl⟩ := two_of h2
  have hy := hl y (by simp)
  have hc : x < 32 ∧ x % 4 ≠ 0 ∧ y = t.length ∧ (t.length = 0 → x % 4 = 1) := by
    rcases derr_two x y t with ⟨a, e⟩ | ⟨a, b, e⟩ | ⟨a, b, c, d, e⟩ | ⟨a, b, c, d, e⟩ | ⟨a, b, c, d, e⟩ | ⟨a, b, c, d, e⟩ | ⟨a, b, c, d, e⟩ | ⟨a, b, c, d, e⟩ <;> first | (rw [e] at h; omega) | omega
  obtain ⟨a, b, c, d⟩ := hc
  simp only [List.getD_cons_zero, List.drop_succ_cons, List.drop_zero, List.length_cons]
  refine ⟨by omega, by omega, dchk_valid (by omega) (by omega) (by omega) (by omega) (by omega) (by omega) d, ?_⟩
  unfold denc
  rw [dhead_nat, c]
  congr 1
  omega
/-- A beginning of a valid PDU's bytes is truncated. -/
theorem dcut {sn ne md id : Int} {l : List Nat} (h : dchk sn ne md id l.length = 0) {k : Nat} (hk : k < l.length + 2) : derr ((denc sn ne md id l).take k) = 3 := by
  obtain ⟨s, e, m, i, rfl, rfl, rfl, rfl, hs, he, hm, h1, h3, hn, h0⟩ := dvalid h
  have hh := dhead_nat s e m i
  match k, hk with
  | 0, _ => rfl
  | 1, _ => rfl
  | k + 2, hk =>
    have e1 : (denc (s : Int) (e : Int) (m : Int) (i : Int) l).take (k + 2) = dhead (s : Int) (e : Int) (m : Int) (i : Int) :: l.length :: l.take k := rfl
    rw [e1, derr_pair, hh, List.length_take, Nat.min_eq_left (by omega)]
    rw [if_neg (by omega), if_neg (by omega), if_neg (by rintro ⟨a, b⟩; omega), if_pos (by omega)]
/-- With more bytes behind them they are refused. -/
theorem dmore {sn ne md id : Int} {l more : List Nat} (h : dchk sn ne md id l.length = 0) (hm : 0 < more.length) : derr (denc sn ne md id l ++ more) = 2 := by
  obtain ⟨s, e, m, i, rfl, rfl, rfl, rfl, hs, he, hm, h1, h3, hn, h0⟩ := dvalid h
  have hh := dhead_nat s e m i
  have e1 : denc (s : Int) (e : Int) (m : Int) (i : Int) l ++ more = dhead (s : Int) (e : Int) (m : Int) (i : Int) :: l.length :: (l ++ more) := rfl
  rw [e1, derr_pair, hh, List.length_append]
  rw [if_neg (by omega), if_neg (by omega), if_neg (by rintro ⟨a, b⟩; have := h0 a; omega), if_neg (by omega), if_pos (by omega)]
theorem denc_bytes {sn ne md id : Int} {l : List Nat} (h : dchk sn ne md id l.length = 0) (hl : ∀ x ∈ l, x < 256) : ∀ x ∈ denc sn ne md id l, x < 256 := by
  obtain ⟨_, _, _, _, _, h6⟩ := dback h
  obtain ⟨s, e, m, i, rfl, rfl, rfl, rfl, hs, he, hm, h1, h3, hn, h0⟩ := dvalid h
  intro x hx
  unfold denc at hx
  simp only [List.mem_cons] at hx
  rcases hx with rfl | rfl | hx
  · exact h6
  · omega
  · exact hl x hx
end Go.Proofs.Yticefenffmebpaa
