/-
  The walk of the law ReplayOnce.
-/
import Derived.Test.YtajhfmioidmacaaRph
import Derived.Test.YtajhfmioidmacaaRpk
namespace Go.Proofs.Ytajhfmioidmacaa
set_option linter.unusedVariables false
set_option linter.unusedSimpArgs false
open Go.RowKit

theorem kept_all (l : List Msg) : Kept (rowsOf l) (gotOf l) ∧ (rowsOf l).length ≤ 32 ∧ (gotOf l).length ≤ l.length := by
  have key : ∀ k, k ≤ l.length → Kept (rowsOf (l.take k)) (gotOf (l.take k)) ∧ (rowsOf (l.take k)).length ≤ 32 ∧ (gotOf (l.take k)).length ≤ k := by
    intro k
    induction k with
    | zero => intro _; exact ⟨fun y hy => by simp [gotOf] at hy, by simp [rowsOf], by simp [gotOf]⟩
    | succ k ih =>
      intro hk
      obtain ⟨h1, h2, h3⟩ := ih (by omega)
      have hx : l[k]? = some l[k] := List.getElem?_eq_getElem (by omega)
      rw [rows_snoc hx, got_snoc hx]
      by_cases hc : chk (rowsOf (l.take k)) l[k] = 0
      · rw [if_pos hc]
        exact ⟨(kept_step h1 hc).1, acc_len h2, by simp; omega⟩
      · rw [if_neg hc, acc_err hc]
        exact ⟨h1, h2, by omega⟩
  have := key l.length (Nat.le_refl _)
  rwa [List.take_of_length_le (Nat.le_refl _)] at this
theorem ownG_below {w w' : World} {base : Nat} {e : TypeId} {size : Nat} {v : Value} {n : Nat} {xs : List Value} {g : Option Nat} (h : OwnG w base e size v n xs g) (hb : Below w.heap.size w w') : OwnG w' base e size v n xs g := by
  rcases h with h | ⟨b, rfl, hv, ho⟩
  · exact .inl h
  · exact .inr ⟨b, rfl, hv, own_below ho hb⟩
theorem below_drewN {B : Nat} {a w : World} (h : Below B a w) (n : Nat) : Below B a (w.drewN n) := ⟨h.os, h.tape, h.output, h.size, h.block⟩
set_option maxRecDepth 100000 in
set_option maxHeartbeats 8000000 in
theorem replayOnce_walk (A : Option Addr) (n c : Nat) (l : List Msg) (w : World) (h0 : Rd w 3 A n (mv l) ∧ n ≤ c ∧ c ≤ maxLen) :
    Calls Try.prog 7 #[.slice A n c] w fun e w' => e = .returned (.bool true) ∧ Below w.heap.size w w' := by
  obtain ⟨hA, hnc, hm⟩ := h0
  by_cases hbig : 150 < n
  · have hbig' : (150 : Int) < (n : Int) := by omega
    go_enter Try.func7, Try.ntmps7
    go_wp2_with fail
    refine (lives_any _).mono ?_
    rintro e w1 ⟨rfl, hb1⟩
    go_wp2
    go_ret
    exact ⟨rfl, hb1⟩
  · have hbig' : (n : Int) ≤ (150 : Int) := by omega
    have HL := hide hA.mlen
    go_enter Try.func7, Try.ntmps7
    go_wp2
    go_loopw [3, 4, 5] (fun v g i wr => ∃ (k m cap : Nat) (R : List Msg) (B : Option Addr) (G : List Msg) (bg : Option Nat), k ≤ n ∧ i = .int .i64 k ∧ v = .slice B m cap ∧ m ≤ cap ∧ Hid (R = rowsOf (l.take k)) ∧ Hid (G = gotOf (l.take k)) ∧ Rd wr 3 B m (mv R) ∧ OwnG wr w.heap.size 26 3 g G.length (mv G) bg ∧ Below w.heap.size w wr) (fun _ _ i _ => n - (intOf i).toNat)
    case atStart => exact ⟨0, 0, 0, [], none, [], none, Nat.zero_le _, rfl, rfl, Nat.le_refl _, hide rfl, hide rfl, Rd.none_ _ _ _, OwnG.empty _ _ _ _ _, Below.refl _ _⟩
    case round =>
      obtain ⟨k, m, cap, R, B, G, bg, hk, rfl, rfl, hmc, HR, HG, hR, hG, hbe⟩ := hrel
      have hgood := kept_all (l.take k)
      rw [← HR.out, ← HG.out] at hgood
      obtain ⟨hK, hR32, hGl⟩ := hgood
      have hGk : G.length ≤ 150 := by rw [List.length_take] at hGl; omega
      have hRm := hR.mlen
      have hm32 : (m : Int) ≤ 32 := by omega
      have hm100 : m ≤ 10000 := by omega
      have HK := hide hK
      have HR32 := hide hR32
      have HRm := hide hRm
      clear hK hR32 hGl hRm
      by_cases hlt : k < n
      · obtain ⟨b, o, x, rfl, hbw, HX, c0, c1', c2'⟩ := hA.msg hlt
        have hbs : b < wr.heap.size := Nat.lt_of_lt_of_le hbw hbe.size
        have p0 := (hbe.cell (p := ⟨b, o + k * 3, none⟩) hbw).trans c0
        have p1 := (hbe.cell (p := ⟨b, o + k * 3 + 1, none⟩) hbw).trans c1'
        have p2 := (hbe.cell (p := ⟨b, o + k * 3 + 2, none⟩) hbw).trans c2'
        have hsz := hbe.size
        have HN1 := hide (rows_snoc HX.out)
        have HN2 := hide (got_snoc HX.out)
        rw [← HR.out] at HN1 HN2
        rw [← HG.out] at HN2
        by_cases hc : chk R x = 0
        · have hnew := kept_newer HK.out hc
          have hst := (kept_step HK.out hc).2
          have hal := acc_len (x := x) HR32.out
          obtain ⟨R2, hR2⟩ : ∃ R2, R2 = (acc R x).1 := ⟨_, rfl⟩
          rw [← hR2] at HN1 hst hal
          have HR2 := hide hR2
          have HC := hide hc
          have HA2 := hide (acc_ok hc)
          have HST := hide hst
          have HNEW := hide hnew
          obtain ⟨m2, hm2⟩ : ∃ m2, m2 = R2.length := ⟨_, rfl⟩
          rw [← hm2] at hal
          have HM2 := hide hm2
          have hm2i : (m2 : Int) ≤ 32 := by omega
          clear hR2 hc hnew hst hm2 hal
          go_wp2_with fail
          refine (accept_any B m cap R x _ hR hmc hm100).mono ?_
          rintro e w1 ⟨v1, rfl, hown1, hb1⟩
          rw [← HR2.out, ← HM2.out] at hown1
          rw [HA2.out]
          obtain ⟨A1, c1, hv1, hc1, _, hr1⟩ := own_rdn hown1
          rw [hv1] at hown1
          rw [hv1]
          have hsep : ∀ q, bg = some q → (Value.slice A1 m2 c1).ownBlock ≠ some q := by
            intro q hq e
            have h1 := (hown1.lt q e).1
            have h2 := (hG.lt q hq).2
            omega
          clear hv1
          have q0 := (hb1.cell (p := ⟨b, o + k * 3, none⟩) hbs).trans p0
          have q1 := (hb1.cell (p := ⟨b, o + k * 3 + 1, none⟩) hbs).trans p1
          have q2 := (hb1.cell (p := ⟨b, o + k * 3 + 2, none⟩) hbs).trans p2
          go_wp2_with fail
          refine (check_any B m cap R x _ (hR.below hb1) (by omega)).mono ?_
          rintro e w2 ⟨rfl, hb2⟩
          rw [HC.out]
          have hb12 := hb1.trans (hb2.mono hb1.size)
          have hO2 := own_below hown1 hb2
          have hG2 := ownG_below hG hb12
          obtain ⟨Ag, cg, hu4, hcg, hrg⟩ := hG2.rd
          rw [hu4] at hG2
          rw [hu4]
          obtain ⟨g, hg⟩ : ∃ g, g = G.length := ⟨_, rfl⟩
          rw [← hg] at hG2 hrg hGk hcg ⊢
          have HGL := hide hg
          clear q0 q1 q2 hu4 hg
          have B2 := hbe.trans (hb12.mono hsz)
          have s0 := (hb12.cell (p := ⟨b, o + k * 3, none⟩) hbs).trans p0
          have s1 := (hb12.cell (p := ⟨b, o + k * 3 + 1, none⟩) hbs).trans p1
          have s2 := (hb12.cell (p := ⟨b, o + k * 3 + 2, none⟩) hbs).trans p2
          have hbs2 : b < w2.heap.size := Nat.lt_of_lt_of_le hbs hb12.size
          clear p0 p1 p2 hb1 hb2 hr1 hown1
          go_wp2
          go_loopw [8] (fun v wr => ∃ j : Nat, j ≤ g ∧ v = .int .i64 j ∧ Below w2.heap.size w2 wr) (fun v _ => g - (intOf v).toNat)
          case atStart => exact ⟨0, Nat.zero_le _, rfl, Below.refl _ _⟩
          case round =>
            obtain ⟨j, hj, rfl, hbj⟩ := hrel
            have t0 := (hbj.cell (p := ⟨b, o + k * 3, none⟩) hbs2).trans s0
            have t1 := (hbj.cell (p := ⟨b, o + k * 3 + 1, none⟩) hbs2).trans s1
            have t2 := (hbj.cell (p := ⟨b, o + k * 3 + 2, none⟩) hbs2).trans s2
            by_cases hlt2 : j < g
            · obtain ⟨b2, o2, y, rfl, _, HY, z0, z1, z2⟩ := (hrg.below hbj).msg hlt2
              have hjg : (j : Int) < (g : Int) := by omega
              have hkn : (k : Int) < (n : Int) := by omega
              clear s0 s1 s2
              obtain ⟨x0, x1, x2⟩ := x
              have hnw := HNEW.out y (mem_at HY.out)
              obtain ⟨y0, y1, y2⟩ := y
              simp only at t0 t1 t2 z0 z1 z2 hnw
              by_cases hys : y0 = x0
              · have h5 := hnw hys
                subst hys
                by_cases hyi : x1 = y1
                · subst hyi
                  have h6 : decide (x2 ≤ y2) = false := decide_eq_false (by omega)
                  have h7 : decide (x1 < x1) = false := decide_eq_false (by omega)
                  clear hnw h5
                  go_wp2_with fail
                  go_quiet (fail)
                  go_wp2
                  go_roundw
                  case rel => exact ⟨j + 1, by omega, by go_num, below_drewN hbj _⟩
                  case measure => simp [intOf]; omega
                · have h6 : (x1 == y1) = false := by rw [beq_eq_false_iff_ne]; exact hyi
                  have h7 : decide (x1 < y1) = false := decide_eq_false (by omega)
                  clear hnw h5 hyi
                  go_wp2_with fail
                  go_quiet (fail)
                  go_wp2
                  go_roundw
                  case rel => exact ⟨j + 1, by omega, by go_num, below_drewN hbj _⟩
                  case measure => simp [intOf]; omega
              · have h6 : (y0 == x0) = false := by rw [beq_eq_false_iff_ne]; exact hys
                clear hnw hys
                go_wp2_with fail
                go_quiet (fail)
                go_wp2
                go_roundw
                case rel => exact ⟨j + 1, by omega, by go_num, below_drewN hbj _⟩
                case measure => simp [intOf]; omega
            · obtain rfl : j = g := by omega
              have hG3 := ownG_below hG2 hbj
              have hszj : w.heap.size ≤ wr.heap.size := Nat.le_trans B2.size hbj.size
              have Bj := B2.trans (hbj.mono B2.size)
              have hOj := own_below hO2 hbj
              have BjX := Bj.alloc hszj (.cells #[.int .u16 x.s, .int .u32 x.i, .int .u32 x.q] 26)
              have hszX : w.heap.size ≤ (wr.alloc (.cells #[.int .u16 x.s, .int .u32 x.i, .int .u32 x.q] 26)).heap.size := BjX.size
              have hkeep : (Value.slice A1 m2 c1).ownBlock = none ∨ (Value.slice A1 m2 c1).ownBlock ≠ bg := by
                cases hv : (Value.slice A1 m2 c1).ownBlock with
                | none => exact .inl rfl
                | some q =>
                  right
                  intro e
                  exact hsep q e.symm hv
              have tok1 : True := trivial
              clear s0 s1 s2 hO2 hG2
              go_wp2_with (at_builtin; have _t := tok1; refine wpList_append_g _ rfl (.tmp 98) (.tmp 103) _ rfl w.heap.size 26 (.agg #[.int .u16 0, .int .u32 0, .int .u32 0]) 3 12 underS infoS rfl (by omega) (.slice Ag j cg) j (mv G) bg rfl (hG3.alloc _) (some ⟨wr.heap.size, 0, none⟩) 1 1 (mv [x]) rfl (rd3_one wr x _) (by omega) (mv_one [x]) (by omega) (by omega) hszX ?_; intro v3 w3 g3 hown3 hg3 hat3; have B3 := BjX.grown hg3 hszX (fun q hq => (hG3.lt q hq).1); have hO3 := (hOj.alloc (.cells #[.int .u16 x.s, .int .u32 x.i, .int .u32 x.q] 26)).kept hg3 hkeep; have z0 := (B3.cell (p := ⟨b, o + k * 3, none⟩) hbw).trans c0; have z1 := (B3.cell (p := ⟨b, o + k * 3 + 1, none⟩) hbw).trans c1'; have z2 := (B3.cell (p := ⟨b, o + k * 3 + 2, none⟩) hbw).trans c2'; clear tok1 _t)
              obtain ⟨_, _, hv9, _, _, hr9⟩ := own_rdn hO3
              injection hv9 with hv9 _ hv10
              rw [← hv9] at hr9
              clear hv9 hv10
              refine (check_any A1 m2 c1 R2 x _ hr9 (by omega)).mono ?_
              rintro e w5 ⟨rfl, hb5⟩
              rw [HST.out]
              have HLN := hide (show (G ++ [x]).length = j + 1 by rw [List.length_append, List.length_singleton, ← HGL.out])
              go_wp2
              go_roundw
              case rel =>
                refine ⟨k + 1, m2, c1, R2, A1, G ++ [x], g3, by omega, by go_num, rfl, hc1, hide HN1.out.symm, hide (by rw [HN2.out, if_pos HC.out]), hr9.below hb5, ?_, B3.trans (hb5.mono B3.size)⟩
                rw [HLN.out, mv_append]
                exact ownG_below hown3 hb5
              case measure => simp [intOf]; omega
        · have h1 : (((chk R x : Nat) : Int) != 0) = true := by rw [bne_iff_ne]; omega
          have HA := hide (acc_err hc)
          have HC := hide hc
          obtain ⟨E, hE⟩ : ∃ E, E = chk R x := ⟨_, rfl⟩
          rw [← hE] at h1
          have HE := hide hE
          clear hE hc
          go_wp2_with fail
          refine (accept_any B m cap R x _ hR hmc hm100).mono ?_
          rintro e w1 ⟨v1, rfl, hown1, hb1⟩
          rw [HA.out] at hown1 ⊢
          rw [← HE.out]
          rw [HRm.out] at hown1
          obtain ⟨A1, c1, hv1, hc1, _, hr1⟩ := own_rdn hown1
          rw [hv1]
          clear hown1 hv1
          have q0 := (hb1.cell (p := ⟨b, o + k * 3, none⟩) hbs).trans p0
          have q1 := (hb1.cell (p := ⟨b, o + k * 3 + 1, none⟩) hbs).trans p1
          have q2 := (hb1.cell (p := ⟨b, o + k * 3 + 2, none⟩) hbs).trans p2
          go_wp2_with fail
          refine (check_any B m cap R x _ (hR.below hb1) (by omega)).mono ?_
          rintro e w2 ⟨rfl, hb2⟩
          rw [← HE.out]
          have hb12 := hb1.trans (hb2.mono hb1.size)
          clear q0 q1 q2
          go_wp2_with fail
          refine (samerows_any A1 B m m c1 cap R R _ (hr1.below hb2) (hR.below hb12) (by omega) (by omega)).mono ?_
          rintro e w3 ⟨rfl, hb3⟩
          rw [decide_eq_true rfl]
          have hb123 := hb12.trans (hb3.mono hb12.size)
          go_wp2
          go_roundw
          case rel => exact ⟨k + 1, m, cap, R, B, G, bg, by omega, by go_num, rfl, hmc, hide (by rw [HN1.out, HA.out]), hide (by rw [HN2.out, if_neg HC.out]), hR.below hb123, ownG_below hG hb123, hbe.trans (hb123.mono hsz)⟩
          case measure => simp [intOf]; omega
      · obtain rfl : k = n := by omega
        go_wp2_with fail
        refine (lives_any _).mono ?_
        rintro e w9 ⟨rfl, hb9⟩
        go_wp2
        go_ret
        exact ⟨rfl, hbe.trans (hb9.mono hbe.size)⟩
end Go.Proofs.Ytajhfmioidmacaa
