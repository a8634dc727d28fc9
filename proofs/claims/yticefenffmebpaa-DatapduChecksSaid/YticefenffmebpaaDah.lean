/-
  The walk of Decode. Its contract.
-/
import Derived.Test.YticefenffmebpaaDaf
import Derived.Test.YticefenffmebpaaDag
namespace Go.Proofs.Yticefenffmebpaa
set_option linter.unusedVariables false
set_option linter.unusedSimpArgs false
open Go.RowKit

set_option maxHeartbeats 1000000 in
theorem decode_any (A : Option Addr) (n c : Nat) (l : List Nat) (w : World) (hA : Rd w 1 A n (bv l)) (hl : ∀ x ∈ l, x < 256) (hnc : n ≤ c) (hn : n ≤ 10000) :
    Calls Try.prog 17 #[.slice A n c] w fun e w' => ∃ v, e = .returned (.tuple #[.agg #[.int .i64 (dsn l : Nat), .int .i64 (dne l : Nat), .int .i64 (dmd l : Nat), .int .i64 (did l : Nat), v], .int .i64 (derr l : Nat)]) ∧
      w'.ownsRow w.heap.size 5 1 v (dpl l).length (bv (dpl l)) ∧ Below w.heap.size w w' := by
  have hlen := hA.blen
  by_cases h2 : n < 2
  · have he : derr l = 3 := by unfold derr; rw [if_pos (by omega)]
    obtain ⟨e1, e2, e3, e4, e5⟩ := ddec_bad (l := l) (by rw [he]; decide)
    rw [e1, e2, e3, e4, e5, he]
    clear e1 e2 e3 e4 e5 he
    have h3 : (n : Int) < 2 := by omega
    go_enter Try.func17, Try.ntmps17
    go_wp2
    exact bodyPost_ret (run_res_pdu rfl rfl rfl (Blk.new _ _ _)) rfl ⟨_, rfl, World.ownsRow_nil _ _ _ _, (Below.refl _ _).alloc (Nat.le_refl _) _⟩
  · obtain ⟨x, y, t, rfl⟩ := two_of (l := l) (by omega)
    obtain ⟨b, o, rfl, hb, c0, c1⟩ := hA.two
    have hx : x < 256 := hl x (by simp)
    have hy : y < 256 := hl y (by simp)
    simp only [List.length_cons] at hlen
    have h3 : ¬ (n : Int) < 2 := by omega
    have c0' : ∀ ob, (w.alloc ob).cell? ⟨b, o, none⟩ = some (.int .u8 (x : Int)) := fun ob => (World.cell?_alloc_lt w ob ⟨b, o, none⟩ hb).trans c0
    have c1' : ∀ ob, (w.alloc ob).cell? ⟨b, o + 1, none⟩ = some (.int .u8 (y : Int)) := fun ob => (World.cell?_alloc_lt w ob ⟨b, o + 1, none⟩ hb).trans c1
    have ha := and3 x hx
    have hcs := derr_two x y t
    have hl0 := hlen
    obtain ⟨id, hid⟩ : ∃ id, id = x % 4 := ⟨_, rfl⟩
    rw [← hid] at ha hcs
    have hid4 : id < 4 := by omega
    have HID := hide hid
    clear hid
    rcases hcs with ⟨h, he⟩ | ⟨h, h', he⟩ | ⟨h, h', h4, h5, he⟩ | ⟨h, h', h4, h5, he⟩ | ⟨h, h', h4, h5, he⟩ | ⟨h, h', h4, h5, he⟩ | ⟨h, h', h4, h5, he⟩ | ⟨h, h', h4, h5, he⟩
    · have f0 : ((x : Int) / 32 != 0) = true := by rw [bne_iff_ne]; omega
      obtain ⟨e1, e2, e3, e4, e5⟩ := ddec_bad (l := x :: y :: t) (by rw [he]; decide)
      rw [e1, e2, e3, e4, e5, he]
      clear e1 e2 e3 e4 e5 he
      go_enter Try.func17, Try.ntmps17
      go_wp2_with fail
      go_region
      go_wp2
      exact bodyPost_ret (run_res_pdu rfl rfl rfl ((Blk.new _ _ _).alloc _).drew) rfl ⟨_, rfl, World.ownsRow_nil _ _ _ _, (((Below.refl _ _).alloc (Nat.le_refl _) _).alloc (by simp) _).drew⟩
    · have f0 : (x : Int) / 32 = 0 := by omega
      subst h'
      obtain ⟨e1, e2, e3, e4, e5⟩ := ddec_bad (l := x :: y :: t) (by rw [he]; decide)
      rw [e1, e2, e3, e4, e5, he]
      clear e1 e2 e3 e4 e5 he
      go_enter Try.func17, Try.ntmps17
      go_wp2_with fail
      go_region
      go_wp2
      exact bodyPost_ret (run_res_pdu rfl rfl rfl ((Blk.new _ _ _).alloc _).drew) rfl ⟨_, rfl, World.ownsRow_nil _ _ _ _, (((Below.refl _ _).alloc (Nat.le_refl _) _).alloc (by simp) _).drew⟩
    · subst h4
      have f0 : (x : Int) / 32 = 0 := by omega
      have f1 : ((id : Int) == 0) = false := by rw [beq_eq_false_iff_ne]; omega
      have f2 : (id : Int) ≠ 1 := by omega
      obtain ⟨e1, e2, e3, e4, e5⟩ := ddec_bad (l := x :: 0 :: t) (by rw [he]; decide)
      rw [e1, e2, e3, e4, e5, he]
      clear e1 e2 e3 e4 e5 he
      go_enter Try.func17, Try.ntmps17
      go_wp2_with fail
      go_region
      go_wp2
      exact bodyPost_ret (run_res_pdu rfl rfl rfl ((Blk.new _ _ _).alloc _).drew) rfl ⟨_, rfl, World.ownsRow_nil _ _ _ _, (((Below.refl _ _).alloc (Nat.le_refl _) _).alloc (by simp) _).drew⟩
    · have f0 : (x : Int) / 32 = 0 := by omega
      have f1 : ((id : Int) == 0) = false := by rw [beq_eq_false_iff_ne]; omega
      have f2 : ((y : Int) == 0) = false := by rw [beq_eq_false_iff_ne]; omega
      have f3 : (n : Int) - 2 < (y : Int) := by omega
      obtain ⟨e1, e2, e3, e4, e5⟩ := ddec_bad (l := x :: y :: t) (by rw [he]; decide)
      rw [e1, e2, e3, e4, e5, he]
      clear e1 e2 e3 e4 e5 he
      go_enter Try.func17, Try.ntmps17
      go_wp2_with fail
      go_region
      go_wp2
      exact bodyPost_ret (run_res_pdu rfl rfl rfl ((Blk.new _ _ _).alloc _).drew) rfl ⟨_, rfl, World.ownsRow_nil _ _ _ _, (((Below.refl _ _).alloc (Nat.le_refl _) _).alloc (by simp) _).drew⟩
    · have f0 : (x : Int) / 32 = 0 := by omega
      have f1 : ((id : Int) == 0) = false := by rw [beq_eq_false_iff_ne]; omega
      have f2 : ((y : Int) == 0) = false := by rw [beq_eq_false_iff_ne]; omega
      have f3 : ¬ (n : Int) - 2 < (y : Int) := by omega
      have f4 : (y : Int) < (n : Int) - 2 := by omega
      obtain ⟨e1, e2, e3, e4, e5⟩ := ddec_bad (l := x :: y :: t) (by rw [he]; decide)
      rw [e1, e2, e3, e4, e5, he]
      clear e1 e2 e3 e4 e5 he
      go_enter Try.func17, Try.ntmps17
      go_wp2_with fail
      go_region
      go_wp2
      exact bodyPost_ret (run_res_pdu rfl rfl rfl ((Blk.new _ _ _).alloc _).drew) rfl ⟨_, rfl, World.ownsRow_nil _ _ _ _, (((Below.refl _ _).alloc (Nat.le_refl _) _).alloc (by simp) _).drew⟩
    · exact decode_long b o n c x y t w hA hl hnc hn hb c0 c1 hx hy hlen h2 h (by rw [← HID.out]; exact h') h4 h5 he
    · subst h4
      have f0 : (x : Int) / 32 = 0 := by omega
      subst h'
      have f3 : ¬ (n : Int) - 2 < 0 := by omega
      have f4 : (0 : Int) < (n : Int) - 2 := by omega
      obtain ⟨e1, e2, e3, e4, e5⟩ := ddec_bad (l := x :: 0 :: t) (by rw [he]; decide)
      rw [e1, e2, e3, e4, e5, he]
      clear e1 e2 e3 e4 e5 he
      go_enter Try.func17, Try.ntmps17
      go_wp2_with fail
      go_region
      go_wp2
      exact bodyPost_ret (run_res_pdu rfl rfl rfl ((Blk.new _ _ _).alloc _).drew) rfl ⟨_, rfl, World.ownsRow_nil _ _ _ _, (((Below.refl _ _).alloc (Nat.le_refl _) _).alloc (by simp) _).drew⟩
    · by_cases hc2 : c = 2
      · exact decode_two b o n c x y t w hA hl hnc hn hb c0 c1 hx hy hlen h2 h (by rw [← HID.out]; exact h') h4 h5 he hc2
      · exact decode_empty b o n c x y t w hA hl hnc hn hb c0 c1 hx hy hlen h2 h (by rw [← HID.out]; exact h') h4 h5 he hc2
end Go.Proofs.Yticefenffmebpaa
