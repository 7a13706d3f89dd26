/- Get as a whole; the reference's Get. -/
import Derived.Test.YtpkdmbdmfokkiaaG
import Derived.IntWalk
namespace Go.Proofs.Ytpkdmbdmfokkiaa
open Go.RowKit

theorem get_nobits (A : Option Addr) (n c : Nat) (bits : Int) (w : World) (h : bits < 1 ∨ 8 < bits) : Calls Try.prog 10 #[.slice A n c, .int .i64 bits] w (GetPost (0, 0, 1) w) := by
  have H := hide h
  clear h
  go_enter Try.func10, Try.ntmps10
  go_wp2_with fail
  go_step3
  go_wp2_with fail
  refine (full_no bits _ H.out).mono ?_
  rintro e w1 ⟨rfl, rfl⟩
  go_wp2_with fail
  rw [Exit.noGoto_ret]
  go_ret3
  exact get_ret rfl rfl (Below.refl _ _)

theorem get_empty (A : Option Addr) (c b : Nat) (w : World) (h1 : 1 ≤ b) (h8 : b ≤ 8) : Calls Try.prog 10 #[.slice A 0 c, .int .i64 b] w (GetPost (0, 0, 3) w) := by
  have HB := hide (And.intro h1 h8)
  clear h1 h8
  go_enter Try.func10, Try.ntmps10
  go_wp2_with fail
  go_step3
  go_wp2_with fail
  refine (full_yes b _ HB.out.1 HB.out.2).mono ?_
  rintro e w1 ⟨rfl, rfl⟩
  go_wp2_with fail
  rw [Exit.noGoto_ret]
  go_ret3
  exact get_ret rfl rfl (Below.refl _ _)

theorem get_small (A : Option Addr) (c b : Nat) (l : List Int) (w : World) (h1 : 1 ≤ b) (h8 : b ≤ 8) (hs : Sees w A (l.map (Value.int .u8))) (hl : 1 ≤ l.length) (hm : l.length ≤ 1000000) (hw : ∀ x ∈ l, 0 ≤ x ∧ x ≤ 255)
    (hf : (l.getD 0 0).toNat % 2 ^ b < fl b) : Calls Try.prog 10 #[.slice A l.length c, .int .i64 b] w (GetPost ((((l.getD 0 0).toNat % 2 ^ b : Nat) : Int), 1, 0) w) := by
  have HB := hide (And.intro h1 h8)
  have hf0 := fl_lt h8
  obtain ⟨bb, oo, rfl, hc⟩ := hs 0 _ (u8_at (show 0 < l.length from hl))
  obtain ⟨x, hx1, hx2, hx255⟩ := getD_at (show 0 < l.length from hl) hw
  rw [hx1, Nat.add_zero] at hc
  rw [hx2, Int.toNat_natCast] at hf ⊢
  have hand := and_fl x b hx255 h8
  obtain ⟨r, hr⟩ : ∃ r, x % 2 ^ b = r := ⟨_, rfl⟩
  rw [hr] at hand hf ⊢
  have hrf : (r : Int) < ((fl b : Nat) : Int) := by omega
  have hll : (1 : Int) ≤ (l.length : Int) := by omega
  have el0 : ((l.length : Int) == 0) = false := by rw [beq_eq_false_iff_ne]; omega
  clear hr h1 h8 hx1 hx2 hw
  go_enter Try.func10, Try.ntmps10
  go_wp2_with fail
  go_step3
  go_wp2_with fail
  refine (full_yes b _ HB.out.1 HB.out.2).mono ?_
  rintro e w1 ⟨rfl, rfl⟩
  go_wp2_with fail
  rw [Exit.noGoto_ret]
  go_ret3
  exact get_ret rfl rfl (Below.refl _ _)

theorem rget_nobits (A : Option Addr) (n c : Nat) (bits : Int) (w : World) (h : bits < 1 ∨ 8 < bits) : Calls Try.prog 11 #[.slice A n c, .int .i64 bits] w (GetPost (0, 0, 1) w) := by
  by_cases h1 : bits < 1
  all_goals
    have h' : bits < 1 ∨ 8 < bits := h
    clear h
    go_enter Try.func11, Try.ntmps11
    go_wp2_with fail
    go_ret3
    exact get_ret rfl rfl (Below.refl _ _)

theorem rget_empty (A : Option Addr) (c b : Nat) (w : World) (h1 : 1 ≤ b) (h8 : b ≤ 8) : Calls Try.prog 11 #[.slice A 0 c, .int .i64 b] w (GetPost (0, 0, 3) w) := by
  go_enter Try.func11, Try.ntmps11
  go_wp2_with fail
  go_ret3
  exact get_ret rfl rfl (Below.refl _ _)

theorem rget_small (A : Option Addr) (c b : Nat) (l : List Int) (w : World) (h1 : 1 ≤ b) (h8 : b ≤ 8) (hs : Sees w A (l.map (Value.int .u8))) (hl : 1 ≤ l.length) (hm : l.length ≤ 1000000) (hw : ∀ x ∈ l, 0 ≤ x ∧ x ≤ 255)
    (hf : (l.getD 0 0).toNat % 2 ^ b < fl b) : Calls Try.prog 11 #[.slice A l.length c, .int .i64 b] w (GetPost ((((l.getD 0 0).toNat % 2 ^ b : Nat) : Int), 1, 0) w) := by
  have hf0 := fl_lt h8
  have hpw := pw_fl b
  have hpp := pw_pos b
  have hp8 := pw_le8 h8
  obtain ⟨bb, oo, rfl, hc⟩ := hs 0 _ (u8_at (show 0 < l.length from hl))
  obtain ⟨x, hx1, hx2, hx255⟩ := getD_at (show 0 < l.length from hl) hw
  rw [hx1, Nat.add_zero] at hc
  rw [hx2, Int.toNat_natCast] at hf ⊢
  obtain ⟨r, hr⟩ : ∃ r, x % 2 ^ b = r := ⟨_, rfl⟩
  rw [hr] at hf ⊢
  have hsucc : ((fl b : Nat) : Int) + 1 = ((2 ^ b : Nat) : Int) := by have := fl_succ b; omega
  have hrem : (x : Int) % (((fl b : Nat) : Int) + 1) = (r : Int) := by rw [hsucc, ← Int.natCast_emod, hr]
  have hrf : (x : Int) % (((fl b : Nat) : Int) + 1) < ((fl b : Nat) : Int) := by omega
  have hll : (1 : Int) ≤ (l.length : Int) := by omega
  have el0 : ((l.length : Int) == 0) = false := by rw [beq_eq_false_iff_ne]; omega
  have HREM := hide hrem
  clear hr hx1 hx2 hw hrem hsucc
  go_enter Try.func11, Try.ntmps11
  go_wp2_with fail
  refine (power_any b _ (by omega)).mono ?_
  rintro e w1 ⟨rfl, rfl⟩
  go_wp2_with fail
  go_ret3
  exact get_ret (by rw [← HREM.out]) rfl (Below.refl _ _)

theorem power_q (n : Nat) (v : Int) (w : World) (h : (pw n : Int) = v) (hn : n ≤ 61) : Calls Try.prog 13 #[.int .i64 n] w fun e w' => e = .returned (.int .i64 v) ∧ w = w' := by
  rw [← h]; exact power_any n w hn

end Go.Proofs.Ytpkdmbdmfokkiaa
