/- Contracts: Move, of the program; Right, Side, of the reference; is. -/
import Derived.Test.YtphbmbenkbefhaaL
import Derived.BigQuiet
namespace Go.Proofs.Ytphbmbenkbefhaa
open Go.RowKit

theorem along0 (n : Int) (w : World) (h : Hid (n.natAbs < 2 ^ 53)) : Calls Try.prog 27 #[.int .i64 0, .int .i64 n] w fun e w' => e = .returned (.complex .f64 (fw n) 0) ∧ w = w' := along_q 0 n w h
theorem along1 (n : Int) (w : World) (h : Hid (n.natAbs < 2 ^ 53)) : Calls Try.prog 27 #[.int .i64 1, .int .i64 n] w fun e w' => e = .returned (.complex .f64 0 (fw n)) ∧ w = w' := along_q 1 n w h
theorem am_abs {n : Int} (h : Am n) : n.natAbs < 2 ^ 53 := by unfold Am at h; omega
theorem cadd (a b c d x y : Int) (ha : Am a) (hb : Am b) (hc : Am c) (hd : Am d) (hx : a + c = x) (hy : b + d = y) (h1 : Am x) (h2 : Am y) (w : World) :
    (binOp .add 24 (.complex .f64 (fw a) (fw b)) (.complex .f64 (fw c) (fw d))).run Try.prog w = .ok (.complex .f64 (fw x) (fw y)) w := by
  subst hx hy
  refine run_complex_sum (P := Try.prog) w .add (.inl rfl) 24 .f64 _ _ _ _ _ _ ?_
  unfold cSumBits
  rw [add_fw a c (am_abs ha) (am_abs hc) (am_abs h1), add_fw b d (am_abs hb) (am_abs hd) (am_abs h2)]; rfl
theorem cadd_far (a b c d : Int) (u v : Nat) (hu : floatBits .add .f64 (fw a) (fw c) = some u) (hv : floatBits .add .f64 (fw b) (fw d) = some v) (w : World) :
    (binOp .add 24 (.complex .f64 (fw a) (fw b)) (.complex .f64 (fw c) (fw d))).run Try.prog w = .ok (.complex .f64 u v) w := by
  refine run_complex_sum (P := Try.prog) w .add (.inl rfl) 24 .f64 _ _ _ _ _ _ ?_
  unfold cSumBits
  rw [hu, hv]; rfl
theorem am0 : Am 0 := by decide

theorem move_side (a b : Nat) (side n : Int) (w : World) (h0 : ¬ side = 0) (h1 : ¬ side = 1) : Calls Try.prog 23 #[.complex .f64 a b, .int .i64 side, .int .i64 n] w fun e w' => e = .returned (.tuple #[.complex .f64 0 0, .int .i64 1]) ∧ w = w' := by
  have H0 := hide h0
  have H1 := hide h1
  clear h0 h1
  go_enter Try.func23, Try.ntmps23
  go_wp2_with fail
  refine (side_out a b side _ H0.out H1.out).mono ?_
  rintro e w1 ⟨rfl, rfl⟩
  go_wp2_with fail
  go_ret2
  exact ⟨rfl, rfl⟩
theorem move_n0 (a b n : Int) (w : World) (ha : Am a) (hb : Am b) (hn : ¬ Am n) : Calls Try.prog 23 #[.complex .f64 (fw a) (fw b), .int .i64 0, .int .i64 n] w fun e w' => e = .returned (.tuple #[.complex .f64 0 0, .int .i64 5]) ∧ w = w' := by
  have HA := hide ha
  have HB := hide hb
  have HN := hide hn
  clear ha hb hn
  go_enter Try.func23, Try.ntmps23
  go_wp2_with fail
  refine (side_in a b 0 _ HA.out HB.out (by simp)).mono ?_
  rintro e w1 ⟨rfl, rfl⟩
  go_wp2_with fail
  refine (amount17_no n _ HN.out).mono ?_
  rintro e w1 ⟨rfl, rfl⟩
  go_wp2_with fail
  go_ret2
  exact ⟨rfl, rfl⟩
theorem move_ok0 (a b n x : Int) (w : World) (ha : Am a) (hb : Am b) (hn : Am n) (hx : a + n = x) (hax : Am x) : Calls Try.prog 23 #[.complex .f64 (fw a) (fw b), .int .i64 0, .int .i64 n] w fun e w' => e = .returned (.tuple #[.complex .f64 (fw x) (fw b), .int .i64 0]) ∧ w = w' := by
  have hadd := cadd a b n 0 x b ha hb hn am0 hx (Int.add_zero b) hax hb
  rw [fw_zero] at hadd
  have HA := hide ha
  have HB := hide hb
  have HNA := hide (am_abs hn)
  have HN := hide hn
  have HX := hide hax
  clear ha hb hn hx hax
  go_enter Try.func23, Try.ntmps23
  go_wp2_with fail
  refine (side_in a b 0 _ HA.out HB.out (by simp)).mono ?_
  rintro e w1 ⟨rfl, rfl⟩
  go_wp2_with fail
  refine (amount17_yes n _ HN.out).mono ?_
  rintro e w1 ⟨rfl, rfl⟩
  go_wp2_with fail
  refine (along0 n _ HNA).mono ?_
  rintro e w1 ⟨rfl, rfl⟩
  go_wp2_with fail
  refine (right_yes x b _ HX.out.1 HX.out.2 HB.out.1 HB.out.2).mono ?_
  rintro e w1 ⟨rfl, rfl⟩
  go_wp2_with fail
  go_ret2
  exact ⟨rfl, rfl⟩
theorem move_far0 (a b n : Int) (w : World) (ha : Am a) (hb : Am b) (hn : Am n) (hx : ¬ Am (a + n)) : Calls Try.prog 23 #[.complex .f64 (fw a) (fw b), .int .i64 0, .int .i64 n] w fun e w' => e = .returned (.tuple #[.complex .f64 0 0, .int .i64 5]) ∧ w = w' := by
  obtain ⟨u, hu, hfar⟩ := add_far a n ha hn hx
  have hz := add_fw b 0 (am_abs hb) (by decide) (by rw [Int.add_zero]; exact am_abs hb)
  rw [Int.add_zero] at hz
  have hadd := cadd_far a b n 0 u (fw b) hu hz
  rw [fw_zero] at hadd
  have HA := hide ha
  have HB := hide hb
  have HNA := hide (am_abs hn)
  have HN := hide hn
  have HU := hide hfar
  clear ha hb hn hx hu hfar hz
  go_enter Try.func23, Try.ntmps23
  go_wp2_with fail
  refine (side_in a b 0 _ HA.out HB.out (by simp)).mono ?_
  rintro e w1 ⟨rfl, rfl⟩
  go_wp2_with fail
  refine (amount17_yes n _ HN.out).mono ?_
  rintro e w1 ⟨rfl, rfl⟩
  go_wp2_with fail
  refine (along0 n _ HNA).mono ?_
  rintro e w1 ⟨rfl, rfl⟩
  go_wp2_with fail
  refine (right_no1 u (fw b) _ HU.out).mono ?_
  rintro e w1 ⟨rfl, rfl⟩
  go_wp2_with fail
  go_ret2
  exact ⟨rfl, rfl⟩
theorem move_n1 (a b n : Int) (w : World) (ha : Am a) (hb : Am b) (hn : ¬ Am n) : Calls Try.prog 23 #[.complex .f64 (fw a) (fw b), .int .i64 1, .int .i64 n] w fun e w' => e = .returned (.tuple #[.complex .f64 0 0, .int .i64 5]) ∧ w = w' := by
  have HA := hide ha
  have HB := hide hb
  have HN := hide hn
  clear ha hb hn
  go_enter Try.func23, Try.ntmps23
  go_wp2_with fail
  refine (side_in a b 1 _ HA.out HB.out (by simp)).mono ?_
  rintro e w1 ⟨rfl, rfl⟩
  go_wp2_with fail
  refine (amount17_no n _ HN.out).mono ?_
  rintro e w1 ⟨rfl, rfl⟩
  go_wp2_with fail
  go_ret2
  exact ⟨rfl, rfl⟩
theorem move_ok1 (a b n x : Int) (w : World) (ha : Am a) (hb : Am b) (hn : Am n) (hx : b + n = x) (hax : Am x) : Calls Try.prog 23 #[.complex .f64 (fw a) (fw b), .int .i64 1, .int .i64 n] w fun e w' => e = .returned (.tuple #[.complex .f64 (fw a) (fw x), .int .i64 0]) ∧ w = w' := by
  have hadd := cadd a b 0 n a x ha hb am0 hn (Int.add_zero a) hx ha hax
  rw [fw_zero] at hadd
  have HA := hide ha
  have HB := hide hb
  have HNA := hide (am_abs hn)
  have HN := hide hn
  have HX := hide hax
  clear ha hb hn hx hax
  go_enter Try.func23, Try.ntmps23
  go_wp2_with fail
  refine (side_in a b 1 _ HA.out HB.out (by simp)).mono ?_
  rintro e w1 ⟨rfl, rfl⟩
  go_wp2_with fail
  refine (amount17_yes n _ HN.out).mono ?_
  rintro e w1 ⟨rfl, rfl⟩
  go_wp2_with fail
  refine (along1 n _ HNA).mono ?_
  rintro e w1 ⟨rfl, rfl⟩
  go_wp2_with fail
  refine (right_yes a x _ HA.out.1 HA.out.2 HX.out.1 HX.out.2).mono ?_
  rintro e w1 ⟨rfl, rfl⟩
  go_wp2_with fail
  go_ret2
  exact ⟨rfl, rfl⟩
theorem move_far1 (a b n : Int) (w : World) (ha : Am a) (hb : Am b) (hn : Am n) (hx : ¬ Am (b + n)) : Calls Try.prog 23 #[.complex .f64 (fw a) (fw b), .int .i64 1, .int .i64 n] w fun e w' => e = .returned (.tuple #[.complex .f64 0 0, .int .i64 5]) ∧ w = w' := by
  obtain ⟨u, hu, hfar⟩ := add_far b n hb hn hx
  have hz := add_fw a 0 (am_abs ha) (by decide) (by rw [Int.add_zero]; exact am_abs ha)
  rw [Int.add_zero] at hz
  have hadd := cadd_far a b 0 n (fw a) u hz hu
  rw [fw_zero] at hadd
  have HA := hide ha
  have HB := hide hb
  have HNA := hide (am_abs hn)
  have HN := hide hn
  have HU := hide hfar
  clear ha hb hn hx hu hfar hz
  go_enter Try.func23, Try.ntmps23
  go_wp2_with fail
  refine (side_in a b 1 _ HA.out HB.out (by simp)).mono ?_
  rintro e w1 ⟨rfl, rfl⟩
  go_wp2_with fail
  refine (amount17_yes n _ HN.out).mono ?_
  rintro e w1 ⟨rfl, rfl⟩
  go_wp2_with fail
  refine (along1 n _ HNA).mono ?_
  rintro e w1 ⟨rfl, rfl⟩
  go_wp2_with fail
  refine (right_no2 a u _ HA.out.1 HA.out.2 HU.out).mono ?_
  rintro e w1 ⟨rfl, rfl⟩
  go_wp2_with fail
  go_ret2
  exact ⟨rfl, rfl⟩
end Go.Proofs.Ytphbmbenkbefhaa
