/- Contracts at the numbers that are no pairs. -/
import Derived.Test.YtoegcmklilmnfaaQ
namespace Go.Proofs.Ytoegcmklilmnfaa
open Go.RowKit

theorem conv_lit (x : Nat) (n : Int) (hn : (FloatKind.f64.decode x).toInt .zero = some n) (hb : -9223372036854775808 ≤ n ∧ n ≤ 9223372036854775807) (w : World) : (convert 45 3 (.float .f64 x)).run Try.prog w = .ok (.int .i64 n) w := by
  refine run_convert_float_int (P := Try.prog) w 45 3 .f64 .i64 _ _ (by rw [Try.underlying45]; rfl) Try.underlying3 ?_
  unfold floatToIntVal
  rw [hn]
  simp only [IntKind.min, IntKind.max, IntKind.signed, IntKind.bits]
  rw [if_pos]
  constructor
  · simp; omega
  · simp; omega
/-- A word between the amounts whose whole part is 0 and that is not 0. -/
theorem part_no (x : Nat) (w : World) (o1 : FloatKind.f64.format.order x 14064741636278059008 = some .gt) (o2 : FloatKind.f64.format.order x 4841369599423283200 = some .lt) (ho : FloatKind.f64.format.order 0 x = some .lt)
    (hn : (FloatKind.f64.decode x).toInt .zero = some 0) : Calls Try.prog 21 #[.float .f64 x] w fun e w' => e = .returned (.bool false) ∧ w = w' := by
  have hcv := fun w => conv_lit x 0 hn (by decide) w
  have hz : floatOfInt .f64 0 = 0 := by decide +kernel
  clear hn
  go_enter Try.func21, Try.ntmps21
  go_wp2_with fail
  go_ret
  exact ⟨rfl, rfl⟩
theorem half_no (w : World) : Calls Try.prog 21 #[.float .f64 4602678819172646912] w fun e w' => e = .returned (.bool false) ∧ w = w' :=
  part_no _ w (by decide +kernel) (by decide +kernel) (by decide +kernel) (by decide +kernel)
theorem quarter_no (w : World) : Calls Try.prog 21 #[.float .f64 4598175219545276416] w fun e w' => e = .returned (.bool false) ∧ w = w' :=
  part_no _ w (by decide +kernel) (by decide +kernel) (by decide +kernel) (by decide +kernel)
theorem whole_0 (w : World) : Calls Try.prog 21 #[.float .f64 0] w fun e w' => e = .returned (.bool true) ∧ w = w' := by
  have := whole_fw 0 w (by decide) (by decide)
  rw [fw_zero] at this; exact this
theorem right_half (y : Nat) (w : World) : Calls Try.prog 19 #[.complex .f64 4602678819172646912 y] w fun e w' => e = .returned (.bool false) ∧ w = w' := by
  go_enter Try.func19, Try.ntmps19
  go_wp2_with fail
  refine (half_no _).mono ?_
  rintro e w1 ⟨rfl, rfl⟩
  go_wp2_with fail
  go_ret
  exact ⟨rfl, rfl⟩
theorem right_quarter (w : World) : Calls Try.prog 19 #[.complex .f64 0 4598175219545276416] w fun e w' => e = .returned (.bool false) ∧ w = w' := by
  go_enter Try.func19, Try.ntmps19
  go_wp2_with fail
  refine (whole_0 _).mono ?_
  rintro e w1 ⟨rfl, rfl⟩
  go_wp2_with fail
  refine (quarter_no _).mono ?_
  rintro e w1 ⟨rfl, rfl⟩
  go_wp2_with fail
  go_ret
  exact ⟨rfl, rfl⟩
theorem far53 : Far 4845873199050653696 := by unfold Far; decide +kernel
theorem right_53 (w : World) : Calls Try.prog 19 #[.complex .f64 0 4845873199050653696] w fun e w' => e = .returned (.bool false) ∧ w = w' := by
  have := right_no2 0 4845873199050653696 w (by decide) (by decide) far53
  rw [fw_zero] at this; exact this
theorem side_half0 (y : Nat) (w : World) : Calls Try.prog 9 #[.complex .f64 4602678819172646912 y, .int .i64 0] w fun e w' => e = .returned (.tuple #[.int .i64 0, .int .i64 4]) ∧ w = w' := by
  go_enter Try.func9, Try.ntmps9
  go_wp2_with fail
  refine (right_half y _).mono ?_
  rintro e w1 ⟨rfl, rfl⟩
  go_wp2_with fail
  go_ret2
  exact ⟨rfl, rfl⟩
theorem side_half1 (y : Nat) (w : World) : Calls Try.prog 9 #[.complex .f64 4602678819172646912 y, .int .i64 1] w fun e w' => e = .returned (.tuple #[.int .i64 0, .int .i64 4]) ∧ w = w' := by
  go_enter Try.func9, Try.ntmps9
  go_wp2_with fail
  refine (right_half y _).mono ?_
  rintro e w1 ⟨rfl, rfl⟩
  go_wp2_with fail
  go_ret2
  exact ⟨rfl, rfl⟩
theorem swap_53 (w : World) : Calls Try.prog 12 #[.complex .f64 0 4845873199050653696] w fun e w' => e = .returned (.tuple #[.complex .f64 0 0, .int .i64 4]) ∧ w = w' := by
  go_enter Try.func12, Try.ntmps12
  go_wp2_with fail
  refine (right_53 _).mono ?_
  rintro e w1 ⟨rfl, rfl⟩
  go_wp2_with fail
  go_ret2
  exact ⟨rfl, rfl⟩
theorem move_half (y : Nat) (n : Int) (w : World) : Calls Try.prog 13 #[.complex .f64 4602678819172646912 y, .int .i64 1, .int .i64 n] w fun e w' => e = .returned (.tuple #[.complex .f64 0 0, .int .i64 4]) ∧ w = w' := by
  go_enter Try.func13, Try.ntmps13
  go_wp2_with fail
  refine (side_half1 y _).mono ?_
  rintro e w1 ⟨rfl, rfl⟩
  go_wp2_with fail
  go_ret2
  exact ⟨rfl, rfl⟩
theorem one_word : (4607182418800017408 : Nat) = fw 1 := by decide +kernel
theorem total_quarter (A : Option Addr) (w : World) (h : Hid (Sees w A [.complex .f64 4607182418800017408 4607182418800017408, .complex .f64 0 4598175219545276416])) : Calls Try.prog 15 #[.slice A 2 2] w fun e w' => e = .returned (.tuple #[.complex .f64 0 0, .int .i64 4]) ∧ w = w' := by
  have := total15 A 2 2 [(4607182418800017408, 4607182418800017408, some (1, 1)), (0, 4598175219545276416, none)] 0 0 4 w (hide rfl) (by decide) (hide h.out) (hide (by
    intro q hq
    simp at hq
    rcases hq with rfl | rfl
    · exact ⟨by decide, by decide, one_word, one_word⟩
    · exact right_quarter)) (hide (by simp [totS]; decide))
  rw [fw_zero] at this; exact this

/-! ### Plain laws on sums -/
theorem tot_am : ∀ (l : List (Option (Int × Int))) (a b x y e0 : Int), Am a → Am b → totS l a b = (x, y, e0) → Am x ∧ Am y ∧ (¬ e0 = 0 → x = 0 ∧ y = 0)
  | [], a, b, x, y, e0, ha, hb, h => by
    unfold totS at h
    obtain ⟨rfl, rfl, rfl⟩ : a = x ∧ b = y ∧ 0 = e0 := by simpa using h
    exact ⟨ha, hb, fun h => absurd rfl h⟩
  | none :: l, a, b, x, y, e0, _, _, h => by
    unfold totS at h
    obtain ⟨rfl, rfl, rfl⟩ : 0 = x ∧ 0 = y ∧ 4 = e0 := by simpa using h
    exact ⟨am0, am0, fun _ => ⟨rfl, rfl⟩⟩
  | some (c, d) :: l, a, b, x, y, e0, ha, hb, h => by
    unfold totS at h
    by_cases hq : Am (a + c) ∧ Am (b + d)
    · rw [if_pos hq] at h
      exact tot_am l _ _ x y e0 hq.1 hq.2 h
    · rw [if_neg hq] at h
      obtain ⟨rfl, rfl, rfl⟩ : 0 = x ∧ 0 = y ∧ 5 = e0 := by simpa using h
      exact ⟨am0, am0, fun _ => ⟨rfl, rfl⟩⟩
def Bnd (q : Int × Int) : Prop := -1152921504606846976 ≤ q.1 ∧ q.1 ≤ 1152921504606846976 ∧ -1152921504606846976 ≤ q.2 ∧ q.2 ≤ 1152921504606846976
theorem el_bnd (q : Int × Int) (h : Bnd q) : El (floatOfInt .f64 q.1) (floatOfInt .f64 q.2) (opt q) := by
  obtain ⟨h1, h2, h3, h4⟩ := h
  unfold opt
  by_cases ha : Am q.1
  · by_cases hb : Am q.2
    · rw [if_pos ⟨ha, hb⟩]; exact ⟨ha, hb, gw_am _ ha, gw_am _ hb⟩
    · rw [if_neg (fun h => hb h.2)]
      intro w
      rw [show floatOfInt .f64 q.1 = fw q.1 from gw_am _ ha]
      exact right_no2 q.1 _ w ha.1 ha.2 (far_any q.2 h3 h4 hb)
  · rw [if_neg (fun h => ha h.1)]
    intro w
    exact right_no1 _ _ w (far_any q.1 h1 h2 ha)
end Go.Proofs.Ytoegcmklilmnfaa
