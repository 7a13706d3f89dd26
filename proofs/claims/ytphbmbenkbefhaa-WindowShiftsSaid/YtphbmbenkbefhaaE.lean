/- Contracts over float words. -/
import Derived.Test.YtphbmbenkbefhaaRows
import Derived.Test.YtphbmbenkbefhaaD
import Derived.Outline
import Derived.IntWalk
namespace Go.Proofs.Ytphbmbenkbefhaa
open Go.RowKit

theorem word_lo : (14064741636278059008 : Nat) = wd true 4503599627370496 := by decide +kernel
theorem word_hi : (4841369599423283200 : Nat) = wd false 4503599627370496 := by decide +kernel
theorem sg_bound (s : Bool) (m : Nat) : -(m : Int) ≤ sg s m ∧ sg s m ≤ m := by unfold sg; split <;> omega
/-- The word of a whole number. -/
def fw (n : Int) : Nat := wd (decide (n < 0)) n.natAbs
theorem of_int (n : Int) (h : n.natAbs < 2 ^ 53) : floatOfInt .f64 n = fw n := by
  have := nearest_exact (decide (n < 0)) n.natAbs 0 h
  simpa [floatOfInt, fw, FloatKind.nearest, FloatKind.encode, FloatKind.format, Ieee.Format.write] using this
theorem sg_fw (n : Int) : sg (decide (n < 0)) n.natAbs = n := by unfold sg; by_cases h : n < 0 <;> simp [h] <;> omega
theorem sg_natAbs (s : Bool) (m : Nat) : (sg s m).natAbs = m := by unfold sg; split <;> simp
theorem order_lo (s : Bool) (m : Nat) (h : m ≤ 4503599627370496) : FloatKind.f64.format.order (wd s m) 14064741636278059008 = some .gt ∨ FloatKind.f64.format.order (wd s m) 14064741636278059008 = some .eq := by
  rw [word_lo, show FloatKind.f64.format = Ieee.double from rfl, order_wd s true m _ (by omega) (by decide)]
  have hb := sg_bound s m
  rcases Int.lt_trichotomy (sg s m) (sg true 4503599627370496) with h1 | h1 | h1
  · simp [sg] at h1; simp [sg] at hb; omega
  · right; rw [Int.compare_eq_eq.2 h1]
  · left; rw [Int.compare_eq_gt.2 h1]
theorem order_hi (s : Bool) (m : Nat) (h : m ≤ 4503599627370496) : FloatKind.f64.format.order (wd s m) 4841369599423283200 = some .lt ∨ FloatKind.f64.format.order (wd s m) 4841369599423283200 = some .eq := by
  rw [word_hi, show FloatKind.f64.format = Ieee.double from rfl, order_wd s false m _ (by omega) (by decide)]
  have hb := sg_bound s m
  rcases Int.lt_trichotomy (sg s m) (sg false 4503599627370496) with h1 | h1 | h1
  · left; rw [Int.compare_eq_lt.2 h1]
  · right; rw [Int.compare_eq_eq.2 h1]
  · simp [sg] at h1; simp [sg] at hb; omega
theorem order_self (s t : Bool) (m : Nat) (h : m < 2 ^ 53) (hs : sg s m = sg t m) : FloatKind.f64.format.order (wd s m) (wd t m) = some .eq := by
  rw [show FloatKind.f64.format = Ieee.double from rfl, order_wd s t m m h h, hs, Int.compare_eq_eq.2 rfl]
theorem conv_wd (s : Bool) (m : Nat) (h : m < 2 ^ 53) (w : World) : (convert 51 3 (.float .f64 (wd s m))).run Try.prog w = .ok (.int .i64 (sg s m)) w := by
  refine run_convert_float_int (P := Try.prog) w 51 3 .f64 .i64 _ _ (by rw [Try.underlying51]; rfl) Try.underlying3 ?_
  unfold floatToIntVal
  rw [show FloatKind.f64.decode (wd s m) = Ieee.double.read (wd s m) from rfl, toInt_wd s m h]
  have hb := sg_bound s m
  simp only [IntKind.min, IntKind.max, IntKind.signed, IntKind.bits]
  rw [if_pos]
  constructor
  · simp; omega
  · simp; omega

theorem whole_fw (n : Int) (w : World) (h1 : -4503599627370496 ≤ n) (h2 : n ≤ 4503599627370496) : Calls Try.prog 25 #[.float .f64 (fw n)] w fun e w' => e = .returned (.bool true) ∧ w = w' := by
  have h : n.natAbs ≤ 4503599627370496 := by omega
  have h53 : n.natAbs < 2 ^ 53 := by omega
  have hcv : ∀ w, (convert 51 3 (.float .f64 (fw n))).run Try.prog w = .ok (.int .i64 n) w := fun w => by have := conv_wd (decide (n < 0)) n.natAbs h53 w; rw [sg_fw] at this; exact this
  have hn := of_int n h53
  have ho : FloatKind.f64.format.order (fw n) (fw n) = some .eq := order_self _ _ _ h53 rfl
  have o1 : FloatKind.f64.format.order (fw n) 14064741636278059008 = some .gt ∨ FloatKind.f64.format.order (fw n) 14064741636278059008 = some .eq := order_lo _ _ h
  have o2 : FloatKind.f64.format.order (fw n) 4841369599423283200 = some .lt ∨ FloatKind.f64.format.order (fw n) 4841369599423283200 = some .eq := order_hi _ _ h
  clear h h53 h1 h2
  rcases o1 with o1 | o1 <;> rcases o2 with o2 | o2
  all_goals
    go_enter Try.func25, Try.ntmps25
    go_wp2_with fail
    go_ret
    exact ⟨rfl, rfl⟩

/-- A word beyond the amounts. -/
def Far (x : Nat) : Prop := FloatKind.f64.format.order x 14064741636278059008 = some .lt ∨ FloatKind.f64.format.order x 14064741636278059008 = some .gt ∧ FloatKind.f64.format.order x 4841369599423283200 = some .gt
theorem whole_no (x : Nat) (w : World) (h : Far x) : Calls Try.prog 25 #[.float .f64 x] w fun e w' => e = .returned (.bool false) ∧ w = w' := by
  rcases h with h | ⟨h, h2⟩
  all_goals
    go_enter Try.func25, Try.ntmps25
    go_wp2_with fail
    go_ret
    exact ⟨rfl, rfl⟩

theorem far_fw (n : Int) (h : n.natAbs < 2 ^ 53) (hf : n < -4503599627370496 ∨ 4503599627370496 < n) : Far (fw n) := by
  have o1 := order_wd (decide (n < 0)) true n.natAbs 4503599627370496 h (by decide)
  have o2 := order_wd (decide (n < 0)) false n.natAbs 4503599627370496 h (by decide)
  rw [← word_lo, sg_fw, show sg true 4503599627370496 = -4503599627370496 from rfl] at o1
  rw [← word_hi, sg_fw, show sg false 4503599627370496 = 4503599627370496 from rfl] at o2
  rcases hf with hf | hf
  · left; rw [Int.compare_eq_lt.2 hf] at o1; exact o1
  · right
    rw [Int.compare_eq_gt.2 (by omega)] at o1
    rw [Int.compare_eq_gt.2 hf] at o2
    exact ⟨o1, o2⟩

theorem right_yes (a b : Int) (w : World) (a1 : -4503599627370496 ≤ a) (a2 : a ≤ 4503599627370496) (b1 : -4503599627370496 ≤ b) (b2 : b ≤ 4503599627370496) : Calls Try.prog 21 #[.complex .f64 (fw a) (fw b)] w fun e w' => e = .returned (.bool true) ∧ w = w' := by
  have HA := hide (And.intro a1 a2)
  have HB := hide (And.intro b1 b2)
  clear a1 a2 b1 b2
  go_enter Try.func21, Try.ntmps21
  go_wp2_with fail
  refine (whole_fw a _ HA.out.1 HA.out.2).mono ?_
  rintro e w1 ⟨rfl, rfl⟩
  go_wp2_with fail
  refine (whole_fw b _ HB.out.1 HB.out.2).mono ?_
  rintro e w1 ⟨rfl, rfl⟩
  go_wp2_with fail
  go_ret
  exact ⟨rfl, rfl⟩
theorem right_no1 (x y : Nat) (w : World) (h : Far x) : Calls Try.prog 21 #[.complex .f64 x y] w fun e w' => e = .returned (.bool false) ∧ w = w' := by
  have H := hide h
  clear h
  go_enter Try.func21, Try.ntmps21
  go_wp2_with fail
  refine (whole_no x _ H.out).mono ?_
  rintro e w1 ⟨rfl, rfl⟩
  go_wp2_with fail
  go_ret
  exact ⟨rfl, rfl⟩
theorem right_no2 (a : Int) (y : Nat) (w : World) (a1 : -4503599627370496 ≤ a) (a2 : a ≤ 4503599627370496) (h : Far y) : Calls Try.prog 21 #[.complex .f64 (fw a) y] w fun e w' => e = .returned (.bool false) ∧ w = w' := by
  have H := hide h
  have HA := hide (And.intro a1 a2)
  clear h a1 a2
  go_enter Try.func21, Try.ntmps21
  go_wp2_with fail
  refine (whole_fw a _ HA.out.1 HA.out.2).mono ?_
  rintro e w1 ⟨rfl, rfl⟩
  go_wp2_with fail
  refine (whole_no y _ H.out).mono ?_
  rintro e w1 ⟨rfl, rfl⟩
  go_wp2_with fail
  go_ret
  exact ⟨rfl, rfl⟩
end Go.Proofs.Ytphbmbenkbefhaa
