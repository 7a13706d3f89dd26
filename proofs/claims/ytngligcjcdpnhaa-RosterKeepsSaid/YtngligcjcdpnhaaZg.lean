/- The windows' contracts (the same proofs as at the law of windows): Take, Room, and what they call. -/
import Derived.Test.YtngligcjcdpnhaaZf
import Derived.BigQuiet
import Derived.IntWalk
import Derived.Laws.ComplexArith
import Derived.Laws.FloatArith
import Derived.Outline
namespace Go.Proofs.Ytngligcjcdpnhaa
open Go.RowKit Go.Maps
set_option linter.unusedSimpArgs false
set_option linter.unusedVariables false


def rung (m : Nat) : Nat := if m = 0 then 0 else (m.log2 + 1022) * 4503599627370496 + m * 2 ^ (52 - m.log2)
def wd (s : Bool) (m : Nat) : Nat := Ieee.double.word s (rung m)
def dgt (m : Nat) : Nat := if m = 0 then 1074 else 52 - m.log2

theorem log_le {m : Nat} (h0 : m ≠ 0) (h : m < 2 ^ 53) : m.log2 ≤ 52 := by
  have := (Nat.log2_lt h0).2 h
  omega
theorem mant {m : Nat} (h0 : m ≠ 0) (h : m < 2 ^ 53) : 4503599627370496 ≤ m * 2 ^ (52 - m.log2) ∧ m * 2 ^ (52 - m.log2) < 9007199254740992 := by
  have hl := log_le h0 h
  have h1 := Nat.log2_self_le h0
  have h2 := (@Nat.lt_log2_self m)
  constructor
  · calc 4503599627370496 = 2 ^ 52 := rfl
      _ = 2 ^ m.log2 * 2 ^ (52 - m.log2) := by rw [← Nat.pow_add]; congr 1; omega
      _ ≤ _ := Nat.mul_le_mul_right _ h1
  · calc m * 2 ^ (52 - m.log2) < 2 ^ (m.log2 + 1) * 2 ^ (52 - m.log2) := Nat.mul_lt_mul_of_pos_right h2 (Nat.two_pow_pos _)
      _ = 2 ^ 53 := by rw [← Nat.pow_add]; congr 1; omega
      _ = 9007199254740992 := rfl

theorem cut_zero (neg : Bool) (n : Nat) : Ieee.Toward.even.cut neg n 0 = n := by
  simp [Ieee.Toward.cut, Nat.mod_one]

theorem cut_exact (way : Ieee.Toward) (neg : Bool) (q d : Nat) (hq : q ≠ 0) : way.cut neg (q * 2 ^ d) d = q := by
  have hl : d ≤ (q * 2 ^ d).log2 := by
    rw [Nat.le_log2 (by have := Nat.two_pow_pos d; exact Nat.mul_ne_zero hq (by omega))]
    exact Nat.le_mul_of_pos_left _ (by omega)
  have hm : min d ((q * 2 ^ d).log2 + 2) = d := by omega
  unfold Ieee.Toward.cut
  rw [hm, Nat.one_shiftLeft]
  dsimp only
  rw [Nat.mul_div_cancel _ (Nat.two_pow_pos d), Nat.mul_mod_left]
  have := Nat.two_pow_pos d
  cases way <;> simp <;> omega

theorem log_shift {m : Nat} (h0 : m ≠ 0) (k : Nat) : (m * 2 ^ k).log2 = m.log2 + k := by
  induction k with
  | zero => simp
  | succ k ih =>
    have : m * 2 ^ k ≠ 0 := Nat.mul_ne_zero h0 (by have := Nat.two_pow_pos k; omega)
    rw [Nat.pow_succ, ← Nat.mul_assoc, Nat.mul_comm _ 2, Nat.log2_two_mul this, ih]; omega

theorem nearest_exact (neg : Bool) (m k : Nat) (h : m < 2 ^ 53) : Ieee.double.nearest neg (m * 2 ^ k) (-(k : Int)) = wd neg m := by
  by_cases h0 : m = 0
  · subst h0; simp [Ieee.Format.nearest, wd, rung]
  · have hl := log_le h0 h
    have hM := mant h0 h
    have hne : m * 2 ^ k ≠ 0 := Nat.mul_ne_zero h0 (by have := Nat.two_pow_pos k; omega)
    have hlog := log_shift h0 k
    have hleast : Ieee.double.leastPlace = -1074 := by decide
    have hfrac : Ieee.double.fractionBits = 52 := rfl
    have hbin : Ieee.double.binade = 4503599627370496 := rfl
    have hinf : Ieee.double.infRung = 9218868437227405312 := rfl
    unfold Ieee.Format.nearest
    rw [if_neg hne]
    simp only [hlog, hleast, hfrac, hbin, hinf]
    have hlast : max (-(k : Int) + ((m.log2 + k : Nat) : Int) - ((52 : Nat) : Int)) (-1074) = (m.log2 : Int) - 52 := by omega
    rw [hlast]
    have hkept : Ieee.Toward.even.cut neg ((m * 2 ^ k) <<< (-(k : Int) - ((m.log2 : Int) - 52)).toNat) ((m.log2 : Int) - 52 - -(k : Int)).toNat = m * 2 ^ (52 - m.log2) := by
      by_cases hc : m.log2 + k ≤ 52
      · have e1 : (-(k : Int) - ((m.log2 : Int) - 52)).toNat = 52 - m.log2 - k := by omega
        have e2 : ((m.log2 : Int) - 52 - -(k : Int)).toNat = 0 := by omega
        rw [e1, e2, cut_zero, Nat.shiftLeft_eq, Nat.mul_assoc, ← Nat.pow_add]
        congr 2; omega
      · have e1 : (-(k : Int) - ((m.log2 : Int) - 52)).toNat = 0 := by omega
        have e2 : ((m.log2 : Int) - 52 - -(k : Int)).toNat = m.log2 + k - 52 := by omega
        rw [e1, e2, Nat.shiftLeft_zero]
        have : m * 2 ^ k = m * 2 ^ (52 - m.log2) * 2 ^ (m.log2 + k - 52) := by
          rw [Nat.mul_assoc, ← Nat.pow_add]; congr 2; omega
        rw [this]
        exact cut_exact _ _ _ _ (by omega)
    rw [hkept]
    have e3 : ((m.log2 : Int) - 52 - -1074).toNat = m.log2 + 1022 := by omega
    rw [e3, wd, rung, if_neg h0, Nat.min_eq_left]
    obtain ⟨M, hMM⟩ : ∃ M, m * 2 ^ (52 - m.log2) = M := ⟨_, rfl⟩
    obtain ⟨L, hLL⟩ : ∃ L, m.log2 = L := ⟨_, rfl⟩
    rw [hMM] at hM ⊢
    rw [hLL] at hl ⊢
    clear hkept hlast e3 hlog hne
    omega

theorem rung_lt {m : Nat} (h : m < 2 ^ 53) : rung m < 4850376798678024192 := by
  unfold rung
  split
  · omega
  · rename_i h0
    have hl := log_le h0 h
    have hM := mant h0 h
    omega

theorem read_wd (s : Bool) (m : Nat) (h : m < 2 ^ 53) : Ieee.double.read (wd s m) = .number s (m * 2 ^ dgt m) (-(dgt m : Int)) := by
  have hr := rung_lt h
  have hsw : Ieee.double.signWeight = 9223372036854775808 := rfl
  have hbin : Ieee.double.binade = 4503599627370496 := rfl
  have hinf : Ieee.double.infRung = 9218868437227405312 := rfl
  have hleast : Ieee.double.leastPlace = -1074 := by decide
  have hneg : ((wd s m) / Ieee.double.signWeight % 2 == 1) = s := by
    rw [hsw]; unfold wd Ieee.Format.word; rw [hsw]
    cases s
    · simp only [Bool.false_eq_true, if_false]; rw [Nat.div_eq_of_lt (by omega)]; rfl
    · simp only [if_true]; rw [Nat.add_div_left _ (by omega), Nat.div_eq_of_lt (by omega)]; rfl
  have hmod : (wd s m) % Ieee.double.signWeight = rung m := by
    rw [hsw]; unfold wd Ieee.Format.word; rw [hsw]
    cases s
    · simp only [Bool.false_eq_true, if_false]; exact Nat.mod_eq_of_lt (by omega)
    · simp only [if_true]; rw [Nat.add_mod_left]; exact Nat.mod_eq_of_lt (by omega)
  unfold Ieee.Format.read
  simp only [hneg, hmod, hbin, hinf, hleast]
  by_cases h0 : m = 0
  · subst h0
    have z1 : rung 0 = 0 := rfl
    have z2 : dgt 0 = 1074 := rfl
    rw [z1, if_pos (by decide), Nat.zero_mul, z2]; rfl
  · have hl := log_le h0 h
    have hM := mant h0 h
    have hrg : rung m = (m.log2 + 1022) * 4503599627370496 + m * 2 ^ (52 - m.log2) := by rw [rung, if_neg h0]
    rw [hrg, if_neg (by omega), if_pos (by omega)]
    obtain ⟨f, hf⟩ : ∃ f, m * 2 ^ (52 - m.log2) = 4503599627370496 + f := ⟨m * 2 ^ (52 - m.log2) - 4503599627370496, by omega⟩
    have hd : dgt m = 52 - m.log2 := by rw [dgt, if_neg h0]
    rw [hd, hf]
    have e1 : ((m.log2 + 1022) * 4503599627370496 + (4503599627370496 + f)) % 4503599627370496 = f := by omega
    have e2 : ((m.log2 + 1022) * 4503599627370496 + (4503599627370496 + f)) / 4503599627370496 = m.log2 + 1023 := by omega
    have e3 : (-1074 : Int) + ((m.log2 + 1023 - 1 : Nat) : Int) = -((52 - m.log2 : Nat) : Int) := by omega
    rw [e1, e2, e3]

def sg (s : Bool) (m : Nat) : Int := if s then -(m : Int) else m
theorem signed_sg (s : Bool) (m k u : Nat) : Ieee.signed s (m * 2 ^ k) u = sg s m * ((2 ^ (k + u) : Nat) : Int) := by
  unfold Ieee.signed sg
  rw [Nat.shiftLeft_eq, Nat.mul_assoc, ← Nat.pow_add]
  cases s
  · simp
  · simp [Int.neg_mul]

theorem sum_wd (s t : Bool) (a b : Nat) (ha : a < 2 ^ 53) (hb : b < 2 ^ 53) (hab : (sg s a + sg t b).natAbs < 2 ^ 53) :
    Ieee.double.add (wd s a) (wd t b) = some (wd (if sg s a + sg t b = 0 then s && t else decide (sg s a + sg t b < 0)) (sg s a + sg t b).natAbs) := by
  unfold Ieee.Format.add
  rw [read_wd s a ha, read_wd t b hb]
  obtain ⟨i, hi⟩ : ∃ i, dgt a = i := ⟨_, rfl⟩
  obtain ⟨j, hj⟩ : ∃ j, dgt b = j := ⟨_, rfl⟩
  rw [hi, hj]
  simp only [Ieee.Datum.sum, Option.map_some]
  obtain ⟨K, hK⟩ : ∃ K, max i j = K := ⟨_, rfl⟩
  have hbase : min (-(i : Int)) (-(j : Int)) = -(K : Int) := by omega
  rw [hbase, signed_sg, signed_sg, show i + (-(i : Int) - -(K : Int)).toNat = K from by omega, show j + (-(j : Int) - -(K : Int)).toNat = K from by omega, ← Int.add_mul]
  obtain ⟨n, hn⟩ : ∃ n, sg s a + sg t b = n := ⟨_, rfl⟩
  rw [hn] at hab ⊢
  have hp : 0 < 2 ^ K := Nat.two_pow_pos K
  have hpi : (0 : Int) < ((2 ^ K : Nat) : Int) := by omega
  have e0 : (n * ((2 ^ K : Nat) : Int) = 0) = (n = 0) := by
    rw [Int.mul_eq_zero]; simp only [eq_iff_iff]; constructor
    · rintro (h | h)
      · exact h
      · omega
    · exact Or.inl
  have e1 : (n * ((2 ^ K : Nat) : Int) < 0) = (n < 0) := by
    simp only [eq_iff_iff]
    constructor
    · intro h
      apply Int.lt_of_not_ge
      intro h2
      have := Int.mul_nonneg h2 (Int.le_of_lt hpi)
      omega
    · intro h; exact Int.mul_neg_of_neg_of_pos h hpi
  simp only [e0, e1, Int.natAbs_mul, Int.natAbs_natCast]
  show some (Ieee.double.nearest _ _ _) = _
  rw [nearest_exact _ _ _ hab]

theorem mul_wd (s t : Bool) (a b : Nat) (ha : a < 2 ^ 53) (hb : b < 2 ^ 53) (hab : a * b < 2 ^ 53) : Ieee.double.mul (wd s a) (wd t b) = some (wd (s ^^ t) (a * b)) := by
  unfold Ieee.Format.mul
  rw [read_wd s a ha, read_wd t b hb]
  simp only [Ieee.Datum.product, Option.map_some]
  show some (Ieee.double.nearest _ _ _) = _
  rw [show a * 2 ^ dgt a * (b * 2 ^ dgt b) = a * b * 2 ^ (dgt a + dgt b) from by rw [Nat.pow_add]; exact Nat.mul_mul_mul_comm .., show (-(dgt a : Int) + -(dgt b : Int)) = -((dgt a + dgt b : Nat) : Int) from by omega, nearest_exact _ _ _ hab]

theorem sub_wd (s t : Bool) (a b : Nat) (ha : a < 2 ^ 53) (hb : b < 2 ^ 53) : Ieee.double.sub (wd s a) (wd t b) = Ieee.double.add (wd s a) (wd (!t) b) := by
  unfold Ieee.Format.add Ieee.Format.sub
  rw [read_wd s a ha, read_wd t b hb, read_wd (!t) b hb]; rfl

theorem order_wd (s t : Bool) (a b : Nat) (ha : a < 2 ^ 53) (hb : b < 2 ^ 53) : Ieee.double.order (wd s a) (wd t b) = some (compare (sg s a) (sg t b)) := by
  unfold Ieee.Format.order
  rw [read_wd s a ha, read_wd t b hb]
  obtain ⟨i, hi⟩ : ∃ i, dgt a = i := ⟨_, rfl⟩
  obtain ⟨j, hj⟩ : ∃ j, dgt b = j := ⟨_, rfl⟩
  rw [hi, hj]
  simp only [Ieee.Datum.order]
  obtain ⟨K, hK⟩ : ∃ K, max i j = K := ⟨_, rfl⟩
  have hbase : min (-(i : Int)) (-(j : Int)) = -(K : Int) := by omega
  rw [hbase, signed_sg, signed_sg, show i + (-(i : Int) - -(K : Int)).toNat = K from by omega, show j + (-(j : Int) - -(K : Int)).toNat = K from by omega]
  have hp : 0 < 2 ^ K := Nat.two_pow_pos K
  have hpi : (0 : Int) < ((2 ^ K : Nat) : Int) := by omega
  obtain ⟨x, hx⟩ : ∃ x, sg s a = x := ⟨_, rfl⟩
  obtain ⟨y, hy⟩ : ∃ y, sg t b = y := ⟨_, rfl⟩
  obtain ⟨p, hp⟩ : ∃ p, ((2 ^ K : Nat) : Int) = p := ⟨_, rfl⟩
  rw [hx, hy, hp]
  rw [hp] at hpi
  congr 1
  rcases Int.lt_trichotomy x y with h | h | h
  · rw [Int.compare_eq_lt.2 h, Int.compare_eq_lt.2 (Int.mul_lt_mul_of_pos_right h hpi)]
  · subst h; rw [Int.compare_eq_eq.2 rfl, Int.compare_eq_eq.2 rfl]
  · rw [Int.compare_eq_gt.2 h, Int.compare_eq_gt.2 (Int.mul_lt_mul_of_pos_right h hpi)]

theorem toInt_wd (s : Bool) (a : Nat) (ha : a < 2 ^ 53) : (Ieee.double.read (wd s a)).toInt .zero = some (sg s a) := by
  rw [read_wd s a ha]
  unfold Ieee.Datum.toInt Ieee.Datum.integral
  simp only [show (-(dgt a : Int)).toNat = 0 from by omega, show (- -(dgt a : Int)).toNat = dgt a from by omega, Nat.shiftLeft_zero]
  have : Ieee.Toward.zero.cut s (a * 2 ^ dgt a) (dgt a) = a := by
    by_cases h0 : a = 0
    · subst h0; simp [Ieee.Toward.cut]
    · exact cut_exact _ _ _ _ h0
  rw [this]
  unfold Ieee.signed sg
  simp


theorem word_lo : (14064741636278059008 : Nat) = wd true 4503599627370496 := by decide +kernel
theorem word_hi : (4841369599423283200 : Nat) = wd false 4503599627370496 := by decide +kernel
theorem sg_bound (s : Bool) (m : Nat) : -(m : Int) ≤ sg s m ∧ sg s m ≤ m := by unfold sg; split <;> omega
def fw (n : Int) : Nat := wd (decide (n < 0)) n.natAbs
theorem of_int (n : Int) (h : n.natAbs < 2 ^ 53) : floatOfInt .f64 n = fw n := by
  have := nearest_exact (decide (n < 0)) n.natAbs 0 h
  simpa [floatOfInt, fw, FloatKind.nearest, FloatKind.encode, FloatKind.format, Ieee.Format.write] using this
theorem sg_fw (n : Int) : sg (decide (n < 0)) n.natAbs = n := by unfold sg; by_cases h : n < 0 <;> simp [h] <;> omega
theorem sg_natAbs (s : Bool) (m : Nat) : (sg s m).natAbs = m := by unfold sg; split <;> simp
theorem order_lo (s : Bool) (m : Nat) (h : m ≤ 4503599627370496) : FloatKind.f64.format.order (wd s m) 14064741636278059008 = some .gt ∨ FloatKind.f64.format.order (wd s m) 14064741636278059008 = some .eq := by
  rw [word_lo, show FloatKind.f64.format = Ieee.double from rfl, order_wd s true m _ (by omega) (by decide)]
  have hb := sg_bound s m
  rcases Int.lt_trichotomy (sg s m) (sg true 4503599627370496) with h1 | h1 | h1
  · simp [sg] at h1; simp [sg] at hb; omega
  · right; rw [Int.compare_eq_eq.2 h1]
  · left; rw [Int.compare_eq_gt.2 h1]
theorem order_hi (s : Bool) (m : Nat) (h : m ≤ 4503599627370496) : FloatKind.f64.format.order (wd s m) 4841369599423283200 = some .lt ∨ FloatKind.f64.format.order (wd s m) 4841369599423283200 = some .eq := by
  rw [word_hi, show FloatKind.f64.format = Ieee.double from rfl, order_wd s false m _ (by omega) (by decide)]
  have hb := sg_bound s m
  rcases Int.lt_trichotomy (sg s m) (sg false 4503599627370496) with h1 | h1 | h1
  · left; rw [Int.compare_eq_lt.2 h1]
  · right; rw [Int.compare_eq_eq.2 h1]
  · simp [sg] at h1; simp [sg] at hb; omega
theorem order_self (s t : Bool) (m : Nat) (h : m < 2 ^ 53) (hs : sg s m = sg t m) : FloatKind.f64.format.order (wd s m) (wd t m) = some .eq := by
  rw [show FloatKind.f64.format = Ieee.double from rfl, order_wd s t m m h h, hs, Int.compare_eq_eq.2 rfl]
theorem conv_wd (s : Bool) (m : Nat) (h : m < 2 ^ 53) (w : World) : (convert 83 3 (.float .f64 (wd s m))).run Try.prog w = .ok (.int .i64 (sg s m)) w := by
  refine run_convert_float_int (P := Try.prog) w 83 3 .f64 .i64 _ _ (by rw [Try.underlying83]; rfl) Try.underlying3 ?_
  unfold floatToIntVal
  rw [show FloatKind.f64.decode (wd s m) = Ieee.double.read (wd s m) from rfl, toInt_wd s m h]
  have hb := sg_bound s m
  simp only [IntKind.min, IntKind.max, IntKind.signed, IntKind.bits]
  rw [if_pos]
  constructor
  · simp; omega
  · simp; omega

theorem whole_fw (n : Int) (w : World) (h1 : -4503599627370496 ≤ n) (h2 : n ≤ 4503599627370496) : Calls Try.prog 40 #[.float .f64 (fw n)] w fun e w' => e = .returned (.bool true) ∧ w = w' := by
  have h : n.natAbs ≤ 4503599627370496 := by omega
  have h53 : n.natAbs < 2 ^ 53 := by omega
  have hcv : ∀ w, (convert 83 3 (.float .f64 (fw n))).run Try.prog w = .ok (.int .i64 n) w := fun w => by have := conv_wd (decide (n < 0)) n.natAbs h53 w; rw [sg_fw] at this; exact this
  have hn := of_int n h53
  have ho : FloatKind.f64.format.order (fw n) (fw n) = some .eq := order_self _ _ _ h53 rfl
  have o1 : FloatKind.f64.format.order (fw n) 14064741636278059008 = some .gt ∨ FloatKind.f64.format.order (fw n) 14064741636278059008 = some .eq := order_lo _ _ h
  have o2 : FloatKind.f64.format.order (fw n) 4841369599423283200 = some .lt ∨ FloatKind.f64.format.order (fw n) 4841369599423283200 = some .eq := order_hi _ _ h
  clear h h53 h1 h2
  rcases o1 with o1 | o1 <;> rcases o2 with o2 | o2
  all_goals
    go_enter Try.func40, Try.ntmps40
    go_wp2_with fail
    go_ret
    exact ⟨rfl, rfl⟩

def Far (x : Nat) : Prop := FloatKind.f64.format.order x 14064741636278059008 = some .lt ∨ FloatKind.f64.format.order x 14064741636278059008 = some .gt ∧ FloatKind.f64.format.order x 4841369599423283200 = some .gt
theorem whole_no (x : Nat) (w : World) (h : Far x) : Calls Try.prog 40 #[.float .f64 x] w fun e w' => e = .returned (.bool false) ∧ w = w' := by
  rcases h with h | ⟨h, h2⟩
  all_goals
    go_enter Try.func40, Try.ntmps40
    go_wp2_with fail
    go_ret
    exact ⟨rfl, rfl⟩

theorem far_fw (n : Int) (h : n.natAbs < 2 ^ 53) (hf : n < -4503599627370496 ∨ 4503599627370496 < n) : Far (fw n) := by
  have o1 := order_wd (decide (n < 0)) true n.natAbs 4503599627370496 h (by decide)
  have o2 := order_wd (decide (n < 0)) false n.natAbs 4503599627370496 h (by decide)
  rw [← word_lo, sg_fw, show sg true 4503599627370496 = -4503599627370496 from rfl] at o1
  rw [← word_hi, sg_fw, show sg false 4503599627370496 = 4503599627370496 from rfl] at o2
  rcases hf with hf | hf
  · left; rw [Int.compare_eq_lt.2 hf] at o1; exact o1
  · right
    rw [Int.compare_eq_gt.2 (by omega)] at o1
    rw [Int.compare_eq_gt.2 hf] at o2
    exact ⟨o1, o2⟩

theorem right_yes (a b : Int) (w : World) (a1 : -4503599627370496 ≤ a) (a2 : a ≤ 4503599627370496) (b1 : -4503599627370496 ≤ b) (b2 : b ≤ 4503599627370496) : Calls Try.prog 36 #[.complex .f64 (fw a) (fw b)] w fun e w' => e = .returned (.bool true) ∧ w = w' := by
  have HA := hide (And.intro a1 a2)
  have HB := hide (And.intro b1 b2)
  clear a1 a2 b1 b2
  go_enter Try.func36, Try.ntmps36
  go_wp2_with fail
  refine (whole_fw a _ HA.out.1 HA.out.2).mono ?_
  rintro e w1 ⟨rfl, rfl⟩
  go_wp2_with fail
  refine (whole_fw b _ HB.out.1 HB.out.2).mono ?_
  rintro e w1 ⟨rfl, rfl⟩
  go_wp2_with fail
  go_ret
  exact ⟨rfl, rfl⟩
theorem right_no1 (x y : Nat) (w : World) (h : Far x) : Calls Try.prog 36 #[.complex .f64 x y] w fun e w' => e = .returned (.bool false) ∧ w = w' := by
  have H := hide h
  clear h
  go_enter Try.func36, Try.ntmps36
  go_wp2_with fail
  refine (whole_no x _ H.out).mono ?_
  rintro e w1 ⟨rfl, rfl⟩
  go_wp2_with fail
  go_ret
  exact ⟨rfl, rfl⟩
theorem right_no2 (a : Int) (y : Nat) (w : World) (a1 : -4503599627370496 ≤ a) (a2 : a ≤ 4503599627370496) (h : Far y) : Calls Try.prog 36 #[.complex .f64 (fw a) y] w fun e w' => e = .returned (.bool false) ∧ w = w' := by
  have H := hide h
  have HA := hide (And.intro a1 a2)
  clear h a1 a2
  go_enter Try.func36, Try.ntmps36
  go_wp2_with fail
  refine (whole_fw a _ HA.out.1 HA.out.2).mono ?_
  rintro e w1 ⟨rfl, rfl⟩
  go_wp2_with fail
  refine (whole_no y _ H.out).mono ?_
  rintro e w1 ⟨rfl, rfl⟩
  go_wp2_with fail
  go_ret
  exact ⟨rfl, rfl⟩


def Am (n : Int) : Prop := -4503599627370496 ≤ n ∧ n ≤ 4503599627370496
instance (n : Int) : Decidable (Am n) := inferInstanceAs (Decidable (_ ∧ _))

theorem amount17_yes (n : Int) (w : World) (h : Am n) : Calls Try.prog 38 #[.int .i64 n] w fun e w' => e = .returned (.bool true) ∧ w = w' := by
  obtain ⟨h1, h2⟩ := h
  go_enter Try.func38, Try.ntmps38
  go_wp2_with fail
  go_ret
  exact ⟨rfl, rfl⟩
theorem amount17_no (n : Int) (w : World) (h : ¬ Am n) : Calls Try.prog 38 #[.int .i64 n] w fun e w' => e = .returned (.bool false) ∧ w = w' := by
  have h1 : n < -4503599627370496 ∨ 4503599627370496 < n := by unfold Am at h; omega
  clear h
  rcases h1 with h1 | h1
  all_goals
    go_enter Try.func38, Try.ntmps38
    go_wp2_with fail
    go_ret
    exact ⟨ret_bool (by first | (simp; done) | (simp; omega)), rfl⟩
theorem amount17_q (n : Int) (q : Bool) (w : World) (h : Hid (decide (Am n) = q)) : Calls Try.prog 38 #[.int .i64 n] w fun e w' => e = .returned (.bool q) ∧ w = w' := by
  by_cases ha : Am n
  · rw [← h.out, decide_eq_true ha]; exact amount17_yes n w ha
  · rw [← h.out, decide_eq_false ha]; exact amount17_no n w ha

theorem along_q (side n : Int) (w : World) (h : Hid (n.natAbs < 2 ^ 53)) : Calls Try.prog 39 #[.int .i64 side, .int .i64 n] w fun e w' => e = .returned (.complex .f64 (if side = 0 then fw n else 0) (if side = 0 then 0 else fw n)) ∧ w = w' := by
  have hn := of_int n h.out
  by_cases hs : side = 0
  · subst hs
    go_enter Try.func39, Try.ntmps39
    go_wp2_with fail
    go_ret
    exact ⟨rfl, rfl⟩
  · have hs1 : (side == 0) = false := by simpa using hs
    go_enter Try.func39, Try.ntmps39
    go_wp2_with fail
    go_ret
    exact ⟨rfl, rfl⟩

def sideS (a b side : Int) : Int × Int := if side = 0 then (a, 0) else if side = 1 then (b, 0) else (0, 1)
theorem side_out (a b : Nat) (side : Int) (w : World) (h0 : ¬ side = 0) (h1 : ¬ side = 1) : Calls Try.prog 32 #[.complex .f64 a b, .int .i64 side] w fun e w' => e = .returned (.tuple #[.int .i64 0, .int .i64 1]) ∧ w = w' := by
  have g0 : (side != 0) = true := by simpa using h0
  have g1 : (side != 1) = true := by simpa using h1
  go_enter Try.func32, Try.ntmps32
  go_wp2_with fail
  go_ret2
  exact ⟨rfl, rfl⟩
theorem conv_fw (n : Int) (h : Am n) (w : World) : (convert 83 3 (.float .f64 (fw n))).run Try.prog w = .ok (.int .i64 n) w := by
  have := conv_wd (decide (n < 0)) n.natAbs (by unfold Am at h; omega) w
  rw [sg_fw] at this; exact this
theorem side_in (a b : Int) (side : Int) (w : World) (ha : Am a) (hb : Am b) (hs : side = 0 ∨ side = 1) : Calls Try.prog 32 #[.complex .f64 (fw a) (fw b), .int .i64 side] w fun e w' => e = .returned (.tuple #[.int .i64 (if side = 0 then a else b), .int .i64 0]) ∧ w = w' := by
  have ca := fun w => conv_fw a ha w
  have cb := fun w => conv_fw b hb w
  have HA := hide ha
  have HB := hide hb
  clear ha hb
  rcases hs with rfl | rfl
  all_goals
    go_enter Try.func32, Try.ntmps32
    go_wp2_with fail
    refine (right_yes a b _ HA.out.1 HA.out.2 HB.out.1 HB.out.2).mono ?_
    rintro e w1 ⟨rfl, rfl⟩
    go_wp2_with fail
    go_ret2
    exact ⟨rfl, rfl⟩
theorem side_q (a b side x e0 : Int) (w : World) (ha : Hid (Am a)) (hb : Hid (Am b)) (h : Hid (sideS a b side = (x, e0))) : Calls Try.prog 32 #[.complex .f64 (fw a) (fw b), .int .i64 side] w fun e w' => e = .returned (.tuple #[.int .i64 x, .int .i64 e0]) ∧ w = w' := by
  have h := h.out
  unfold sideS at h
  split at h
  · rename_i hs
    injection h with h1 h2
    subst h1 h2 hs
    exact side_in a b 0 w ha.out hb.out (.inl rfl)
  · rename_i hs
    split at h
    · rename_i hs1
      injection h with h1 h2
      subst h1 h2 hs1
      exact side_in a b 1 w ha.out hb.out (.inr rfl)
    · rename_i hs1
      injection h with h1 h2
      subst h1 h2
      exact side_out _ _ side w hs hs1



theorem fw_zero : fw 0 = 0 := by decide +kernel
theorem add_fw (a b : Int) (ha : a.natAbs < 2 ^ 53) (hb : b.natAbs < 2 ^ 53) (hab : (a + b).natAbs < 2 ^ 53) : floatBits .add .f64 (fw a) (fw b) = some (fw (a + b)) := by
  have := sum_wd (decide (a < 0)) (decide (b < 0)) a.natAbs b.natAbs ha hb (by rw [sg_fw, sg_fw]; exact hab)
  rw [sg_fw, sg_fw] at this
  show Ieee.double.add _ _ = _
  rw [show fw a = wd (decide (a < 0)) a.natAbs from rfl, show fw b = wd (decide (b < 0)) b.natAbs from rfl, this]
  congr 1
  unfold fw
  congr 1
  split
  · rename_i h
    by_cases h1 : a < 0 <;> by_cases h2 : b < 0 <;> simp [h1, h2, h]
    omega
  · rfl
theorem add_far (a b : Int) (ha : Am a) (hb : Am b) (h : ¬ Am (a + b)) : ∃ x, floatBits .add .f64 (fw a) (fw b) = some x ∧ Far x := by
  unfold Am at ha hb h
  by_cases h53 : (a + b).natAbs < 2 ^ 53
  · exact ⟨fw (a + b), add_fw a b (by omega) (by omega) h53, far_fw _ h53 (by omega)⟩
  · have hc : a = 4503599627370496 ∧ b = 4503599627370496 ∨ a = -4503599627370496 ∧ b = -4503599627370496 := by omega
    rcases hc with ⟨rfl, rfl⟩ | ⟨rfl, rfl⟩
    · exact ⟨4845873199050653696, by decide +kernel, by unfold Far; decide +kernel⟩
    · exact ⟨14069245235905429504, by decide +kernel, by unfold Far; decide +kernel⟩

theorem swap_bits (a b : Int) (ha : Am a) (hb : Am b) : cMulBits 0 4607182418800017408 (fw a) (wd (!decide (b < 0)) b.natAbs) = some (fw b, fw a) := by
  unfold Am at ha hb
  have z : (0 : Nat) = wd false 0 := by decide +kernel
  have o : (4607182418800017408 : Nat) = wd false 1 := by decide +kernel
  have h1 : a.natAbs < 2 ^ 53 := by omega
  have h2 : b.natAbs < 2 ^ 53 := by omega
  have hz : (0 : Nat) < 2 ^ 53 := by decide
  have h1' : (1 : Nat) < 2 ^ 53 := by decide
  have m1 := mul_wd false (decide (a < 0)) 0 a.natAbs hz h1 (by omega)
  have m2 := mul_wd false (!decide (b < 0)) 1 b.natAbs h1' h2 (by omega)
  have m3 := mul_wd false (!decide (b < 0)) 0 b.natAbs hz h2 (by omega)
  have m4 := mul_wd false (decide (a < 0)) 1 a.natAbs h1' h1 (by omega)
  simp only [Bool.false_xor, Nat.zero_mul, Nat.one_mul] at m1 m2 m3 m4
  have s1 := sub_wd (decide (a < 0)) (!decide (b < 0)) 0 b.natAbs hz h2
  have s2 := sum_wd (decide (a < 0)) (!!decide (b < 0)) 0 b.natAbs hz h2 (by rw [Bool.not_not, sg_fw]; unfold sg; simp; omega)
  have s3 := sum_wd (!decide (b < 0)) (decide (a < 0)) 0 a.natAbs hz h1 (by rw [sg_fw]; unfold sg; simp; omega)
  have e0 : ∀ s, sg s 0 = 0 := by intro s; unfold sg; split <;> rfl
  rw [Bool.not_not] at s2
  rw [sg_fw, e0, Int.zero_add] at s2 s3
  unfold cMulBits
  simp only [floatBits, show FloatKind.f64.format = Ieee.double from rfl]
  rw [z, o, show fw a = wd (decide (a < 0)) a.natAbs from rfl, m1, m2]
  simp only [Option.bind_some]
  rw [s1, Bool.not_not, s2, m3, m4]
  simp only [Option.bind_some]
  rw [s3]
  simp only [Option.bind_some]
  congr 2
  · unfold fw
    congr 1
    split
    · rename_i h; simp [h]
    · rfl
  · congr 1
    split
    · rename_i h; simp [h]
    · rfl

theorem flip_bit (r : Nat) (h : r < 2 ^ 63) : r ^^^ 2 ^ 63 = 2 ^ 63 + r := by
  have e : 2 ^ 63 + r = 2 ^ 63 ||| r := by
    have := Nat.two_pow_add_eq_or_of_lt (i := 63) h 1
    rwa [Nat.mul_one] at this
  rw [e]
  apply Nat.eq_of_testBit_eq
  intro i
  rw [Nat.testBit_xor, Nat.testBit_or, Nat.testBit_two_pow]
  by_cases hi : 63 = i
  · subst hi
    rw [Nat.testBit_lt_two_pow h]; simp
  · simp [hi]
theorem neg_wd (s : Bool) (m : Nat) (h : m < 2 ^ 53) : Go.Op.negFloat .f64 (wd s m) = wd (!s) m := by
  have hr : rung m < 2 ^ 63 := by have := rung_lt h; omega
  show wd s m ^^^ 2 ^ 63 = _
  unfold wd Ieee.Format.word
  rw [show Ieee.double.signWeight = 2 ^ 63 from rfl]
  cases s
  · simp only [Bool.false_eq_true, if_false, Bool.not_false, if_true]
    exact flip_bit _ hr
  · simp only [Bool.not_true, Bool.false_eq_true, if_false, if_true]
    rw [← flip_bit _ hr, Nat.xor_assoc, Nat.xor_self, Nat.xor_zero]
theorem neg_run (b : Int) (h : Am b) (w : World) : (Go.Op.unary .neg (.float .f64 (fw b))).run Try.prog w = .ok (.float .f64 (wd (!decide (b < 0)) b.natAbs)) w := by
  unfold Am at h
  show (pure (Value.float .f64 (Go.Op.negFloat .f64 (fw b))) : Sem Value).run Try.prog w = _
  rw [show fw b = wd (decide (b < 0)) b.natAbs from rfl, neg_wd _ _ (by omega)]
  rfl



theorem along0 (n : Int) (w : World) (h : Hid (n.natAbs < 2 ^ 53)) : Calls Try.prog 39 #[.int .i64 0, .int .i64 n] w fun e w' => e = .returned (.complex .f64 (fw n) 0) ∧ w = w' := along_q 0 n w h
theorem along1 (n : Int) (w : World) (h : Hid (n.natAbs < 2 ^ 53)) : Calls Try.prog 39 #[.int .i64 1, .int .i64 n] w fun e w' => e = .returned (.complex .f64 0 (fw n)) ∧ w = w' := along_q 1 n w h
theorem am_abs {n : Int} (h : Am n) : n.natAbs < 2 ^ 53 := by unfold Am at h; omega
theorem cadd (a b c d x y : Int) (ha : Am a) (hb : Am b) (hc : Am c) (hd : Am d) (hx : a + c = x) (hy : b + d = y) (h1 : Am x) (h2 : Am y) (w : World) :
    (binOp .add 34 (.complex .f64 (fw a) (fw b)) (.complex .f64 (fw c) (fw d))).run Try.prog w = .ok (.complex .f64 (fw x) (fw y)) w := by
  subst hx hy
  refine run_complex_sum (P := Try.prog) w .add (.inl rfl) 34 .f64 _ _ _ _ _ _ ?_
  unfold cSumBits
  rw [add_fw a c (am_abs ha) (am_abs hc) (am_abs h1), add_fw b d (am_abs hb) (am_abs hd) (am_abs h2)]; rfl
theorem cadd_far (a b c d : Int) (u v : Nat) (hu : floatBits .add .f64 (fw a) (fw c) = some u) (hv : floatBits .add .f64 (fw b) (fw d) = some v) (w : World) :
    (binOp .add 34 (.complex .f64 (fw a) (fw b)) (.complex .f64 (fw c) (fw d))).run Try.prog w = .ok (.complex .f64 u v) w := by
  refine run_complex_sum (P := Try.prog) w .add (.inl rfl) 34 .f64 _ _ _ _ _ _ ?_
  unfold cSumBits
  rw [hu, hv]; rfl
theorem am0 : Am 0 := by decide

theorem move_side (a b : Nat) (side n : Int) (w : World) (h0 : ¬ side = 0) (h1 : ¬ side = 1) : Calls Try.prog 35 #[.complex .f64 a b, .int .i64 side, .int .i64 n] w fun e w' => e = .returned (.tuple #[.complex .f64 0 0, .int .i64 1]) ∧ w = w' := by
  have H0 := hide h0
  have H1 := hide h1
  clear h0 h1
  go_enter Try.func35, Try.ntmps35
  go_wp2_with fail
  refine (side_out a b side _ H0.out H1.out).mono ?_
  rintro e w1 ⟨rfl, rfl⟩
  go_wp2_with fail
  go_ret2
  exact ⟨rfl, rfl⟩
theorem move_n0 (a b n : Int) (w : World) (ha : Am a) (hb : Am b) (hn : ¬ Am n) : Calls Try.prog 35 #[.complex .f64 (fw a) (fw b), .int .i64 0, .int .i64 n] w fun e w' => e = .returned (.tuple #[.complex .f64 0 0, .int .i64 5]) ∧ w = w' := by
  have HA := hide ha
  have HB := hide hb
  have HN := hide hn
  clear ha hb hn
  go_enter Try.func35, Try.ntmps35
  go_wp2_with fail
  refine (side_in a b 0 _ HA.out HB.out (by simp)).mono ?_
  rintro e w1 ⟨rfl, rfl⟩
  go_wp2_with fail
  refine (amount17_no n _ HN.out).mono ?_
  rintro e w1 ⟨rfl, rfl⟩
  go_wp2_with fail
  go_ret2
  exact ⟨rfl, rfl⟩
theorem move_ok0 (a b n x : Int) (w : World) (ha : Am a) (hb : Am b) (hn : Am n) (hx : a + n = x) (hax : Am x) : Calls Try.prog 35 #[.complex .f64 (fw a) (fw b), .int .i64 0, .int .i64 n] w fun e w' => e = .returned (.tuple #[.complex .f64 (fw x) (fw b), .int .i64 0]) ∧ w = w' := by
  have hadd := cadd a b n 0 x b ha hb hn am0 hx (Int.add_zero b) hax hb
  rw [fw_zero] at hadd
  have HA := hide ha
  have HB := hide hb
  have HNA := hide (am_abs hn)
  have HN := hide hn
  have HX := hide hax
  clear ha hb hn hx hax
  go_enter Try.func35, Try.ntmps35
  go_wp2_with fail
  refine (side_in a b 0 _ HA.out HB.out (by simp)).mono ?_
  rintro e w1 ⟨rfl, rfl⟩
  go_wp2_with fail
  refine (amount17_yes n _ HN.out).mono ?_
  rintro e w1 ⟨rfl, rfl⟩
  go_wp2_with fail
  refine (along0 n _ HNA).mono ?_
  rintro e w1 ⟨rfl, rfl⟩
  go_wp2_with fail
  refine (right_yes x b _ HX.out.1 HX.out.2 HB.out.1 HB.out.2).mono ?_
  rintro e w1 ⟨rfl, rfl⟩
  go_wp2_with fail
  go_ret2
  exact ⟨rfl, rfl⟩
theorem move_far0 (a b n : Int) (w : World) (ha : Am a) (hb : Am b) (hn : Am n) (hx : ¬ Am (a + n)) : Calls Try.prog 35 #[.complex .f64 (fw a) (fw b), .int .i64 0, .int .i64 n] w fun e w' => e = .returned (.tuple #[.complex .f64 0 0, .int .i64 5]) ∧ w = w' := by
  obtain ⟨u, hu, hfar⟩ := add_far a n ha hn hx
  have hz := add_fw b 0 (am_abs hb) (by decide) (by rw [Int.add_zero]; exact am_abs hb)
  rw [Int.add_zero] at hz
  have hadd := cadd_far a b n 0 u (fw b) hu hz
  rw [fw_zero] at hadd
  have HA := hide ha
  have HB := hide hb
  have HNA := hide (am_abs hn)
  have HN := hide hn
  have HU := hide hfar
  clear ha hb hn hx hu hfar hz
  go_enter Try.func35, Try.ntmps35
  go_wp2_with fail
  refine (side_in a b 0 _ HA.out HB.out (by simp)).mono ?_
  rintro e w1 ⟨rfl, rfl⟩
  go_wp2_with fail
  refine (amount17_yes n _ HN.out).mono ?_
  rintro e w1 ⟨rfl, rfl⟩
  go_wp2_with fail
  refine (along0 n _ HNA).mono ?_
  rintro e w1 ⟨rfl, rfl⟩
  go_wp2_with fail
  refine (right_no1 u (fw b) _ HU.out).mono ?_
  rintro e w1 ⟨rfl, rfl⟩
  go_wp2_with fail
  go_ret2
  exact ⟨rfl, rfl⟩
theorem move_n1 (a b n : Int) (w : World) (ha : Am a) (hb : Am b) (hn : ¬ Am n) : Calls Try.prog 35 #[.complex .f64 (fw a) (fw b), .int .i64 1, .int .i64 n] w fun e w' => e = .returned (.tuple #[.complex .f64 0 0, .int .i64 5]) ∧ w = w' := by
  have HA := hide ha
  have HB := hide hb
  have HN := hide hn
  clear ha hb hn
  go_enter Try.func35, Try.ntmps35
  go_wp2_with fail
  refine (side_in a b 1 _ HA.out HB.out (by simp)).mono ?_
  rintro e w1 ⟨rfl, rfl⟩
  go_wp2_with fail
  refine (amount17_no n _ HN.out).mono ?_
  rintro e w1 ⟨rfl, rfl⟩
  go_wp2_with fail
  go_ret2
  exact ⟨rfl, rfl⟩
theorem move_ok1 (a b n x : Int) (w : World) (ha : Am a) (hb : Am b) (hn : Am n) (hx : b + n = x) (hax : Am x) : Calls Try.prog 35 #[.complex .f64 (fw a) (fw b), .int .i64 1, .int .i64 n] w fun e w' => e = .returned (.tuple #[.complex .f64 (fw a) (fw x), .int .i64 0]) ∧ w = w' := by
  have hadd := cadd a b 0 n a x ha hb am0 hn (Int.add_zero a) hx ha hax
  rw [fw_zero] at hadd
  have HA := hide ha
  have HB := hide hb
  have HNA := hide (am_abs hn)
  have HN := hide hn
  have HX := hide hax
  clear ha hb hn hx hax
  go_enter Try.func35, Try.ntmps35
  go_wp2_with fail
  refine (side_in a b 1 _ HA.out HB.out (by simp)).mono ?_
  rintro e w1 ⟨rfl, rfl⟩
  go_wp2_with fail
  refine (amount17_yes n _ HN.out).mono ?_
  rintro e w1 ⟨rfl, rfl⟩
  go_wp2_with fail
  refine (along1 n _ HNA).mono ?_
  rintro e w1 ⟨rfl, rfl⟩
  go_wp2_with fail
  refine (right_yes a x _ HA.out.1 HA.out.2 HX.out.1 HX.out.2).mono ?_
  rintro e w1 ⟨rfl, rfl⟩
  go_wp2_with fail
  go_ret2
  exact ⟨rfl, rfl⟩
theorem move_far1 (a b n : Int) (w : World) (ha : Am a) (hb : Am b) (hn : Am n) (hx : ¬ Am (b + n)) : Calls Try.prog 35 #[.complex .f64 (fw a) (fw b), .int .i64 1, .int .i64 n] w fun e w' => e = .returned (.tuple #[.complex .f64 0 0, .int .i64 5]) ∧ w = w' := by
  obtain ⟨u, hu, hfar⟩ := add_far b n hb hn hx
  have hz := add_fw a 0 (am_abs ha) (by decide) (by rw [Int.add_zero]; exact am_abs ha)
  rw [Int.add_zero] at hz
  have hadd := cadd_far a b 0 n (fw a) u hz hu
  rw [fw_zero] at hadd
  have HA := hide ha
  have HB := hide hb
  have HNA := hide (am_abs hn)
  have HN := hide hn
  have HU := hide hfar
  clear ha hb hn hx hu hfar hz
  go_enter Try.func35, Try.ntmps35
  go_wp2_with fail
  refine (side_in a b 1 _ HA.out HB.out (by simp)).mono ?_
  rintro e w1 ⟨rfl, rfl⟩
  go_wp2_with fail
  refine (amount17_yes n _ HN.out).mono ?_
  rintro e w1 ⟨rfl, rfl⟩
  go_wp2_with fail
  refine (along1 n _ HNA).mono ?_
  rintro e w1 ⟨rfl, rfl⟩
  go_wp2_with fail
  refine (right_no2 a u _ HA.out.1 HA.out.2 HU.out).mono ?_
  rintro e w1 ⟨rfl, rfl⟩
  go_wp2_with fail
  go_ret2
  exact ⟨rfl, rfl⟩


def mayW (side ini : Int) : Prop := (side = 0 ∨ side = 1) ∧ 0 ≤ ini ∧ ini ≤ 2147483647
instance (side ini : Int) : Decidable (mayW side ini) := inferInstanceAs (Decidable (_ ∧ _))

theorem may16_yes (side ini : Int) (w : World) (h : mayW side ini) : Calls Try.prog 30 #[.int .i64 side, .int .i64 ini] w fun e w' => e = .returned (.bool true) ∧ w = w' := by
  obtain ⟨hs, h1, h2⟩ := h
  rcases hs with rfl | rfl
  all_goals
    go_enter Try.func30, Try.ntmps30
    go_wp2_with fail
    go_ret
    exact ⟨rfl, rfl⟩
theorem may16_no (side ini : Int) (w : World) (h : ¬ mayW side ini) : Calls Try.prog 30 #[.int .i64 side, .int .i64 ini] w fun e w' => e = .returned (.bool false) ∧ w = w' := by
  by_cases h0 : side = 0 ∨ side = 1
  · have h1 : ini < 0 ∨ 2147483647 < ini := by unfold mayW at h; omega
    clear h
    rcases h0 with rfl | rfl <;> rcases h1 with h1 | h1
    all_goals
      go_enter Try.func30, Try.ntmps30
      go_wp2_with fail
      go_ret
      exact ⟨ret_bool (by first | (simp; done) | (simp; omega)), rfl⟩
  · have g0 : (side == 0) = false := by rw [beq_eq_false_iff_ne]; omega
    have g1 : (side == 1) = false := by rw [beq_eq_false_iff_ne]; omega
    clear h h0
    go_enter Try.func30, Try.ntmps30
    go_wp2_with fail
    go_ret
    exact ⟨rfl, rfl⟩



def roomS (a b side ini : Int) : Int := if mayW side ini then ini + (if side = 0 then a else b) else 0
theorem roomS_yes {a b side ini : Int} (h : mayW side ini) : roomS a b side ini = ini + (if side = 0 then a else b) := if_pos h
theorem roomS_no {a b side ini : Int} (h : ¬ mayW side ini) : roomS a b side ini = 0 := if_neg h
theorem room_wrap (x ini : Int) (hx : Am x) (h1 : 0 ≤ ini) (h2 : ini ≤ 2147483647) : IntKind.i64.wrap (ini + x) = ini + x := IntWalk.i64_in _ (by unfold Am at hx; omega)

theorem room9 (a b side ini : Int) (w : World) (ha : Hid (Am a)) (hb : Hid (Am b)) : Calls Try.prog 23 #[.agg #[.complex .f64 (fw a) (fw b)], .int .i64 side, .int .i64 ini] w fun e w' => e = .returned (.int .i64 (roomS a b side ini)) ∧ Below w.heap.size w w' := by
  by_cases hs : side = 0 ∨ side = 1
  · by_cases hm : mayW side ini
    · rw [roomS_yes hm]
      have qa := room_wrap a ini ha.out hm.2.1 hm.2.2
      have qb := room_wrap b ini hb.out hm.2.1 hm.2.2
      have HM := hide hm
      clear hm
      rcases hs with rfl | rfl
      all_goals
        go_enter Try.func23, Try.ntmps23
        go_wp2_with fail
        refine (side_in a b _ _ ha.out hb.out (by simp)).mono ?_
        rintro e w1 ⟨rfl, rfl⟩
        go_wp2_with fail
        refine (may16_yes _ ini _ HM.out).mono ?_
        rintro e w1 ⟨rfl, rfl⟩
        go_wp2_with fail
        go_ret
        exact ⟨rfl, (Below.refl _ _).alloc (Nat.le_refl _) _⟩
    · rw [roomS_no hm]
      have HM := hide hm
      clear hm
      rcases hs with rfl | rfl
      all_goals
        go_enter Try.func23, Try.ntmps23
        go_wp2_with fail
        refine (side_in a b _ _ ha.out hb.out (by simp)).mono ?_
        rintro e w1 ⟨rfl, rfl⟩
        go_wp2_with fail
        refine (may16_no _ ini _ HM.out).mono ?_
        rintro e w1 ⟨rfl, rfl⟩
        go_wp2_with fail
        go_ret
        exact ⟨rfl, (Below.refl _ _).alloc (Nat.le_refl _) _⟩
  · rw [roomS_no (fun h => hs h.1)]
    have H0 : Hid (¬ side = 0) := hide fun h => hs (.inl h)
    have H1 : Hid (¬ side = 1) := hide fun h => hs (.inr h)
    clear hs
    go_enter Try.func23, Try.ntmps23
    go_wp2_with fail
    refine (side_out _ _ side _ H0.out H1.out).mono ?_
    rintro e w1 ⟨rfl, rfl⟩
    go_wp2_with fail
    go_ret
    exact ⟨rfl, (Below.refl _ _).alloc (Nat.le_refl _) _⟩



def moveS (a b side n : Int) : Int × Int × Bool :=
  if side = 0 then (if Am n ∧ Am (a + n) then (a + n, b, true) else (0, 0, false)) else (if Am n ∧ Am (b + n) then (a, b + n, true) else (0, 0, false))
def takeS (a b side n ini : Int) : Int × Int × Bool := if ¬ mayW side ini ∨ n < 0 ∨ 0 < n ∧ roomS a b side ini < n then (0, 0, false) else moveS a b side (-n)
def giveS (a b side n ini : Int) : Int × Int × Bool := if ¬ mayW side ini ∨ n < 0 ∨ 2147483647 - roomS a b side ini < n then (0, 0, false) else moveS a b side n
def BothW (a b side n : Int) (u v : Nat) (x y e0 : Int) : Prop :=
  (∀ w, Calls Try.prog 35 #[.complex .f64 (fw a) (fw b), .int .i64 side, .int .i64 n] w fun e w' => e = .returned (.tuple #[.complex .f64 u v, .int .i64 e0]) ∧ w = w') ∧
  True
theorem both_move (a b side n x y : Int) (q : Bool) (ha : Am a) (hb : Am b) (hs : side = 0 ∨ side = 1) (h : moveS a b side n = (x, y, q)) :
    ∃ e0, BothW a b side n (fw x) (fw y) x y e0 ∧ ((q = false ∧ x = 0 ∧ y = 0 ∧ ¬ e0 = 0) ∨ (q = true ∧ e0 = 0)) ∧ Am x ∧ Am y := by
  unfold moveS at h
  rcases hs with rfl | rfl
  · rw [if_pos rfl] at h
    by_cases hn : Am n
    · by_cases hx : Am (a + n)
      · rw [if_pos ⟨hn, hx⟩] at h
        obtain ⟨rfl, rfl, rfl⟩ : a + n = x ∧ b = y ∧ true = q := by simpa using h
        exact ⟨0, ⟨fun w => move_ok0 a b n _ w ha hb hn rfl hx, trivial⟩, .inr ⟨rfl, rfl⟩, hx, hb⟩
      · rw [if_neg fun hh => hx hh.2] at h
        obtain ⟨rfl, rfl, rfl⟩ : 0 = x ∧ 0 = y ∧ false = q := by simpa using h
        rw [fw_zero]
        exact ⟨5, ⟨fun w => move_far0 a b n w ha hb hn hx, trivial⟩, .inl ⟨rfl, rfl, rfl, by decide⟩, am0, am0⟩
    · rw [if_neg fun hh => hn hh.1] at h
      obtain ⟨rfl, rfl, rfl⟩ : 0 = x ∧ 0 = y ∧ false = q := by simpa using h
      rw [fw_zero]
      exact ⟨5, ⟨fun w => move_n0 a b n w ha hb hn, trivial⟩, .inl ⟨rfl, rfl, rfl, by decide⟩, am0, am0⟩
  · rw [if_neg (by decide)] at h
    by_cases hn : Am n
    · by_cases hx : Am (b + n)
      · rw [if_pos ⟨hn, hx⟩] at h
        obtain ⟨rfl, rfl, rfl⟩ : a = x ∧ b + n = y ∧ true = q := by simpa using h
        exact ⟨0, ⟨fun w => move_ok1 a b n _ w ha hb hn rfl hx, trivial⟩, .inr ⟨rfl, rfl⟩, ha, hx⟩
      · rw [if_neg fun hh => hx hh.2] at h
        obtain ⟨rfl, rfl, rfl⟩ : 0 = x ∧ 0 = y ∧ false = q := by simpa using h
        rw [fw_zero]
        exact ⟨5, ⟨fun w => move_far1 a b n w ha hb hn hx, trivial⟩, .inl ⟨rfl, rfl, rfl, by decide⟩, am0, am0⟩
    · rw [if_neg fun hh => hn hh.1] at h
      obtain ⟨rfl, rfl, rfl⟩ : 0 = x ∧ 0 = y ∧ false = q := by simpa using h
      rw [fw_zero]
      exact ⟨5, ⟨fun w => move_n1 a b n w ha hb hn, trivial⟩, .inl ⟨rfl, rfl, rfl, by decide⟩, am0, am0⟩

theorem st_cx (a : Addr) (x y : Nat) (m : Mode) (w : World) : (store a (.complex .f64 x y) m).run Try.prog w = stored Try.prog w a (.complex .f64 x y) m := run_store Try.prog w a _ m rfl
def WPost (x y : Int) (q : Bool) (w : World) (e : Ending) (w' : World) : Prop := e = .returned (.tuple #[.agg #[.complex .f64 (fw x) (fw y)], .bool q]) ∧ Below w.heap.size w w'
set_option maxRecDepth 10000 in
theorem mv19 (a b side n x y : Int) (q : Bool) (w : World) (ha : Hid (Am a)) (hb : Hid (Am b)) (hs : Hid (side = 0 ∨ side = 1)) (h : Hid (moveS a b side n = (x, y, q))) :
    Calls Try.prog 31 #[.agg #[.complex .f64 (fw a) (fw b)], .int .i64 side, .int .i64 n] w (WPost x y q w) := by
  obtain ⟨e0, HB, hc, _, _⟩ := both_move a b side n x y q ha.out hb.out hs.out h.out
  have HBT := hide HB.1
  clear HB h
  rcases hc with ⟨rfl, rfl, rfl, he⟩ | ⟨rfl, rfl⟩
  · have he2 : (e0 != 0) = true := by simpa using he
    have hst := st_cx
    go_enter Try.func31, Try.ntmps31
    go_wp2_with fail
    refine (HBT.out _).mono ?_
    rintro e w1 ⟨rfl, hw⟩
    have R1 : Blk w1 (w.heap.size + 1) 36 #[.complex .f64 0 0] := by rw [← hw]; have := Blk.born (w.alloc (.cells #[.complex .f64 (fw a) (fw b)] 36)) 36 #[.complex .f64 0 0]; simpa using this
    have c0 : w1.cell? ⟨w.heap.size + 1, 0, none⟩ = some (.complex .f64 0 0) := R1.cell 0
    have f0 : w1.frozen? ⟨w.heap.size + 1, 0, none⟩ = false := R1.free 0
    have HW1 : Hid (Below w.heap.size w w1) := hide (by rw [← hw]; exact ((Below.refl _ _).alloc (Nat.le_refl _) _).alloc (by simp) _)
    clear hw
    go_wp2_with fail
    have d0 := (R1.store 0 (.complex .f64 0 0)).cell 0
    refine bodyPost_ret (v := .tuple #[.agg #[.complex .f64 0 0], .bool false]) (by simp [results, Try.results31, go_sem, d0]) rfl ⟨by rw [fw_zero], ?_⟩
    exact HW1.out.setCell (by simp) _
  · have hst := st_cx
    go_enter Try.func31, Try.ntmps31
    go_wp2_with fail
    refine (HBT.out _).mono ?_
    rintro e w1 ⟨rfl, hw⟩
    have R1 : Blk w1 (w.heap.size + 1) 36 #[.complex .f64 0 0] := by rw [← hw]; have := Blk.born (w.alloc (.cells #[.complex .f64 (fw a) (fw b)] 36)) 36 #[.complex .f64 0 0]; simpa using this
    have c0 : w1.cell? ⟨w.heap.size + 1, 0, none⟩ = some (.complex .f64 0 0) := R1.cell 0
    have f0 : w1.frozen? ⟨w.heap.size + 1, 0, none⟩ = false := R1.free 0
    have HW1 : Hid (Below w.heap.size w w1) := hide (by rw [← hw]; exact ((Below.refl _ _).alloc (Nat.le_refl _) _).alloc (by simp) _)
    clear hw
    go_wp2_with fail
    have d0 := (R1.store 0 (.complex .f64 (fw x) (fw y))).cell 0
    refine bodyPost_ret (v := .tuple #[.agg #[.complex .f64 (fw x) (fw y)], .bool true]) (by simp [results, Try.results31, go_sem, d0]) rfl ⟨rfl, ?_⟩
    exact HW1.out.setCell (by simp) _

theorem room_bound {a b side ini r : Int} (ha : Am a) (hb : Am b) (h : roomS a b side ini = r) : -4503599627370496 ≤ r ∧ r ≤ 4503601774854143 := by
  unfold roomS at h
  unfold Am at ha hb
  split at h
  · rename_i hm
    have := hm.2
    split at h <;> omega
  · omega
theorem room9_q (a b side ini r : Int) (w : World) (ha : Hid (Am a)) (hb : Hid (Am b)) (h : Hid (roomS a b side ini = r)) : Calls Try.prog 23 #[.agg #[.complex .f64 (fw a) (fw b)], .int .i64 side, .int .i64 ini] w fun e w' => e = .returned (.int .i64 r) ∧ Below w.heap.size w w' := by
  rw [← h.out]; exact room9 a b side ini w ha hb
set_option maxRecDepth 10000 in
theorem take11_may (a b side n ini : Int) (w : World) (ha : Hid (Am a)) (hb : Hid (Am b)) (hm : Hid (¬ mayW side ini)) : Calls Try.prog 22 #[.agg #[.complex .f64 (fw a) (fw b)], .int .i64 side, .int .i64 n, .int .i64 ini] w (WPost 0 0 false w) := by
  have hst := st_cx
  go_enter Try.func22, Try.ntmps22
  go_wp2_with fail
  refine (may16_no side ini _ hm.out).mono ?_
  rintro e w1 ⟨rfl, hw⟩
  have hb1 : Below ((w.alloc (.cells #[.complex .f64 (fw a) (fw b)] 36)).alloc (.cells #[.complex .f64 0 0] 36)).heap.size ((w.alloc (.cells #[.complex .f64 (fw a) (fw b)] 36)).alloc (.cells #[.complex .f64 0 0] 36)) w1 := by rw [← hw]; exact Below.refl _ _
  clear hw
  have B1 := ((Blk.born w 36 #[.complex .f64 (fw a) (fw b)]).alloc (.cells #[.complex .f64 0 0] 36)).kept hb1
  have R1 : Blk w1 (w.heap.size + 1) 36 #[.complex .f64 0 0] := by have := (Blk.born (w.alloc (.cells #[.complex .f64 (fw a) (fw b)] 36)) 36 #[.complex .f64 0 0]).kept hb1; simpa using this
  have k0 : w1.cell? ⟨w.heap.size, 0, none⟩ = some (.complex .f64 (fw a) (fw b)) := B1.cell 0
  have c0 : w1.cell? ⟨w.heap.size + 1, 0, none⟩ = some (.complex .f64 0 0) := R1.cell 0
  have f0 : w1.frozen? ⟨w.heap.size + 1, 0, none⟩ = false := R1.free 0
  have HW1 := hide (below_base2 hb1)
  clear hb1
  go_wp2_with fail
  have RR := (R1.store 0 (.complex .f64 0 0))
  have d0 := RR.cell 0
  refine bodyPost_ret (v := .tuple #[.agg #[.complex .f64 0 0], .bool false]) (by simp [results, Try.results22, go_sem, d0]) rfl ⟨by rw [fw_zero], ?_⟩
  exact (HW1.out.setCell (by simp) (.complex .f64 0 0))

set_option maxRecDepth 10000 in
theorem take11_neg (a b side n ini : Int) (w : World) (ha : Hid (Am a)) (hb : Hid (Am b)) (hm : Hid (mayW side ini)) (hn : n < 0) : Calls Try.prog 22 #[.agg #[.complex .f64 (fw a) (fw b)], .int .i64 side, .int .i64 n, .int .i64 ini] w (WPost 0 0 false w) := by
  have hst := st_cx
  go_enter Try.func22, Try.ntmps22
  go_wp2_with fail
  refine (may16_yes side ini _ hm.out).mono ?_
  rintro e w1 ⟨rfl, hw⟩
  have hb1 : Below ((w.alloc (.cells #[.complex .f64 (fw a) (fw b)] 36)).alloc (.cells #[.complex .f64 0 0] 36)).heap.size ((w.alloc (.cells #[.complex .f64 (fw a) (fw b)] 36)).alloc (.cells #[.complex .f64 0 0] 36)) w1 := by rw [← hw]; exact Below.refl _ _
  clear hw
  have B1 := ((Blk.born w 36 #[.complex .f64 (fw a) (fw b)]).alloc (.cells #[.complex .f64 0 0] 36)).kept hb1
  have R1 : Blk w1 (w.heap.size + 1) 36 #[.complex .f64 0 0] := by have := (Blk.born (w.alloc (.cells #[.complex .f64 (fw a) (fw b)] 36)) 36 #[.complex .f64 0 0]).kept hb1; simpa using this
  have k0 : w1.cell? ⟨w.heap.size, 0, none⟩ = some (.complex .f64 (fw a) (fw b)) := B1.cell 0
  have c0 : w1.cell? ⟨w.heap.size + 1, 0, none⟩ = some (.complex .f64 0 0) := R1.cell 0
  have f0 : w1.frozen? ⟨w.heap.size + 1, 0, none⟩ = false := R1.free 0
  have HW1 := hide (below_base2 hb1)
  clear hb1
  go_wp2_with fail
  have RR := (R1.store 0 (.complex .f64 0 0))
  have d0 := RR.cell 0
  refine bodyPost_ret (v := .tuple #[.agg #[.complex .f64 0 0], .bool false]) (by simp [results, Try.results22, go_sem, d0]) rfl ⟨by rw [fw_zero], ?_⟩
  exact (HW1.out.setCell (by simp) (.complex .f64 0 0))

set_option maxRecDepth 10000 in
theorem take11_zero (a b side n ini x y : Int) (q : Bool) (w : World) (ha : Hid (Am a)) (hb : Hid (Am b)) (hm : Hid (mayW side ini)) (hn0 : n = 0) (hq : Hid (moveS a b side 0 = (x, y, q))) : Calls Try.prog 22 #[.agg #[.complex .f64 (fw a) (fw b)], .int .i64 side, .int .i64 n, .int .i64 ini] w (WPost x y q w) := by
  subst hn0
  have hs := hide hm.out.1
  have hst := st_cx
  go_enter Try.func22, Try.ntmps22
  go_wp2_with fail
  refine (may16_yes side ini _ hm.out).mono ?_
  rintro e w1 ⟨rfl, hw⟩
  have hb1 : Below ((w.alloc (.cells #[.complex .f64 (fw a) (fw b)] 36)).alloc (.cells #[.complex .f64 0 0] 36)).heap.size ((w.alloc (.cells #[.complex .f64 (fw a) (fw b)] 36)).alloc (.cells #[.complex .f64 0 0] 36)) w1 := by rw [← hw]; exact Below.refl _ _
  clear hw
  have B1 := ((Blk.born w 36 #[.complex .f64 (fw a) (fw b)]).alloc (.cells #[.complex .f64 0 0] 36)).kept hb1
  have R1 : Blk w1 (w.heap.size + 1) 36 #[.complex .f64 0 0] := by have := (Blk.born (w.alloc (.cells #[.complex .f64 (fw a) (fw b)] 36)) 36 #[.complex .f64 0 0]).kept hb1; simpa using this
  have k0 : w1.cell? ⟨w.heap.size, 0, none⟩ = some (.complex .f64 (fw a) (fw b)) := B1.cell 0
  have c0 : w1.cell? ⟨w.heap.size + 1, 0, none⟩ = some (.complex .f64 0 0) := R1.cell 0
  have f0 : w1.frozen? ⟨w.heap.size + 1, 0, none⟩ = false := R1.free 0
  have HW1 := hide (below_base2 hb1)
  clear hb1
  go_wp2_with fail
  refine (mv19 a b side (0) x y q _ ha hb hs hq).mono ?_
  rintro e w3 ⟨rfl, hb3⟩
  have B3 := B1.kept hb3
  have R3 := R1.kept hb3
  have HW3 := hide (below_next HW1.out hb3)
  clear k0 c0 f0
  have k0 : w3.cell? ⟨w.heap.size, 0, none⟩ = some (.complex .f64 (fw a) (fw b)) := B3.cell 0
  have c0 : w3.cell? ⟨w.heap.size + 1, 0, none⟩ = some (.complex .f64 0 0) := R3.cell 0
  have f0 : w3.frozen? ⟨w.heap.size + 1, 0, none⟩ = false := R3.free 0
  clear hb3
  go_wp2_with fail
  have d0 := (R3.store 0 (.complex .f64 (fw x) (fw y))).cell 0
  refine bodyPost_ret (v := .tuple #[.agg #[.complex .f64 (fw x) (fw y)], .bool q]) (by simp [results, Try.results22, go_sem, d0]) rfl ⟨rfl, ?_⟩
  exact (HW3.out.setCell (by simp) (.complex .f64 (fw x) (fw y)))

set_option maxRecDepth 10000 in
theorem take11_much (a b side n ini r : Int) (w : World) (ha : Hid (Am a)) (hb : Hid (Am b)) (hm : Hid (mayW side ini)) (hn : 0 < n) (hr : Hid (roomS a b side ini = r)) (hrn : r < n) : Calls Try.prog 22 #[.agg #[.complex .f64 (fw a) (fw b)], .int .i64 side, .int .i64 n, .int .i64 ini] w (WPost 0 0 false w) := by
  have hst := st_cx
  go_enter Try.func22, Try.ntmps22
  go_wp2_with fail
  refine (may16_yes side ini _ hm.out).mono ?_
  rintro e w1 ⟨rfl, hw⟩
  have hb1 : Below ((w.alloc (.cells #[.complex .f64 (fw a) (fw b)] 36)).alloc (.cells #[.complex .f64 0 0] 36)).heap.size ((w.alloc (.cells #[.complex .f64 (fw a) (fw b)] 36)).alloc (.cells #[.complex .f64 0 0] 36)) w1 := by rw [← hw]; exact Below.refl _ _
  clear hw
  have B1 := ((Blk.born w 36 #[.complex .f64 (fw a) (fw b)]).alloc (.cells #[.complex .f64 0 0] 36)).kept hb1
  have R1 : Blk w1 (w.heap.size + 1) 36 #[.complex .f64 0 0] := by have := (Blk.born (w.alloc (.cells #[.complex .f64 (fw a) (fw b)] 36)) 36 #[.complex .f64 0 0]).kept hb1; simpa using this
  have k0 : w1.cell? ⟨w.heap.size, 0, none⟩ = some (.complex .f64 (fw a) (fw b)) := B1.cell 0
  have c0 : w1.cell? ⟨w.heap.size + 1, 0, none⟩ = some (.complex .f64 0 0) := R1.cell 0
  have f0 : w1.frozen? ⟨w.heap.size + 1, 0, none⟩ = false := R1.free 0
  have HW1 := hide (below_base2 hb1)
  clear hb1
  go_wp2_with fail
  refine (room9_q a b side ini r _ ha hb hr).mono ?_
  rintro e w2 ⟨rfl, hb2⟩
  have B2 := B1.kept hb2
  have R2 := R1.kept hb2
  have HW2 := hide (below_next HW1.out hb2)
  clear k0 c0 f0
  have k0 : w2.cell? ⟨w.heap.size, 0, none⟩ = some (.complex .f64 (fw a) (fw b)) := B2.cell 0
  have c0 : w2.cell? ⟨w.heap.size + 1, 0, none⟩ = some (.complex .f64 0 0) := R2.cell 0
  have f0 : w2.frozen? ⟨w.heap.size + 1, 0, none⟩ = false := R2.free 0
  clear hb2
  go_wp2_with fail
  have RR := (R2.store 0 (.complex .f64 0 0))
  have d0 := RR.cell 0
  refine bodyPost_ret (v := .tuple #[.agg #[.complex .f64 0 0], .bool false]) (by simp [results, Try.results22, go_sem, d0]) rfl ⟨by rw [fw_zero], ?_⟩
  exact (HW2.out.setCell (by simp) (.complex .f64 0 0))

set_option maxRecDepth 10000 in
theorem take11_some (a b side n ini x y r : Int) (q : Bool) (w : World) (ha : Hid (Am a)) (hb : Hid (Am b)) (hm : Hid (mayW side ini)) (hn : 0 < n) (hr : Hid (roomS a b side ini = r)) (hrn : n ≤ r) (hq : Hid (moveS a b side (-n) = (x, y, q))) : Calls Try.prog 22 #[.agg #[.complex .f64 (fw a) (fw b)], .int .i64 side, .int .i64 n, .int .i64 ini] w (WPost x y q w) := by
  have hs := hide hm.out.1
  have hrb := (room_bound ha.out hb.out hr.out).2
  have hst := st_cx
  go_enter Try.func22, Try.ntmps22
  go_wp2_with fail
  refine (may16_yes side ini _ hm.out).mono ?_
  rintro e w1 ⟨rfl, hw⟩
  have hb1 : Below ((w.alloc (.cells #[.complex .f64 (fw a) (fw b)] 36)).alloc (.cells #[.complex .f64 0 0] 36)).heap.size ((w.alloc (.cells #[.complex .f64 (fw a) (fw b)] 36)).alloc (.cells #[.complex .f64 0 0] 36)) w1 := by rw [← hw]; exact Below.refl _ _
  clear hw
  have B1 := ((Blk.born w 36 #[.complex .f64 (fw a) (fw b)]).alloc (.cells #[.complex .f64 0 0] 36)).kept hb1
  have R1 : Blk w1 (w.heap.size + 1) 36 #[.complex .f64 0 0] := by have := (Blk.born (w.alloc (.cells #[.complex .f64 (fw a) (fw b)] 36)) 36 #[.complex .f64 0 0]).kept hb1; simpa using this
  have k0 : w1.cell? ⟨w.heap.size, 0, none⟩ = some (.complex .f64 (fw a) (fw b)) := B1.cell 0
  have c0 : w1.cell? ⟨w.heap.size + 1, 0, none⟩ = some (.complex .f64 0 0) := R1.cell 0
  have f0 : w1.frozen? ⟨w.heap.size + 1, 0, none⟩ = false := R1.free 0
  have HW1 := hide (below_base2 hb1)
  clear hb1
  go_wp2_with fail
  refine (room9_q a b side ini r _ ha hb hr).mono ?_
  rintro e w2 ⟨rfl, hb2⟩
  have B2 := B1.kept hb2
  have R2 := R1.kept hb2
  have HW2 := hide (below_next HW1.out hb2)
  clear k0 c0 f0
  have k0 : w2.cell? ⟨w.heap.size, 0, none⟩ = some (.complex .f64 (fw a) (fw b)) := B2.cell 0
  have c0 : w2.cell? ⟨w.heap.size + 1, 0, none⟩ = some (.complex .f64 0 0) := R2.cell 0
  have f0 : w2.frozen? ⟨w.heap.size + 1, 0, none⟩ = false := R2.free 0
  clear hb2
  go_wp2_with fail
  refine (mv19 a b side (-n) x y q _ ha hb hs hq).mono ?_
  rintro e w3 ⟨rfl, hb3⟩
  have B3 := B2.kept hb3
  have R3 := R2.kept hb3
  have HW3 := hide (below_next HW2.out hb3)
  clear k0 c0 f0
  have k0 : w3.cell? ⟨w.heap.size, 0, none⟩ = some (.complex .f64 (fw a) (fw b)) := B3.cell 0
  have c0 : w3.cell? ⟨w.heap.size + 1, 0, none⟩ = some (.complex .f64 0 0) := R3.cell 0
  have f0 : w3.frozen? ⟨w.heap.size + 1, 0, none⟩ = false := R3.free 0
  clear hb3
  go_wp2_with fail
  have d0 := (R3.store 0 (.complex .f64 (fw x) (fw y))).cell 0
  refine bodyPost_ret (v := .tuple #[.agg #[.complex .f64 (fw x) (fw y)], .bool q]) (by simp [results, Try.results22, go_sem, d0]) rfl ⟨rfl, ?_⟩
  exact (HW3.out.setCell (by simp) (.complex .f64 (fw x) (fw y)))

theorem take11 (a b side n ini x y : Int) (q : Bool) (w : World) (ha : Hid (Am a)) (hb : Hid (Am b)) (h : Hid (takeS a b side n ini = (x, y, q))) : Calls Try.prog 22 #[.agg #[.complex .f64 (fw a) (fw b)], .int .i64 side, .int .i64 n, .int .i64 ini] w (WPost x y q w) := by
  have h := h.out
  unfold takeS at h
  by_cases hm : mayW side ini
  · by_cases hn : n < 0
    · rw [if_pos (.inr (.inl hn))] at h
      obtain ⟨rfl, rfl, rfl⟩ : 0 = x ∧ 0 = y ∧ false = q := by simpa using h
      exact take11_neg a b side n ini w ha hb (hide hm) hn
    · by_cases h0 : n = 0
      · subst h0
        rw [if_neg (by simp [hm])] at h
        exact take11_zero a b side 0 ini x y q w ha hb (hide hm) rfl (hide h)
      · by_cases hr : roomS a b side ini < n
        · rw [if_pos (.inr (.inr ⟨by omega, hr⟩))] at h
          obtain ⟨rfl, rfl, rfl⟩ : 0 = x ∧ 0 = y ∧ false = q := by simpa using h
          exact take11_much a b side n ini _ w ha hb (hide hm) (by omega) (hide rfl) hr
        · rw [if_neg (by rintro (h1 | h1 | h1); exact h1 hm; exact hn h1; exact hr h1.2)] at h
          exact take11_some a b side n ini x y _ q w ha hb (hide hm) (by omega) (hide rfl) (by omega) (hide h)
  · rw [if_pos (.inl hm)] at h
    obtain ⟨rfl, rfl, rfl⟩ : 0 = x ∧ 0 = y ∧ false = q := by simpa using h
    exact take11_may a b side n ini w ha hb (hide hm)

end Go.Proofs.Ytngligcjcdpnhaa
