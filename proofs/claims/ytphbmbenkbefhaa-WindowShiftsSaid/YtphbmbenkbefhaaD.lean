/- Whole numbers as float64: their words, sums, products, order. Plain laws, with no program in sight. -/
import Derived.Test.YtphbmbenkbefhaaK0
import Derived.Laws.FloatArith
import Derived.Laws.ComplexArith
namespace Go.Proofs.Ytphbmbenkbefhaa
open Go.RowKit

/-- The rung of a whole number below 2^53. -/
def rung (m : Nat) : Nat := if m = 0 then 0 else (m.log2 + 1022) * 4503599627370496 + m * 2 ^ (52 - m.log2)
/-- The word of a sign and a whole number. -/
def wd (s : Bool) (m : Nat) : Nat := Ieee.double.word s (rung m)
/-- The digits behind the point of its reading. -/
def dgt (m : Nat) : Nat := if m = 0 then 1074 else 52 - m.log2

theorem log_le {m : Nat} (h0 : m ≠ 0) (h : m < 2 ^ 53) : m.log2 ≤ 52 := by
  have := (Nat.log2_lt h0).2 h
  omega
theorem mant {m : Nat} (h0 : m ≠ 0) (h : m < 2 ^ 53) : 4503599627370496 ≤ m * 2 ^ (52 - m.log2) ∧ m * 2 ^ (52 - m.log2) < 9007199254740992 := by
  have hl := log_le h0 h
  have h1 := Nat.log2_self_le h0
  have h2 := (@Nat.lt_log2_self m)
  constructor
  · calc 4503599627370496 = 2 ^ 52 := rfl
      _ = 2 ^ m.log2 * 2 ^ (52 - m.log2) := by rw [← Nat.pow_add]; congr 1; omega
      _ ≤ _ := Nat.mul_le_mul_right _ h1
  · calc m * 2 ^ (52 - m.log2) < 2 ^ (m.log2 + 1) * 2 ^ (52 - m.log2) := Nat.mul_lt_mul_of_pos_right h2 (Nat.two_pow_pos _)
      _ = 2 ^ 53 := by rw [← Nat.pow_add]; congr 1; omega
      _ = 9007199254740992 := rfl

theorem cut_zero (neg : Bool) (n : Nat) : Ieee.Toward.even.cut neg n 0 = n := by
  simp [Ieee.Toward.cut, Nat.mod_one]

theorem cut_exact (way : Ieee.Toward) (neg : Bool) (q d : Nat) (hq : q ≠ 0) : way.cut neg (q * 2 ^ d) d = q := by
  have hl : d ≤ (q * 2 ^ d).log2 := by
    rw [Nat.le_log2 (by have := Nat.two_pow_pos d; exact Nat.mul_ne_zero hq (by omega))]
    exact Nat.le_mul_of_pos_left _ (by omega)
  have hm : min d ((q * 2 ^ d).log2 + 2) = d := by omega
  unfold Ieee.Toward.cut
  rw [hm, Nat.one_shiftLeft]
  dsimp only
  rw [Nat.mul_div_cancel _ (Nat.two_pow_pos d), Nat.mul_mod_left]
  have := Nat.two_pow_pos d
  cases way <;> simp <;> omega

theorem log_shift {m : Nat} (h0 : m ≠ 0) (k : Nat) : (m * 2 ^ k).log2 = m.log2 + k := by
  induction k with
  | zero => simp
  | succ k ih =>
    have : m * 2 ^ k ≠ 0 := Nat.mul_ne_zero h0 (by have := Nat.two_pow_pos k; omega)
    rw [Nat.pow_succ, ← Nat.mul_assoc, Nat.mul_comm _ 2, Nat.log2_two_mul this, ih]; omega

/-- A whole number below 2^53 is written as it is, however many zeros stand behind its point. -/
theorem nearest_exact (neg : Bool) (m k : Nat) (h : m < 2 ^ 53) : Ieee.double.nearest neg (m * 2 ^ k) (-(k : Int)) = wd neg m := by
  by_cases h0 : m = 0
  · subst h0; simp [Ieee.Format.nearest, wd, rung]
  · have hl := log_le h0 h
    have hM := mant h0 h
    have hne : m * 2 ^ k ≠ 0 := Nat.mul_ne_zero h0 (by have := Nat.two_pow_pos k; omega)
    have hlog := log_shift h0 k
    have hleast : Ieee.double.leastPlace = -1074 := by decide
    have hfrac : Ieee.double.fractionBits = 52 := rfl
    have hbin : Ieee.double.binade = 4503599627370496 := rfl
    have hinf : Ieee.double.infRung = 9218868437227405312 := rfl
    unfold Ieee.Format.nearest
    rw [if_neg hne]
    simp only [hlog, hleast, hfrac, hbin, hinf]
    have hlast : max (-(k : Int) + ((m.log2 + k : Nat) : Int) - ((52 : Nat) : Int)) (-1074) = (m.log2 : Int) - 52 := by omega
    rw [hlast]
    have hkept : Ieee.Toward.even.cut neg ((m * 2 ^ k) <<< (-(k : Int) - ((m.log2 : Int) - 52)).toNat) ((m.log2 : Int) - 52 - -(k : Int)).toNat = m * 2 ^ (52 - m.log2) := by
      by_cases hc : m.log2 + k ≤ 52
      · have e1 : (-(k : Int) - ((m.log2 : Int) - 52)).toNat = 52 - m.log2 - k := by omega
        have e2 : ((m.log2 : Int) - 52 - -(k : Int)).toNat = 0 := by omega
        rw [e1, e2, cut_zero, Nat.shiftLeft_eq, Nat.mul_assoc, ← Nat.pow_add]
        congr 2; omega
      · have e1 : (-(k : Int) - ((m.log2 : Int) - 52)).toNat = 0 := by omega
        have e2 : ((m.log2 : Int) - 52 - -(k : Int)).toNat = m.log2 + k - 52 := by omega
        rw [e1, e2, Nat.shiftLeft_zero]
        have : m * 2 ^ k = m * 2 ^ (52 - m.log2) * 2 ^ (m.log2 + k - 52) := by
          rw [Nat.mul_assoc, ← Nat.pow_add]; congr 2; omega
        rw [this]
        exact cut_exact _ _ _ _ (by omega)
    rw [hkept]
    have e3 : ((m.log2 : Int) - 52 - -1074).toNat = m.log2 + 1022 := by omega
    rw [e3, wd, rung, if_neg h0, Nat.min_eq_left]
    obtain ⟨M, hMM⟩ : ∃ M, m * 2 ^ (52 - m.log2) = M := ⟨_, rfl⟩
    obtain ⟨L, hLL⟩ : ∃ L, m.log2 = L := ⟨_, rfl⟩
    rw [hMM] at hM ⊢
    rw [hLL] at hl ⊢
    clear hkept hlast e3 hlog hne
    omega

theorem rung_lt {m : Nat} (h : m < 2 ^ 53) : rung m < 4850376798678024192 := by
  unfold rung
  split
  · omega
  · rename_i h0
    have hl := log_le h0 h
    have hM := mant h0 h
    omega

theorem read_wd (s : Bool) (m : Nat) (h : m < 2 ^ 53) : Ieee.double.read (wd s m) = .number s (m * 2 ^ dgt m) (-(dgt m : Int)) := by
  have hr := rung_lt h
  have hsw : Ieee.double.signWeight = 9223372036854775808 := rfl
  have hbin : Ieee.double.binade = 4503599627370496 := rfl
  have hinf : Ieee.double.infRung = 9218868437227405312 := rfl
  have hleast : Ieee.double.leastPlace = -1074 := by decide
  have hneg : ((wd s m) / Ieee.double.signWeight % 2 == 1) = s := by
    rw [hsw]; unfold wd Ieee.Format.word; rw [hsw]
    cases s
    · simp only [Bool.false_eq_true, if_false]; rw [Nat.div_eq_of_lt (by omega)]; rfl
    · simp only [if_true]; rw [Nat.add_div_left _ (by omega), Nat.div_eq_of_lt (by omega)]; rfl
  have hmod : (wd s m) % Ieee.double.signWeight = rung m := by
    rw [hsw]; unfold wd Ieee.Format.word; rw [hsw]
    cases s
    · simp only [Bool.false_eq_true, if_false]; exact Nat.mod_eq_of_lt (by omega)
    · simp only [if_true]; rw [Nat.add_mod_left]; exact Nat.mod_eq_of_lt (by omega)
  unfold Ieee.Format.read
  simp only [hneg, hmod, hbin, hinf, hleast]
  by_cases h0 : m = 0
  · subst h0
    have z1 : rung 0 = 0 := rfl
    have z2 : dgt 0 = 1074 := rfl
    rw [z1, if_pos (by decide), Nat.zero_mul, z2]; rfl
  · have hl := log_le h0 h
    have hM := mant h0 h
    have hrg : rung m = (m.log2 + 1022) * 4503599627370496 + m * 2 ^ (52 - m.log2) := by rw [rung, if_neg h0]
    rw [hrg, if_neg (by omega), if_pos (by omega)]
    obtain ⟨f, hf⟩ : ∃ f, m * 2 ^ (52 - m.log2) = 4503599627370496 + f := ⟨m * 2 ^ (52 - m.log2) - 4503599627370496, by omega⟩
    have hd : dgt m = 52 - m.log2 := by rw [dgt, if_neg h0]
    rw [hd, hf]
    have e1 : ((m.log2 + 1022) * 4503599627370496 + (4503599627370496 + f)) % 4503599627370496 = f := by omega
    have e2 : ((m.log2 + 1022) * 4503599627370496 + (4503599627370496 + f)) / 4503599627370496 = m.log2 + 1023 := by omega
    have e3 : (-1074 : Int) + ((m.log2 + 1023 - 1 : Nat) : Int) = -((52 - m.log2 : Nat) : Int) := by omega
    rw [e1, e2, e3]

/-- A sign and a whole number, as an integer. -/
def sg (s : Bool) (m : Nat) : Int := if s then -(m : Int) else m
theorem signed_sg (s : Bool) (m k u : Nat) : Ieee.signed s (m * 2 ^ k) u = sg s m * ((2 ^ (k + u) : Nat) : Int) := by
  unfold Ieee.signed sg
  rw [Nat.shiftLeft_eq, Nat.mul_assoc, ← Nat.pow_add]
  cases s
  · simp
  · simp [Int.neg_mul]

theorem sum_wd (s t : Bool) (a b : Nat) (ha : a < 2 ^ 53) (hb : b < 2 ^ 53) (hab : (sg s a + sg t b).natAbs < 2 ^ 53) :
    Ieee.double.add (wd s a) (wd t b) = some (wd (if sg s a + sg t b = 0 then s && t else decide (sg s a + sg t b < 0)) (sg s a + sg t b).natAbs) := by
  unfold Ieee.Format.add
  rw [read_wd s a ha, read_wd t b hb]
  obtain ⟨i, hi⟩ : ∃ i, dgt a = i := ⟨_, rfl⟩
  obtain ⟨j, hj⟩ : ∃ j, dgt b = j := ⟨_, rfl⟩
  rw [hi, hj]
  simp only [Ieee.Datum.sum, Option.map_some]
  obtain ⟨K, hK⟩ : ∃ K, max i j = K := ⟨_, rfl⟩
  have hbase : min (-(i : Int)) (-(j : Int)) = -(K : Int) := by omega
  rw [hbase, signed_sg, signed_sg, show i + (-(i : Int) - -(K : Int)).toNat = K from by omega, show j + (-(j : Int) - -(K : Int)).toNat = K from by omega, ← Int.add_mul]
  obtain ⟨n, hn⟩ : ∃ n, sg s a + sg t b = n := ⟨_, rfl⟩
  rw [hn] at hab ⊢
  have hp : 0 < 2 ^ K := Nat.two_pow_pos K
  have hpi : (0 : Int) < ((2 ^ K : Nat) : Int) := by omega
  have e0 : (n * ((2 ^ K : Nat) : Int) = 0) = (n = 0) := by
    rw [Int.mul_eq_zero]; simp only [eq_iff_iff]; constructor
    · rintro (h | h)
      · exact h
      · omega
    · exact Or.inl
  have e1 : (n * ((2 ^ K : Nat) : Int) < 0) = (n < 0) := by
    simp only [eq_iff_iff]
    constructor
    · intro h
      apply Int.lt_of_not_ge
      intro h2
      have := Int.mul_nonneg h2 (Int.le_of_lt hpi)
      omega
    · intro h; exact Int.mul_neg_of_neg_of_pos h hpi
  simp only [e0, e1, Int.natAbs_mul, Int.natAbs_natCast]
  show some (Ieee.double.nearest _ _ _) = _
  rw [nearest_exact _ _ _ hab]

theorem mul_wd (s t : Bool) (a b : Nat) (ha : a < 2 ^ 53) (hb : b < 2 ^ 53) (hab : a * b < 2 ^ 53) : Ieee.double.mul (wd s a) (wd t b) = some (wd (s ^^ t) (a * b)) := by
  unfold Ieee.Format.mul
  rw [read_wd s a ha, read_wd t b hb]
  simp only [Ieee.Datum.product, Option.map_some]
  show some (Ieee.double.nearest _ _ _) = _
  rw [show a * 2 ^ dgt a * (b * 2 ^ dgt b) = a * b * 2 ^ (dgt a + dgt b) from by rw [Nat.pow_add]; exact Nat.mul_mul_mul_comm .., show (-(dgt a : Int) + -(dgt b : Int)) = -((dgt a + dgt b : Nat) : Int) from by omega, nearest_exact _ _ _ hab]

theorem sub_wd (s t : Bool) (a b : Nat) (ha : a < 2 ^ 53) (hb : b < 2 ^ 53) : Ieee.double.sub (wd s a) (wd t b) = Ieee.double.add (wd s a) (wd (!t) b) := by
  unfold Ieee.Format.add Ieee.Format.sub
  rw [read_wd s a ha, read_wd t b hb, read_wd (!t) b hb]; rfl

theorem order_wd (s t : Bool) (a b : Nat) (ha : a < 2 ^ 53) (hb : b < 2 ^ 53) : Ieee.double.order (wd s a) (wd t b) = some (compare (sg s a) (sg t b)) := by
  unfold Ieee.Format.order
  rw [read_wd s a ha, read_wd t b hb]
  obtain ⟨i, hi⟩ : ∃ i, dgt a = i := ⟨_, rfl⟩
  obtain ⟨j, hj⟩ : ∃ j, dgt b = j := ⟨_, rfl⟩
  rw [hi, hj]
  simp only [Ieee.Datum.order]
  obtain ⟨K, hK⟩ : ∃ K, max i j = K := ⟨_, rfl⟩
  have hbase : min (-(i : Int)) (-(j : Int)) = -(K : Int) := by omega
  rw [hbase, signed_sg, signed_sg, show i + (-(i : Int) - -(K : Int)).toNat = K from by omega, show j + (-(j : Int) - -(K : Int)).toNat = K from by omega]
  have hp : 0 < 2 ^ K := Nat.two_pow_pos K
  have hpi : (0 : Int) < ((2 ^ K : Nat) : Int) := by omega
  obtain ⟨x, hx⟩ : ∃ x, sg s a = x := ⟨_, rfl⟩
  obtain ⟨y, hy⟩ : ∃ y, sg t b = y := ⟨_, rfl⟩
  obtain ⟨p, hp⟩ : ∃ p, ((2 ^ K : Nat) : Int) = p := ⟨_, rfl⟩
  rw [hx, hy, hp]
  rw [hp] at hpi
  congr 1
  rcases Int.lt_trichotomy x y with h | h | h
  · rw [Int.compare_eq_lt.2 h, Int.compare_eq_lt.2 (Int.mul_lt_mul_of_pos_right h hpi)]
  · subst h; rw [Int.compare_eq_eq.2 rfl, Int.compare_eq_eq.2 rfl]
  · rw [Int.compare_eq_gt.2 h, Int.compare_eq_gt.2 (Int.mul_lt_mul_of_pos_right h hpi)]

theorem toInt_wd (s : Bool) (a : Nat) (ha : a < 2 ^ 53) : (Ieee.double.read (wd s a)).toInt .zero = some (sg s a) := by
  rw [read_wd s a ha]
  unfold Ieee.Datum.toInt Ieee.Datum.integral
  simp only [show (-(dgt a : Int)).toNat = 0 from by omega, show (- -(dgt a : Int)).toNat = dgt a from by omega, Nat.shiftLeft_zero]
  have : Ieee.Toward.zero.cut s (a * 2 ^ dgt a) (dgt a) = a := by
    by_cases h0 : a = 0
    · subst h0; simp [Ieee.Toward.cut]
    · exact cut_exact _ _ _ _ h0
  rw [this]
  unfold Ieee.signed sg
  simp
end Go.Proofs.Ytphbmbenkbefhaa
