/- Whole numbers of 2^53 and more, as float64, lie beyond the amounts. -/
import Derived.Test.YtoegcmklilmnfaaK
namespace Go.Proofs.Ytoegcmklilmnfaa
open Go.RowKit

theorem cut_bounds (neg : Bool) (m d : Nat) (h : m.log2 = 52 + d) : 4503599627370496 ≤ Ieee.Toward.even.cut neg m d ∧ Ieee.Toward.even.cut neg m d ≤ 9007199254740992 := by
  have hm0 : m ≠ 0 := by rintro rfl; simp at h; omega
  have h1 := Nat.log2_self_le hm0
  have h2 := @Nat.lt_log2_self m
  rw [h] at h1 h2
  have hm : min d (m.log2 + 2) = d := by omega
  unfold Ieee.Toward.cut
  rw [hm, Nat.one_shiftLeft]
  dsimp only
  have hp := Nat.two_pow_pos d
  have l1 : 4503599627370496 ≤ m / 2 ^ d := by
    rw [Nat.le_div_iff_mul_le hp]
    calc 4503599627370496 * 2 ^ d = 2 ^ (52 + d) := by rw [Nat.pow_add]
      _ ≤ m := h1
  have l2 : m / 2 ^ d < 9007199254740992 := by
    rw [Nat.div_lt_iff_lt_mul hp]
    calc m < 2 ^ (52 + d + 1) := h2
      _ = 9007199254740992 * 2 ^ d := by rw [show 52 + d + 1 = 53 + d from by omega, Nat.pow_add]
  obtain ⟨q, hq⟩ : ∃ q, m / 2 ^ d = q := ⟨_, rfl⟩
  rw [hq] at l1 l2 ⊢
  have hb : ∀ b : Bool, b.toNat ≤ 1 := by intro b; cases b <;> decide
  exact ⟨by omega, by have := hb (decide (2 ^ d < 2 * (m % 2 ^ d)) || (2 ^ d == 2 * (m % 2 ^ d) && q % 2 == 1)); omega⟩

theorem rung_arith (L c : Nat) (h1 : 1 ≤ L) (h2 : L ≤ 8) (c1 : 4503599627370496 ≤ c) (c2 : c ≤ 9007199254740992) : (L + 1074) * 4503599627370496 + c ≤ 9218868437227405312 ∧ 4845873199050653696 ≤ (L + 1074) * 4503599627370496 + c ∧ (L + 1074) * 4503599627370496 + c < 9218868437227405312 := by omega
theorem nearest_big (neg : Bool) (m : Nat) (h : 2 ^ 53 ≤ m) (h2 : m < 2 ^ 61) : ∃ r, Ieee.double.nearest neg m 0 = Ieee.double.word neg r ∧ 4845873199050653696 ≤ r ∧ r < 9218868437227405312 := by
  have hm0 : m ≠ 0 := by have := Nat.two_pow_pos 53; omega
  have hl : 53 ≤ m.log2 := (Nat.le_log2 hm0).2 h
  have hu : m.log2 < 61 := (Nat.log2_lt hm0).2 h2
  have hleast : Ieee.double.leastPlace = -1074 := by decide
  have hfrac : Ieee.double.fractionBits = 52 := rfl
  have hbin : Ieee.double.binade = 4503599627370496 := rfl
  have hinf : Ieee.double.infRung = 9218868437227405312 := rfl
  obtain ⟨L, hL⟩ : ∃ L, m.log2 = 52 + L := ⟨m.log2 - 52, by omega⟩
  have hc := cut_bounds neg m L hL
  have hL1 : 1 ≤ L := by omega
  have hL2 : L ≤ 8 := by omega
  clear h h2
  unfold Ieee.Format.nearest
  rw [if_neg hm0]
  simp only [hleast, hfrac, hbin, hinf]
  have hlast : max ((0 : Int) + (m.log2 : Int) - ((52 : Nat) : Int)) (-1074) = (L : Int) := by omega
  rw [hlast, show ((0 : Int) - (L : Int)).toNat = 0 from by omega, show ((L : Int) - 0).toNat = L from by omega, Nat.shiftLeft_zero, show ((L : Int) - -1074).toNat = L + 1074 from by omega]
  clear hlast hleast hfrac hbin hinf hl hu
  obtain ⟨c, hcc⟩ : ∃ c, Ieee.Toward.even.cut neg m L = c := ⟨_, rfl⟩
  rw [hcc] at hc ⊢
  have ha := rung_arith L c hL1 hL2 hc.1 hc.2
  rw [Nat.min_eq_left ha.1]
  exact ⟨_, rfl, ha.2.1, ha.2.2⟩

theorem read_big (s : Bool) (r : Nat) (h1 : 4845873199050653696 ≤ r) (h2 : r < 9218868437227405312) : ∃ M k : Nat, Ieee.double.read (Ieee.double.word s r) = .number s M (k : Int) ∧ 4503599627370496 ≤ M ∧ 1 ≤ k := by
  have hsw : Ieee.double.signWeight = 9223372036854775808 := rfl
  have hbin : Ieee.double.binade = 4503599627370496 := rfl
  have hinf : Ieee.double.infRung = 9218868437227405312 := rfl
  have hleast : Ieee.double.leastPlace = -1074 := by decide
  have hneg : ((Ieee.double.word s r) / Ieee.double.signWeight % 2 == 1) = s := by
    rw [hsw]; unfold Ieee.Format.word; rw [hsw]
    cases s
    · simp only [Bool.false_eq_true, if_false]; rw [Nat.div_eq_of_lt (by omega)]; rfl
    · simp only [if_true]; rw [Nat.add_div_left _ (by omega), Nat.div_eq_of_lt (by omega)]; rfl
  have hmod : (Ieee.double.word s r) % Ieee.double.signWeight = r := by
    rw [hsw]; unfold Ieee.Format.word; rw [hsw]
    cases s
    · simp only [Bool.false_eq_true, if_false]; exact Nat.mod_eq_of_lt (by omega)
    · simp only [if_true]; rw [Nat.add_mod_left]; exact Nat.mod_eq_of_lt (by omega)
  unfold Ieee.Format.read
  simp only [hneg, hmod, hbin, hinf, hleast]
  rw [if_neg (by omega), if_pos h2]
  refine ⟨4503599627370496 + r % 4503599627370496, r / 4503599627370496 - 1075, ?_, by omega, by omega⟩
  congr 1
  omega

theorem signed_big (s : Bool) (M k : Nat) (hM : 4503599627370496 ≤ M) (hk : 1 ≤ k) : (s = true → Ieee.signed s M k ≤ -9007199254740992) ∧ (s = false → 9007199254740992 ≤ Ieee.signed s M k) := by
  have hp : 2 ≤ 2 ^ k := by
    calc 2 = 2 ^ 1 := rfl
      _ ≤ 2 ^ k := Nat.pow_le_pow_right (by decide) hk
  have hm : 9007199254740992 ≤ M * 2 ^ k := by
    calc 9007199254740992 = 4503599627370496 * 2 := rfl
      _ ≤ M * 2 ^ k := Nat.mul_le_mul hM hp
  unfold Ieee.signed
  rw [Nat.shiftLeft_eq]
  constructor
  · rintro rfl; rw [if_pos rfl]; omega
  · rintro rfl; rw [if_neg (by decide)]; omega

theorem far_word (s : Bool) (r : Nat) (h1 : 4845873199050653696 ≤ r) (h2 : r < 9218868437227405312) : Far (Ieee.double.word s r) := by
  obtain ⟨M, k, hr, hM, hk⟩ := read_big s r h1 h2
  have hs := signed_big s M k hM hk
  have r1 : Ieee.double.read 14064741636278059008 = .number true 4503599627370496 0 := by rw [word_lo, read_wd _ _ (by decide)]; decide
  have r2 : Ieee.double.read 4841369599423283200 = .number false 4503599627370496 0 := by rw [word_hi, read_wd _ _ (by decide)]; decide
  have o1 : FloatKind.f64.format.order (Ieee.double.word s r) 14064741636278059008 = some (compare (Ieee.signed s M k) (-4503599627370496)) := by
    show Ieee.double.order _ _ = _
    unfold Ieee.Format.order
    rw [hr, r1]
    show some (compare (Ieee.signed s M ((k : Int) - min (k : Int) 0).toNat) (Ieee.signed true 4503599627370496 ((0 : Int) - min (k : Int) 0).toNat)) = _
    rw [show ((k : Int) - min (k : Int) 0).toNat = k from by omega, show ((0 : Int) - min (k : Int) 0).toNat = 0 from by omega]
    rfl
  have o2 : FloatKind.f64.format.order (Ieee.double.word s r) 4841369599423283200 = some (compare (Ieee.signed s M k) 4503599627370496) := by
    show Ieee.double.order _ _ = _
    unfold Ieee.Format.order
    rw [hr, r2]
    show some (compare (Ieee.signed s M ((k : Int) - min (k : Int) 0).toNat) (Ieee.signed false 4503599627370496 ((0 : Int) - min (k : Int) 0).toNat)) = _
    rw [show ((k : Int) - min (k : Int) 0).toNat = k from by omega, show ((0 : Int) - min (k : Int) 0).toNat = 0 from by omega]
    rfl
  cases s
  · right
    have := hs.2 rfl
    rw [o1, o2, Int.compare_eq_gt.2 (by omega), Int.compare_eq_gt.2 (by omega)]
    exact ⟨rfl, rfl⟩
  · left
    have := hs.1 rfl
    rw [o1, Int.compare_eq_lt.2 (by omega)]

/-- The word of a whole number, however great. -/
def gw (n : Int) : Nat := floatOfInt .f64 n
theorem gw_am (n : Int) (h : Am n) : gw n = fw n := of_int n (by unfold Am at h; omega)
theorem far_any (n : Int) (h1 : -1152921504606846976 ≤ n) (h2 : n ≤ 1152921504606846976) (hf : ¬ Am n) : Far (gw n) := by
  by_cases h : n.natAbs < 2 ^ 53
  · unfold gw; rw [of_int n h]; exact far_fw n h (by unfold Am at hf; omega)
  · obtain ⟨r, hr, a, b⟩ := nearest_big (decide (n < 0)) n.natAbs (by omega) (by omega)
    have e : gw n = Ieee.double.word (decide (n < 0)) r := by
      rw [← hr]
      simp [gw, floatOfInt, FloatKind.nearest, FloatKind.encode, FloatKind.format, Ieee.Format.write]
    rw [e]; exact far_word _ _ a b
end Go.Proofs.Ytoegcmklilmnfaa
