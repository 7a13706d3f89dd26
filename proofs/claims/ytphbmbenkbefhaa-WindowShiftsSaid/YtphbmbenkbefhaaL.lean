/- Contracts: Swap, Move. -/
import Derived.Test.YtphbmbenkbefhaaK
namespace Go.Proofs.Ytphbmbenkbefhaa
open Go.RowKit

theorem fw_zero : fw 0 = 0 := by decide +kernel
theorem add_fw (a b : Int) (ha : a.natAbs < 2 ^ 53) (hb : b.natAbs < 2 ^ 53) (hab : (a + b).natAbs < 2 ^ 53) : floatBits .add .f64 (fw a) (fw b) = some (fw (a + b)) := by
  have := sum_wd (decide (a < 0)) (decide (b < 0)) a.natAbs b.natAbs ha hb (by rw [sg_fw, sg_fw]; exact hab)
  rw [sg_fw, sg_fw] at this
  show Ieee.double.add _ _ = _
  rw [show fw a = wd (decide (a < 0)) a.natAbs from rfl, show fw b = wd (decide (b < 0)) b.natAbs from rfl, this]
  congr 1
  unfold fw
  congr 1
  split
  · rename_i h
    by_cases h1 : a < 0 <;> by_cases h2 : b < 0 <;> simp [h1, h2, h]
    omega
  · rfl
theorem add_far (a b : Int) (ha : Am a) (hb : Am b) (h : ¬ Am (a + b)) : ∃ x, floatBits .add .f64 (fw a) (fw b) = some x ∧ Far x := by
  unfold Am at ha hb h
  by_cases h53 : (a + b).natAbs < 2 ^ 53
  · exact ⟨fw (a + b), add_fw a b (by omega) (by omega) h53, far_fw _ h53 (by omega)⟩
  · have hc : a = 4503599627370496 ∧ b = 4503599627370496 ∨ a = -4503599627370496 ∧ b = -4503599627370496 := by omega
    rcases hc with ⟨rfl, rfl⟩ | ⟨rfl, rfl⟩
    · exact ⟨4845873199050653696, by decide +kernel, by unfold Far; decide +kernel⟩
    · exact ⟨14069245235905429504, by decide +kernel, by unfold Far; decide +kernel⟩

theorem swap_bits (a b : Int) (ha : Am a) (hb : Am b) : cMulBits 0 4607182418800017408 (fw a) (wd (!decide (b < 0)) b.natAbs) = some (fw b, fw a) := by
  unfold Am at ha hb
  have z : (0 : Nat) = wd false 0 := by decide +kernel
  have o : (4607182418800017408 : Nat) = wd false 1 := by decide +kernel
  have h1 : a.natAbs < 2 ^ 53 := by omega
  have h2 : b.natAbs < 2 ^ 53 := by omega
  have hz : (0 : Nat) < 2 ^ 53 := by decide
  have h1' : (1 : Nat) < 2 ^ 53 := by decide
  have m1 := mul_wd false (decide (a < 0)) 0 a.natAbs hz h1 (by omega)
  have m2 := mul_wd false (!decide (b < 0)) 1 b.natAbs h1' h2 (by omega)
  have m3 := mul_wd false (!decide (b < 0)) 0 b.natAbs hz h2 (by omega)
  have m4 := mul_wd false (decide (a < 0)) 1 a.natAbs h1' h1 (by omega)
  simp only [Bool.false_xor, Nat.zero_mul, Nat.one_mul] at m1 m2 m3 m4
  have s1 := sub_wd (decide (a < 0)) (!decide (b < 0)) 0 b.natAbs hz h2
  have s2 := sum_wd (decide (a < 0)) (!!decide (b < 0)) 0 b.natAbs hz h2 (by rw [Bool.not_not, sg_fw]; unfold sg; simp; omega)
  have s3 := sum_wd (!decide (b < 0)) (decide (a < 0)) 0 a.natAbs hz h1 (by rw [sg_fw]; unfold sg; simp; omega)
  have e0 : ∀ s, sg s 0 = 0 := by intro s; unfold sg; split <;> rfl
  rw [Bool.not_not] at s2
  rw [sg_fw, e0, Int.zero_add] at s2 s3
  unfold cMulBits
  simp only [floatBits, show FloatKind.f64.format = Ieee.double from rfl]
  rw [z, o, show fw a = wd (decide (a < 0)) a.natAbs from rfl, m1, m2]
  simp only [Option.bind_some]
  rw [s1, Bool.not_not, s2, m3, m4]
  simp only [Option.bind_some]
  rw [s3]
  simp only [Option.bind_some]
  congr 2
  · unfold fw
    congr 1
    split
    · rename_i h; simp [h]
    · rfl
  · congr 1
    split
    · rename_i h; simp [h]
    · rfl

theorem flip_bit (r : Nat) (h : r < 2 ^ 63) : r ^^^ 2 ^ 63 = 2 ^ 63 + r := by
  have e : 2 ^ 63 + r = 2 ^ 63 ||| r := by
    have := Nat.two_pow_add_eq_or_of_lt (i := 63) h 1
    rwa [Nat.mul_one] at this
  rw [e]
  apply Nat.eq_of_testBit_eq
  intro i
  rw [Nat.testBit_xor, Nat.testBit_or, Nat.testBit_two_pow]
  by_cases hi : 63 = i
  · subst hi
    rw [Nat.testBit_lt_two_pow h]; simp
  · simp [hi]
theorem neg_wd (s : Bool) (m : Nat) (h : m < 2 ^ 53) : Go.Op.negFloat .f64 (wd s m) = wd (!s) m := by
  have hr : rung m < 2 ^ 63 := by have := rung_lt h; omega
  show wd s m ^^^ 2 ^ 63 = _
  unfold wd Ieee.Format.word
  rw [show Ieee.double.signWeight = 2 ^ 63 from rfl]
  cases s
  · simp only [Bool.false_eq_true, if_false, Bool.not_false, if_true]
    exact flip_bit _ hr
  · simp only [Bool.not_true, Bool.false_eq_true, if_false, if_true]
    rw [← flip_bit _ hr, Nat.xor_assoc, Nat.xor_self, Nat.xor_zero]
theorem neg_run (b : Int) (h : Am b) (w : World) : (Go.Op.unary .neg (.float .f64 (fw b))).run Try.prog w = .ok (.float .f64 (wd (!decide (b < 0)) b.natAbs)) w := by
  unfold Am at h
  show (pure (Value.float .f64 (Go.Op.negFloat .f64 (fw b))) : Sem Value).run Try.prog w = _
  rw [show fw b = wd (decide (b < 0)) b.natAbs from rfl, neg_wd _ _ (by omega)]
  rfl

end Go.Proofs.Ytphbmbenkbefhaa
