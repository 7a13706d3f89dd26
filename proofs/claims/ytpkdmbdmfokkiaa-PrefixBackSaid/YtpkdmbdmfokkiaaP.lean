/- Plain laws on numbers and their bytes, with no program in sight. -/
import Derived.Test.YtpkdmbdmfokkiaaK0
import Derived.Laws.BitsAllLaws
import Derived.Laws.BitsLemmas
namespace Go.Proofs.Ytpkdmbdmfokkiaa
open Go.RowKit

theorem ofInt64 (a : Nat) (ha : a < 9223372036854775808) : (BitVec.ofInt 64 (a : Int)).toNat = a := by
  rw [BitVec.ofInt_natCast, BitVec.toNat_ofNat]; exact Nat.mod_eq_of_lt (by omega)
theorem and64 (a b : Nat) (ha : a < 9223372036854775808) (hb : b < 9223372036854775808) : bits .and .i64 (a : Int) (b : Int) = ((a &&& b : Nat) : Int) := by
  have hx : a &&& b < 2 ^ 63 := Nat.and_lt_two_pow _ (by omega)
  show IntKind.i64.wrap ((BitVec.ofInt 64 (a : Int) &&& BitVec.ofInt 64 (b : Int)).toNat : Int) = _
  rw [BitVec.toNat_and, ofInt64 a ha, ofInt64 b hb, IntKind.wrap_i64]
  omega
theorem or64 (a b : Nat) (ha : a < 9223372036854775808) (hb : b < 9223372036854775808) : bits .or .i64 (a : Int) (b : Int) = ((a ||| b : Nat) : Int) := by
  have hx : a ||| b < 2 ^ 63 := Nat.or_lt_two_pow (by omega) (by omega)
  show IntKind.i64.wrap ((BitVec.ofInt 64 (a : Int) ||| BitVec.ofInt 64 (b : Int)).toNat : Int) = _
  rw [BitVec.toNat_or, ofInt64 a ha, ofInt64 b hb, IntKind.wrap_i64]
  omega

/-- The number whose bits are all ones. -/
def fl (b : Nat) : Nat := 2 ^ b - 1
theorem fl_lt {b : Nat} (h : b ≤ 8) : fl b ≤ 255 := by
  have : 2 ^ b ≤ 2 ^ 8 := Nat.pow_le_pow_right (by decide) h
  unfold fl; omega
theorem fl_succ (b : Nat) : fl b + 1 = 2 ^ b := by
  have := Nat.two_pow_pos b
  unfold fl; omega
theorem and_fl (a b : Nat) (ha : a ≤ 255) (hb : b ≤ 8) : bits .and .i64 (a : Int) (fl b : Nat) = ((a % 2 ^ b : Nat) : Int) := by
  have := fl_lt hb
  rw [and64 a (fl b) (by omega) (by omega), fl, Nat.and_two_pow_sub_one_eq_mod]
theorem or_low (a b n : Nat) (ha : a ≤ 255) (h : a % 2 ^ b = 0) (hn : n < 2 ^ b) (hn2 : n ≤ 255) : bits .or .i64 (a : Int) (n : Nat) = ((a + n : Nat) : Int) := by
  rw [or64 a n (by omega) (by omega)]
  obtain ⟨q, rfl⟩ : ∃ q, a = 2 ^ b * q := ⟨a / 2 ^ b, by have := Nat.div_add_mod a (2 ^ b); omega⟩
  rw [Nat.two_pow_add_eq_or_of_lt hn]
theorem low7 (n : Nat) (hn : n < 9223372036854775808) : bits .and .i64 (n : Int) 127 = ((n % 128 : Nat) : Int) := by
  have := and64 n 127 hn (by decide)
  rw [show ((127 : Nat) : Int) = 127 from rfl] at this
  rw [this, show (127 : Nat) = 2 ^ 7 - 1 from rfl, Nat.and_two_pow_sub_one_eq_mod]
theorem or128 (r : Nat) (hr : r < 128) : bits .or .i64 (r : Int) 128 = ((128 + r : Nat) : Int) := by
  have := or64 r 128 (by omega) (by decide)
  rw [show ((128 : Nat) : Int) = 128 from rfl] at this
  rw [this, Nat.or_comm, show (128 : Nat) + r = 2 ^ 7 * 1 + r from by omega, Nat.two_pow_add_eq_or_of_lt hr]

/-- A number's seven bits a byte, the lowest first; 'k': how many may follow the first one. -/
def dg : Nat → Nat → List Int
  | 0, n => [(n : Int)]
  | k + 1, n => if n < 128 then [(n : Int)] else ((128 + n % 128 : Nat) : Int) :: dg k (n / 128)
theorem dg_small (k n : Nat) (h : n < 128) : dg k n = [(n : Int)] := by
  cases k
  · rfl
  · rw [dg, if_pos h]
theorem dg_more (k n : Nat) (h : ¬ n < 128) : dg (k + 1) n = ((128 + n % 128 : Nat) : Int) :: dg k (n / 128) := by rw [dg, if_neg h]
theorem dg_len (k n : Nat) : 1 ≤ (dg k n).length ∧ (dg k n).length ≤ k + 1 := by
  induction k generalizing n with
  | zero => simp [dg]
  | succ k ih =>
    rw [dg]
    split
    · simp
    · have := ih (n / 128)
      simp; omega

/-- What Put says: the bytes, and the error. -/
def putS (first bits n : Int) : List Int × Int :=
  if bits < 1 ∨ 8 < bits ∨ first < 0 ∨ 255 < first ∨ first.toNat % 2 ^ bits.toNat ≠ 0 then ([], 1)
  else if n < 0 ∨ 2147483647 < n then ([], 5)
  else if n < fl bits.toNat then ([first + n], 0)
  else ((first + fl bits.toNat) :: dg 5 (n - fl bits.toNat).toNat, 0)
end Go.Proofs.Ytpkdmbdmfokkiaa
