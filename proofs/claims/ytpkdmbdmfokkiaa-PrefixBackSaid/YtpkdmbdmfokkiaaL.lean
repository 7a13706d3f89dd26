/- The contracts of Put, of the program and of the reference. -/
import Derived.Test.YtpkdmbdmfokkiaaK
namespace Go.Proofs.Ytpkdmbdmfokkiaa
open Go.RowKit

/-- Put's post: the bytes (the call's own, or none) and the error. -/
def PutPost (x : List Int × Int) (w : World) (e : Ending) (w' : World) : Prop :=
  ∃ A c, e = .returned (.tuple #[.slice A x.1.length c, .int .i64 x.2]) ∧ Sees w' A (x.1.map (Value.int .u8)) ∧ Below w.heap.size w w'

/-- Put's post, the program's: the slice has room for what it holds. -/
def PutCap (x : List Int × Int) (w : World) (e : Ending) (w' : World) : Prop :=
  ∃ A c, e = .returned (.tuple #[.slice A x.1.length c, .int .i64 x.2]) ∧ x.1.length ≤ c ∧ Sees w' A (x.1.map (Value.int .u8)) ∧ Below w.heap.size w w'

theorem putS_arg {first bits n : Int} (h : bits < 1 ∨ 8 < bits ∨ first < 0 ∨ 255 < first ∨ first.toNat % 2 ^ bits.toNat ≠ 0) : putS first bits n = ([], 1) := by rw [putS, if_pos h]
theorem putS_range {first bits n : Int} (h : ¬ (bits < 1 ∨ 8 < bits ∨ first < 0 ∨ 255 < first ∨ first.toNat % 2 ^ bits.toNat ≠ 0)) (h2 : n < 0 ∨ 2147483647 < n) : putS first bits n = ([], 5) := by rw [putS, if_neg h, if_pos h2]
theorem putS_small {first bits n : Int} (h : ¬ (bits < 1 ∨ 8 < bits ∨ first < 0 ∨ 255 < first ∨ first.toNat % 2 ^ bits.toNat ≠ 0)) (h2 : ¬ (n < 0 ∨ 2147483647 < n)) (h3 : n < fl bits.toNat) : putS first bits n = ([first + n], 0) := by rw [putS, if_neg h, if_neg h2, if_pos h3]
theorem putS_great {first bits n : Int} (h : ¬ (bits < 1 ∨ 8 < bits ∨ first < 0 ∨ 255 < first ∨ first.toNat % 2 ^ bits.toNat ≠ 0)) (h2 : ¬ (n < 0 ∨ 2147483647 < n)) (h3 : ¬ n < fl bits.toNat) : putS first bits n = ((first + fl bits.toNat) :: dg 5 (n - fl bits.toNat).toNat, 0) := by rw [putS, if_neg h, if_neg h2, if_neg h3]

theorem put_nobits (first bits n : Int) (w : World) (h : bits < 1 ∨ 8 < bits) : Calls Try.prog 6 #[.int .i64 first, .int .i64 bits, .int .i64 n] w (PutCap (putS first bits n) w) := by
  rw [putS_arg (by omega)]
  have H := hide h
  clear h
  go_enter Try.func6, Try.ntmps6
  go_wp2_with fail
  refine (full_no bits _ H.out).mono ?_
  rintro e w1 ⟨rfl, rfl⟩
  go_wp2_with fail
  go_ret2
  exact ⟨none, 0, rfl, Nat.le_refl _, Sees.nil _ _, Below.refl _ _⟩

theorem put_arg (first n : Int) (b : Nat) (w : World) (h1 : 1 ≤ b) (h8 : b ≤ 8) (h : first < 0 ∨ 255 < first ∨ first.toNat % 2 ^ b ≠ 0) : Calls Try.prog 6 #[.int .i64 first, .int .i64 b, .int .i64 n] w (PutCap ([], 1) w) := by
  have HB := hide (And.intro h1 h8)
  by_cases hf : first < 0
  · clear h h1 h8
    go_enter Try.func6, Try.ntmps6
    go_wp2_with fail
    refine (full_yes b _ HB.out.1 HB.out.2).mono ?_
    rintro e w1 ⟨rfl, rfl⟩
    go_wp2_with fail
    go_ret2
    exact ⟨none, 0, rfl, Nat.le_refl _, Sees.nil _ _, Below.refl _ _⟩
  · by_cases hf2 : 255 < first
    · clear h h1 h8
      go_enter Try.func6, Try.ntmps6
      go_wp2_with fail
      refine (full_yes b _ HB.out.1 HB.out.2).mono ?_
      rintro e w1 ⟨rfl, rfl⟩
      go_wp2_with fail
      go_ret2
      exact ⟨none, 0, rfl, Nat.le_refl _, Sees.nil _ _, Below.refl _ _⟩
    · obtain ⟨a, rfl⟩ : ∃ a : Nat, first = a := ⟨first.toNat, by omega⟩
      have hm : a % 2 ^ b ≠ 0 := by rcases h with h | h | h; omega; omega; simpa using h
      have hand := and_fl a b (by omega) h8
      obtain ⟨r, hr⟩ : ∃ r, a % 2 ^ b = r := ⟨_, rfl⟩
      rw [hr] at hand hm
      have er : ((r : Int) != 0) = true := by simp; omega
      clear h h1 h8 hr hm
      go_enter Try.func6, Try.ntmps6
      go_wp2_with fail
      refine (full_yes b _ HB.out.1 HB.out.2).mono ?_
      rintro e w1 ⟨rfl, rfl⟩
      go_wp2_with fail
      go_ret2
      exact ⟨none, 0, rfl, Nat.le_refl _, Sees.nil _ _, Below.refl _ _⟩

theorem put_range (a b : Nat) (n : Int) (w : World) (h1 : 1 ≤ b) (h8 : b ≤ 8) (ha : a ≤ 255) (h : a % 2 ^ b = 0) (hn : n < 0 ∨ 2147483647 < n) : Calls Try.prog 6 #[.int .i64 a, .int .i64 b, .int .i64 n] w (PutCap ([], 5) w) := by
  have HB := hide (And.intro h1 h8)
  have hand := and_fl a b ha h8
  rw [h] at hand
  clear h1 h8 h
  by_cases hf : n < 0
  all_goals
    have hn' : n < 0 ∨ 2147483647 < n := hn
    clear hn
    go_enter Try.func6, Try.ntmps6
    go_wp2_with fail
    refine (full_yes b _ HB.out.1 HB.out.2).mono ?_
    rintro e w1 ⟨rfl, rfl⟩
    go_wp2_with fail
    go_ret2
    exact ⟨none, 0, rfl, Nat.le_refl _, Sees.nil _ _, Below.refl _ _⟩

theorem put_small (a b n : Nat) (w : World) (h1 : 1 ≤ b) (h8 : b ≤ 8) (ha : a ≤ 255) (h : a % 2 ^ b = 0) (hn : n < fl b) (hx : a + n ≤ 255) : Calls Try.prog 6 #[.int .i64 a, .int .i64 b, .int .i64 n] w (PutCap ([(a : Int) + n], 0) w) := by
  have HB := hide (And.intro h1 h8)
  have hand := and_fl a b ha h8
  rw [h] at hand
  have hf := fl_lt h8
  have hs := fl_succ b
  have hor := or_low a b n ha h (by omega) (by omega)
  have hnf : (n : Int) < (fl b : Nat) := by omega
  have hn2 : (n : Int) ≤ 255 := by omega
  have hx2 : (a : Int) + (n : Int) ≤ 255 := by omega
  clear h1 h8 h hs hf hn hx
  rw [show ((a + n : Nat) : Int) = (a : Int) + (n : Int) from by omega] at hor
  go_enter Try.func6, Try.ntmps6
  go_wp2_with fail
  refine (full_yes b _ HB.out.1 HB.out.2).mono ?_
  rintro e w1 ⟨rfl, rfl⟩
  go_wp2_with fail
  go_ret2
  exact ⟨_, 1, rfl, Nat.le_refl _, Sees.born _ _ #[.int .u8 ((a : Int) + n)] _, (Below.refl _ _).alloc (Nat.le_refl _) _⟩
end Go.Proofs.Ytpkdmbdmfokkiaa
