/- Contracts: which flags are used, had (the same proofs as at the types' own law). -/
import Derived.Test.YtpjibdnoiioaoaaK
namespace Go.Proofs.Ytpjibdnoiioaoaa
open Go.RowKit
set_option linter.unusedSimpArgs false
set_option linter.unusedVariables false

/-! ### Plain -/
/-- A number is one of the known types, or none. -/
theorem ten (t : Int) : t = 0 ∨ t = 1 ∨ t = 2 ∨ t = 3 ∨ t = 4 ∨ t = 5 ∨ t = 6 ∨ t = 7 ∨ t = 8 ∨ t = 9 ∨ ((t == 0) = false ∧ (t == 1) = false ∧ (t == 2) = false ∧ (t == 3) = false ∧ (t == 4) = false ∧ (t == 5) = false ∧ (t == 6) = false ∧ (t == 7) = false ∧ (t == 8) = false ∧ (t == 9) = false) := by
  simp only [beq_eq_false_iff_ne, ne_eq]
  omega
def usedN (t : Int) : Nat := if t == 0 then 9 else if t == 1 then 45 else if t == 4 || t == 6 then 1 else if t == 5 then 12 else if t == 9 then 4 else 0
def usesB (t f : Int) : Bool := if f == 1 then t == 0 || t == 1 || t == 4 || t == 6 else if f == 4 then t == 1 || t == 5 || t == 9 else if f == 8 then t == 0 || t == 1 || t == 5 else if f == 32 then t == 1 else false
def hasB (t fl f : Int) : Bool := usesB t f && (decide (0 ≤ fl) && (fl / f % 2 == 1))
def streamsN (t : Int) : Int := if t == 4 || t == 6 || t == 7 then 0 else if t == 0 || t == 1 || t == 2 || t == 3 || t == 5 || t == 9 then 1 else 2
theorem uses_flag {t f : Int} (h : usesB t f = true) : f = 1 ∨ f = 4 ∨ f = 8 ∨ f = 32 := by
  unfold usesB at h
  split at h
  · next e => exact .inl (by simpa using e)
  split at h
  · next e => exact .inr (.inl (by simpa using e))
  split at h
  · next e => exact .inr (.inr (.inl (by simpa using e)))
  split at h
  · next e => exact .inr (.inr (.inr (by simpa using e)))
  · cases h
theorem and_bit (u n m : Nat) : (((u &&& n) &&& 2 ^ m) != 0) = (u.testBit m && n.testBit m) := by
  rw [← Nat.testBit_and]
  generalize u &&& n = x
  cases h : x.testBit m with
  | true =>
    refine bne_iff_ne.2 fun e => ?_
    have h1 : (x &&& 2 ^ m).testBit m = true := by rw [Nat.testBit_and, h, Nat.testBit_two_pow]; simp
    rw [e] at h1
    simp at h1
  | false =>
    have h1 : x &&& 2 ^ m = 0 := by
      apply Nat.eq_of_testBit_eq
      intro i
      rw [Nat.testBit_and, Nat.testBit_two_pow]
      by_cases e : m = i
      · subst e; rw [h]; simp
      · simp [e]
    rw [h1]; rfl
theorem bits_int (u n m : Nat) (hu : u < 2 ^ 63) (hn : n < 2 ^ 63) (hm : m < 63) : (bits .and .i64 (bits .and .i64 (u : Int) (n : Int)) ((2 ^ m : Nat) : Int) != 0) = (u.testBit m && n.testBit m) := by
  have hw : ∀ x : Int, 0 ≤ x → x < 2 ^ 63 → IntKind.i64.wrap x = x := fun x h0 h1 => by rw [IntKind.wrap_i64]; omega
  rw [(bits_nat .i64 63 (by decide) hw u n hu hn).1, (bits_nat .i64 63 (by decide) hw (u &&& n) (2 ^ m) (Nat.and_lt_two_pow _ hn) (Nat.pow_lt_pow_right (by decide) hm)).1, ← and_bit]
  rw [Bool.eq_iff_iff]
  simp
theorem has_eq (t fl : Int) (m : Nat) (h0 : 0 ≤ fl) (h1 : fl ≤ 9223372036854775807) (hm : m < 63) (hu : (usedN t).testBit m = usesB t ((2 ^ m : Nat) : Int)) :
    (bits .and .i64 (bits .and .i64 (usedN t : Nat) fl) ((2 ^ m : Nat) : Int) != 0) = hasB t fl ((2 ^ m : Nat) : Int) := by
  obtain ⟨n, rfl⟩ := Int.eq_ofNat_of_zero_le h0
  have hul : usedN t < 2 ^ 63 := by
    unfold usedN
    split <;> first | decide | (split <;> first | decide | (split <;> first | decide | (split <;> first | decide | (split <;> decide))))
  have hb := bits_int (usedN t) n m hul (by omega) hm
  rw [hb, hu]
  unfold hasB
  congr 1
  have e : (n : Int) / ((2 ^ m : Nat) : Int) % 2 = ((n / 2 ^ m % 2 : Nat) : Int) := by rw [Int.natCast_emod, Int.natCast_ediv]; rfl
  rw [e, Nat.testBit_eq_decide_div_mod_eq, Bool.eq_iff_iff]
  simp only [decide_eq_true_eq, Bool.and_eq_true, beq_iff_eq]
  omega
theorem used_bits (t : Int) : (usedN t).testBit 0 = usesB t 1 ∧ (usedN t).testBit 2 = usesB t 4 ∧ (usedN t).testBit 3 = usesB t 8 ∧ (usedN t).testBit 5 = usesB t 32 := by
  rcases ten t with rfl | rfl | rfl | rfl | rfl | rfl | rfl | rfl | rfl | rfl | ⟨h0, h1, h2, h3, h4, h5, h6, h7, h8, h9⟩
  all_goals first | decide | simp [usedN, usesB, h0, h1, h2, h3, h4, h5, h6, h7, h8, h9]

/-! ### Contracts -/
theorem used_any (t : Int) (w : World) : Calls Try.prog 24 #[.int .i64 t] w fun e w' => e = .returned (.int .i64 (usedN t : Nat)) ∧ w = w' := by
  rcases ten t with rfl | rfl | rfl | rfl | rfl | rfl | rfl | rfl | rfl | rfl | ⟨h0, h1, h2, h3, h4, h5, h6, h7, h8, h9⟩
  case inr.inr.inr.inr.inr.inr.inr.inr.inr.inr =>
    have HZ : Hid (usedN t = 0) := hide (by simp [usedN, h0, h1, h2, h3, h4, h5, h6, h7, h8, h9])
    go_enter Try.func24, Try.ntmps24
    go_wp2_with fail
    go_ret
    exact ⟨by rw [HZ.out]; rfl, rfl⟩
  all_goals
    go_enter Try.func24, Try.ntmps24
    go_wp2_with fail
    go_ret
    exact ⟨rfl, rfl⟩
theorem five (f : Int) : f = 1 ∨ f = 4 ∨ f = 8 ∨ f = 32 ∨ ((f == 1) = false ∧ (f == 4) = false ∧ (f == 8) = false ∧ (f == 32) = false) := by
  simp only [beq_eq_false_iff_ne, ne_eq]
  omega
theorem uses_any (t f : Int) (w : World) : Calls Try.prog 26 #[.int .i64 t, .int .i64 f] w fun e w' => e = .returned (.bool (usesB t f)) ∧ w = w' := by
  rcases five f with rfl | rfl | rfl | rfl | ⟨g0, g1, g2, g3⟩
  case inr.inr.inr.inr =>
    have HZ : Hid (usesB t f = false) := hide (by simp [usesB, g0, g1, g2, g3])
    go_enter Try.func26, Try.ntmps26
    go_wp2_with fail
    go_ret
    exact ⟨by rw [HZ.out]; rfl, rfl⟩
  all_goals
    rcases ten t with rfl | rfl | rfl | rfl | rfl | rfl | rfl | rfl | rfl | rfl | ⟨h0, h1, h2, h3, h4, h5, h6, h7, h8, h9⟩
    case inr.inr.inr.inr.inr.inr.inr.inr.inr.inr =>
      have HZ : ∀ f, Hid (usesB t f = false) := fun f => hide (by simp [usesB, h0, h1, h2, h3, h4, h5, h6, h7, h8, h9])
      go_enter Try.func26, Try.ntmps26
      go_wp2_with fail
      go_ret
      exact ⟨by rw [(HZ _).out]; rfl, rfl⟩
    all_goals
      go_enter Try.func26, Try.ntmps26
      go_wp2_with fail
      go_ret
      exact ⟨rfl, rfl⟩
theorem has_any (t fl f : Int) (w : World) (h1 : fl ≤ 9223372036854775807) : Calls Try.prog 19 #[.int .i64 t, .int .i64 fl, .int .i64 f] w fun e w' => e = .returned (.bool (hasB t fl f)) ∧ w = w' := by
  obtain ⟨b0, b2, b3, b5⟩ := used_bits t
  have hc := used_any t w
  rcases five f with rfl | rfl | rfl | rfl | ⟨g0, g1, g2, g3⟩
  case inr.inr.inr.inr =>
    have HZ : Hid (hasB t fl f = false) := hide (by simp [hasB, usesB, g0, g1, g2, g3])
    clear hc b0 b2 b3 b5
    go_enter Try.func19, Try.ntmps19
    go_wp2_with fail
    go_ret
    exact ⟨by rw [HZ.out]; rfl, rfl⟩
  all_goals
    by_cases h0 : 0 ≤ fl
    · have HE : ∀ m : Nat, m < 63 → (usedN t).testBit m = usesB t ((2 ^ m : Nat) : Int) → Hid ((bits .and .i64 (bits .and .i64 (usedN t : Nat) fl) ((2 ^ m : Nat) : Int) != 0) = hasB t fl ((2 ^ m : Nat) : Int)) := fun m hm h => hide (has_eq t fl m h0 h1 hm h)
      have HB := hide (And.intro b0 (And.intro b2 (And.intro b3 b5)))
      have hge : (fl ≥ 0) := h0
      clear h1 b0 b2 b3 b5
      go_enter Try.func19, Try.ntmps19
      go_wp2_with (go_at_call 24; refine hc.mono ?_; rintro e w1 ⟨rfl, rfl⟩)
      go_wp2_with fail
      go_ret
      refine ⟨?_, rfl⟩
      obtain ⟨b0, b2, b3, b5⟩ := HB.out
      first
        | exact ret_bool (HE 0 (by decide) b0).out
        | exact ret_bool (HE 2 (by decide) b2).out
        | exact ret_bool (HE 3 (by decide) b3).out
        | exact ret_bool (HE 5 (by decide) b5).out
    · have HZ : ∀ f, Hid (hasB t fl f = false) := fun f => hide (by simp [hasB, h0])
      have hlt : fl < 0 := by omega
      clear hc b0 b2 b3 b5 h0
      go_enter Try.func19, Try.ntmps19
      go_wp2_with fail
      go_ret
      exact ⟨by rw [(HZ _).out]; rfl, rfl⟩
theorem rhas_any (t fl f : Int) (w : World) (h1 : fl ≤ 9223372036854775807) : Calls Try.prog 25 #[.int .i64 t, .int .i64 fl, .int .i64 f] w fun e w' => e = .returned (.bool (hasB t fl f)) ∧ w = w' := by
  have hc := uses_any t f w
  cases hu : usesB t f with
  | false =>
    have HZ : Hid (hasB t fl f = false) := hide (by simp [hasB, hu])
    rw [hu] at hc
    clear hu
    go_enter Try.func25, Try.ntmps25
    go_wp2_with (go_at_call 26; refine hc.mono ?_; rintro e w1 ⟨rfl, rfl⟩)
    go_wp2_with fail
    go_ret
    exact ⟨by rw [HZ.out]; rfl, rfl⟩
  | true =>
    have HU := hide hu
    rw [hu] at hc
    rcases uses_flag hu with rfl | rfl | rfl | rfl
    all_goals
      clear hu
      by_cases h0 : 0 ≤ fl
      · have H0 := hide h0
        go_enter Try.func25, Try.ntmps25
        go_wp2_with (go_at_call 26; refine hc.mono ?_; rintro e w1 ⟨rfl, rfl⟩)
        go_wp2_with fail
        go_ret
        refine ⟨ret_bool ?_, rfl⟩
        simp [hasB, HU.out, H0.out]
      · have HZ : ∀ f, Hid (hasB t fl f = false) := fun f => hide (by simp [hasB, h0])
        have hlt : fl < 0 := by omega
        clear h0
        go_enter Try.func25, Try.ntmps25
        go_wp2_with (go_at_call 26; refine hc.mono ?_; rintro e w1 ⟨rfl, rfl⟩)
        go_wp2_with fail
        go_ret
        exact ⟨by rw [(HZ _).out]; rfl, rfl⟩
end Go.Proofs.Ytpjibdnoiioaoaa
