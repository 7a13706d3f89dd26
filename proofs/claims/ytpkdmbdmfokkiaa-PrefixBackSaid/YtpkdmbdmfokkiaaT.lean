/- What is put is got: the plain law. -/
import Derived.Test.YtpkdmbdmfokkiaaG
namespace Go.Proofs.Ytpkdmbdmfokkiaa
open Go.RowKit

theorem getD_app (pre : List Int) (y : Int) (t : List Int) : (pre ++ y :: t).getD pre.length 0 = y := by
  rw [List.getD_eq_getElem?_getD, List.getElem?_append_right (Nat.le_refl _), Nat.sub_self]; rfl

theorem pw7 (i : Nat) (h : 1 ≤ i) : 2 ^ (7 * i) = 128 * 2 ^ (7 * (i - 1)) := by
  obtain ⟨k, rfl⟩ : ∃ k, i = k + 1 := ⟨i - 1, by omega⟩
  rw [show 7 * (k + 1) = 7 * (k + 1 - 1) + 7 from by omega, Nat.pow_add]; omega

theorem goS_dg (j m : Nat) : ∀ (pre t : List Int) (i acc : Nat), pre.length = i → 1 ≤ i → m < 128 ^ j → 1 ≤ j → acc + m * 2 ^ (7 * (i - 1)) ≤ 2147483647 →
    goS (pre ++ (dg j m ++ t)) j i acc = (((acc + m * 2 ^ (7 * (i - 1)) : Nat) : Int), ((i + (dg j m).length : Nat) : Int), 0) := by
  induction j generalizing m with
  | zero => intro pre t i acc _ _ _ h; omega
  | succ j ih =>
    intro pre t i acc hi h1 hm _ hmax
    have hlen : i < (pre ++ (dg (j + 1) m ++ t)).length := by
      have := (dg_len (j + 1) m).1
      simp; omega
    by_cases hs : m < 128
    · rw [dg_small _ _ hs] at hlen ⊢
      have hg : (pre ++ ([(m : Int)] ++ t)).getD i 0 = (m : Int) := by rw [← hi]; exact getD_app pre _ t
      have hmm : m % 128 = m := Nat.mod_eq_of_lt hs
      exact goS_end hlen hg hs (by rw [hmm]) (by omega) rfl
    · rw [dg_more _ _ hs] at hlen ⊢
      have hg : (pre ++ ((((128 + m % 128 : Nat) : Int) :: dg j (m / 128)) ++ t)).getD i 0 = ((128 + m % 128 : Nat) : Int) := by rw [← hi]; exact getD_app pre _ _
      have hj : 1 ≤ j := by
        cases j with
        | zero => simp at hm; omega
        | succ j => omega
      rw [goS_on hlen hg (by omega) rfl]
      have hp := pw7 i h1
      have hd := Nat.div_add_mod m 128
      obtain ⟨p, hpp⟩ : ∃ p, 2 ^ (7 * (i - 1)) = p := ⟨_, rfl⟩
      have e : (128 + m % 128) % 128 = m % 128 := by omega
      have hsum : acc + (128 + m % 128) % 128 * 2 ^ (7 * (i - 1)) + m / 128 * 2 ^ (7 * (i + 1 - 1)) = acc + m * 2 ^ (7 * (i - 1)) := by
        rw [Nat.add_sub_cancel, hp, hpp, e, Nat.add_assoc, ← Nat.mul_assoc, Nat.mul_comm (m / 128) 128, ← Nat.add_mul, Nat.add_comm (m % 128), hd]
      have := ih (m / 128) (pre ++ [((128 + m % 128 : Nat) : Int)]) t (i + 1) (acc + (128 + m % 128) % 128 * 2 ^ (7 * (i - 1))) (by simp [hi]) (by omega) (by rw [Nat.div_lt_iff_lt_mul (by decide)]; rw [Nat.pow_succ] at hm; exact hm) hj (by rw [hsum]; exact hmax)
      rw [hsum] at this
      rw [List.append_assoc] at this
      rw [show (pre ++ ((((128 + m % 128 : Nat) : Int) :: dg j (m / 128)) ++ t)) = pre ++ ([((128 + m % 128 : Nat) : Int)] ++ (dg j (m / 128) ++ t)) from rfl, this, List.length_cons]
      rw [show i + 1 + (dg j (m / 128)).length = i + ((dg j (m / 128)).length + 1) from by omega]

theorem goS_cut (j m : Nat) : ∀ (pre : List Int) (i acc : Nat), pre.length = i → 1 ≤ i → m < 128 ^ j → 1 ≤ j →
    goS (pre ++ (dg j m).dropLast) j i acc = (0, 0, 3) := by
  induction j generalizing m with
  | zero => intro pre i acc _ _ _ h; omega
  | succ j ih =>
    intro pre i acc hi h1 hm _
    by_cases hs : m < 128
    · rw [dg_small _ _ hs]
      exact goS_short (by simp; omega)
    · have hj : 1 ≤ j := by
        cases j with
        | zero => simp at hm; omega
        | succ j => omega
      have hne : dg j (m / 128) ≠ [] := by
        intro h; have := (dg_len j (m / 128)).1; rw [h] at this; simp at this
      rw [dg_more _ _ hs, List.dropLast_cons_of_ne_nil hne]
      have hg : (pre ++ (((128 + m % 128 : Nat) : Int) :: (dg j (m / 128)).dropLast)).getD i 0 = ((128 + m % 128 : Nat) : Int) := by rw [← hi]; exact getD_app pre _ _
      rw [goS_on (by simp; omega) hg (by omega) rfl]
      have := ih (m / 128) (pre ++ [((128 + m % 128 : Nat) : Int)]) (i + 1) (acc + (128 + m % 128) % 128 * 2 ^ (7 * (i - 1))) (by simp [hi]) (by omega) (by rw [Nat.div_lt_iff_lt_mul (by decide)]; rw [Nat.pow_succ] at hm; exact hm) hj
      rw [List.append_assoc] at this
      exact this

theorem dg_bytes (k n : Nat) (h : n < 128 ^ (k + 1)) : ∀ x ∈ dg k n, 0 ≤ x ∧ x ≤ 255 := by
  induction k generalizing n with
  | zero => intro x hx; simp [dg] at hx h; omega
  | succ k ih =>
    intro x hx
    by_cases hs : n < 128
    · rw [dg_small _ _ hs] at hx; simp at hx; omega
    · rw [dg_more _ _ hs] at hx
      rcases List.mem_cons.1 hx with rfl | hx
      · omega
      · exact ih (n / 128) (by rw [Nat.div_lt_iff_lt_mul (by decide)]; rw [Nat.pow_succ] at h; exact h) x hx

/-- What the law says, of the bytes of a number that has some. -/
theorem back_plain (first bits n : Int) (l : List Int) (h : putS first bits n = (l, 0)) :
    1 ≤ l.length ∧ l.length ≤ 7 ∧ (∀ x ∈ l, 0 ≤ x ∧ x ≤ 255) ∧ (∀ t, getS (l ++ t) bits = (n, (l.length : Int), 0)) ∧ getS l.dropLast bits = (0, 0, 3) ∧ first ≤ l.getD 0 0 := by
  by_cases ha : bits < 1 ∨ 8 < bits ∨ first < 0 ∨ 255 < first ∨ first.toNat % 2 ^ bits.toNat ≠ 0
  · rw [putS, if_pos ha] at h; simp at h
  by_cases hn : n < 0 ∨ 2147483647 < n
  · rw [putS, if_neg ha, if_pos hn] at h; simp at h
  rw [putS, if_neg ha, if_neg hn] at h
  obtain ⟨b, rfl⟩ : ∃ b : Nat, bits = b := ⟨bits.toNat, by omega⟩
  obtain ⟨a, rfl⟩ : ∃ b : Nat, first = b := ⟨first.toNat, by omega⟩
  obtain ⟨n, rfl⟩ : ∃ b : Nat, n = b := ⟨n.toNat, by omega⟩
  simp only [Int.toNat_natCast] at h ha
  have h1 : 1 ≤ b := by omega
  have h8 : b ≤ 8 := by omega
  have h255 : a ≤ 255 := by omega
  have hmod : a % 2 ^ b = 0 := by omega
  have hnb : ¬ ((b : Int) < 1 ∨ 8 < (b : Int)) := by omega
  have hfs := fl_succ b
  obtain ⟨f, hf⟩ : ∃ f, fl b = f := ⟨_, rfl⟩
  have hafl : a + fl b ≤ 255 := by
    have h9 : 2 ^ b ∣ 256 := by
      have : b = 1 ∨ b = 2 ∨ b = 3 ∨ b = 4 ∨ b = 5 ∨ b = 6 ∨ b = 7 ∨ b = 8 := by omega
      rcases this with rfl | rfl | rfl | rfl | rfl | rfl | rfl | rfl <;> decide
    obtain ⟨q, hq⟩ := h9
    obtain ⟨r, hr⟩ := Nat.dvd_of_mod_eq_zero hmod
    have hrq : r < q := by
      apply Nat.lt_of_mul_lt_mul_left (a := 2 ^ b); omega
    have : 2 ^ b * (r + 1) ≤ 2 ^ b * q := Nat.mul_le_mul_left _ hrq
    rw [Nat.mul_add] at this
    omega
  have head : ∀ (k : Nat) (y : Int) (t : List Int), k ≤ fl b → y = ((a + k : Nat) : Int) → ((y :: t).getD 0 0).toNat % 2 ^ b = k := by
    intro k y t hk hy
    subst hy
    show ((a + k : Nat) : Int).toNat % 2 ^ b = k
    rw [Int.toNat_natCast, Nat.add_mod, hmod, Nat.zero_add, Nat.mod_mod, Nat.mod_eq_of_lt (by omega)]
  have hcons : ∀ (y : Int) (t : List Int), getS (y :: t) b = if ((y :: t).getD 0 0).toNat % 2 ^ b < fl b then (((((y :: t).getD 0 0).toNat % 2 ^ b : Nat) : Int), 1, 0) else goS (y :: t) 5 1 (((y :: t).getD 0 0).toNat % 2 ^ b) := by
    intro y t
    rw [getS, if_neg hnb, if_neg (by simp), Int.toNat_natCast]
  split at h
  · rename_i hlt
    simp only [Prod.mk.injEq, and_true] at h
    subst h
    refine ⟨by simp, by simp, ?_, ?_, ?_, ?_⟩
    · intro x hx; simp at hx; omega
    · intro t
      rw [List.singleton_append, hcons, head n _ t (by omega) (by omega), if_pos (by omega)]; rfl
    · rw [List.dropLast_singleton, getS, if_neg hnb, if_pos rfl]
    · show (a : Int) ≤ a + n; omega
  · rename_i hlt
    simp only [Prod.mk.injEq, and_true] at h
    subst h
    have hsub : ((n : Int) - (fl b : Nat)).toNat = n - fl b := by omega
    rw [hsub]
    have hm35 : n - fl b < 128 ^ 5 := by
      have : (128 : Nat) ^ 5 = 34359738368 := by decide
      omega
    have hdl := dg_len 5 (n - fl b)
    refine ⟨by simp, by simp; omega, ?_, ?_, ?_, ?_⟩
    · intro x hx
      rcases List.mem_cons.1 hx with rfl | hx
      · omega
      · refine dg_bytes 5 (n - fl b) ?_ x hx
        have : (128 : Nat) ^ (5 + 1) = 4398046511104 := by decide
        omega
    · intro t
      rw [List.cons_append, hcons, head (fl b) _ _ (Nat.le_refl _) (by omega), if_neg (Nat.lt_irrefl _)]
      have := goS_dg 5 (n - fl b) [(a : Int) + (fl b : Nat)] t 1 (fl b) rfl (Nat.le_refl _) hm35 (by decide) (by simp; omega)
      rw [List.singleton_append] at this
      rw [this]
      refine Prod.ext ?_ (Prod.ext ?_ rfl)
      · simp; omega
      · simp; omega
    · have hne : dg 5 (n - fl b) ≠ [] := by
        intro h; rw [h] at hdl; simp at hdl
      rw [List.dropLast_cons_of_ne_nil hne, hcons, head (fl b) _ _ (Nat.le_refl _) (by omega), if_neg (Nat.lt_irrefl _)]
      exact goS_cut 5 (n - fl b) [(a : Int) + (fl b : Nat)] 1 (fl b) rfl (Nat.le_refl _) hm35 (by decide)
    · show (a : Int) ≤ a + (fl b : Nat); omega
end Go.Proofs.Ytpkdmbdmfokkiaa
