/- Contracts: amount, Of, Side, along, Move, Swap. -/
import Derived.Test.YtphbmbenkbefhaaE
namespace Go.Proofs.Ytphbmbenkbefhaa
open Go.RowKit

def Am (n : Int) : Prop := -4503599627370496 ≤ n ∧ n ≤ 4503599627370496
instance (n : Int) : Decidable (Am n) := inferInstanceAs (Decidable (_ ∧ _))

theorem amount17_yes (n : Int) (w : World) (h : Am n) : Calls Try.prog 26 #[.int .i64 n] w fun e w' => e = .returned (.bool true) ∧ w = w' := by
  obtain ⟨h1, h2⟩ := h
  go_enter Try.func26, Try.ntmps26
  go_wp2_with fail
  go_ret
  exact ⟨rfl, rfl⟩
theorem amount17_no (n : Int) (w : World) (h : ¬ Am n) : Calls Try.prog 26 #[.int .i64 n] w fun e w' => e = .returned (.bool false) ∧ w = w' := by
  have h1 : n < -4503599627370496 ∨ 4503599627370496 < n := by unfold Am at h; omega
  clear h
  rcases h1 with h1 | h1
  all_goals
    go_enter Try.func26, Try.ntmps26
    go_wp2_with fail
    go_ret
    exact ⟨ret_bool (by first | (simp; done) | (simp; omega)), rfl⟩
theorem amount17_q (n : Int) (q : Bool) (w : World) (h : Hid (decide (Am n) = q)) : Calls Try.prog 26 #[.int .i64 n] w fun e w' => e = .returned (.bool q) ∧ w = w' := by
  by_cases ha : Am n
  · rw [← h.out, decide_eq_true ha]; exact amount17_yes n w ha
  · rw [← h.out, decide_eq_false ha]; exact amount17_no n w ha

theorem amount18_yes (n : Int) (w : World) (h : Am n) : Calls Try.prog 24 #[.int .i64 n] w fun e w' => e = .returned (.bool true) ∧ w = w' := by
  obtain ⟨h1, h2⟩ := h
  go_enter Try.func24, Try.ntmps24
  go_wp2_with fail
  go_ret
  exact ⟨rfl, rfl⟩
theorem amount18_no (n : Int) (w : World) (h : ¬ Am n) : Calls Try.prog 24 #[.int .i64 n] w fun e w' => e = .returned (.bool false) ∧ w = w' := by
  have h1 : n < -4503599627370496 ∨ 4503599627370496 < n := by unfold Am at h; omega
  clear h
  rcases h1 with h1 | h1
  all_goals
    go_enter Try.func24, Try.ntmps24
    go_wp2_with fail
    go_ret
    exact ⟨ret_bool (by first | (simp; done) | (simp; omega)), rfl⟩
theorem amount18_q (n : Int) (q : Bool) (w : World) (h : Hid (decide (Am n) = q)) : Calls Try.prog 24 #[.int .i64 n] w fun e w' => e = .returned (.bool q) ∧ w = w' := by
  by_cases ha : Am n
  · rw [← h.out, decide_eq_true ha]; exact amount18_yes n w ha
  · rw [← h.out, decide_eq_false ha]; exact amount18_no n w ha


theorem along_q (side n : Int) (w : World) (h : Hid (n.natAbs < 2 ^ 53)) : Calls Try.prog 27 #[.int .i64 side, .int .i64 n] w fun e w' => e = .returned (.complex .f64 (if side = 0 then fw n else 0) (if side = 0 then 0 else fw n)) ∧ w = w' := by
  have hn := of_int n h.out
  by_cases hs : side = 0
  · subst hs
    go_enter Try.func27, Try.ntmps27
    go_wp2_with fail
    go_ret
    exact ⟨rfl, rfl⟩
  · have hs1 : (side == 0) = false := by simpa using hs
    go_enter Try.func27, Try.ntmps27
    go_wp2_with fail
    go_ret
    exact ⟨rfl, rfl⟩

def sideS (a b side : Int) : Int × Int := if side = 0 then (a, 0) else if side = 1 then (b, 0) else (0, 1)
theorem side_out (a b : Nat) (side : Int) (w : World) (h0 : ¬ side = 0) (h1 : ¬ side = 1) : Calls Try.prog 15 #[.complex .f64 a b, .int .i64 side] w fun e w' => e = .returned (.tuple #[.int .i64 0, .int .i64 1]) ∧ w = w' := by
  have g0 : (side != 0) = true := by simpa using h0
  have g1 : (side != 1) = true := by simpa using h1
  go_enter Try.func15, Try.ntmps15
  go_wp2_with fail
  go_ret2
  exact ⟨rfl, rfl⟩
theorem conv_fw (n : Int) (h : Am n) (w : World) : (convert 51 3 (.float .f64 (fw n))).run Try.prog w = .ok (.int .i64 n) w := by
  have := conv_wd (decide (n < 0)) n.natAbs (by unfold Am at h; omega) w
  rw [sg_fw] at this; exact this
theorem side_in (a b : Int) (side : Int) (w : World) (ha : Am a) (hb : Am b) (hs : side = 0 ∨ side = 1) : Calls Try.prog 15 #[.complex .f64 (fw a) (fw b), .int .i64 side] w fun e w' => e = .returned (.tuple #[.int .i64 (if side = 0 then a else b), .int .i64 0]) ∧ w = w' := by
  have ca := fun w => conv_fw a ha w
  have cb := fun w => conv_fw b hb w
  have HA := hide ha
  have HB := hide hb
  clear ha hb
  rcases hs with rfl | rfl
  all_goals
    go_enter Try.func15, Try.ntmps15
    go_wp2_with fail
    refine (right_yes a b _ HA.out.1 HA.out.2 HB.out.1 HB.out.2).mono ?_
    rintro e w1 ⟨rfl, rfl⟩
    go_wp2_with fail
    go_ret2
    exact ⟨rfl, rfl⟩
theorem side_q (a b side x e0 : Int) (w : World) (ha : Hid (Am a)) (hb : Hid (Am b)) (h : Hid (sideS a b side = (x, e0))) : Calls Try.prog 15 #[.complex .f64 (fw a) (fw b), .int .i64 side] w fun e w' => e = .returned (.tuple #[.int .i64 x, .int .i64 e0]) ∧ w = w' := by
  have h := h.out
  unfold sideS at h
  split at h
  · rename_i hs
    injection h with h1 h2
    subst h1 h2 hs
    exact side_in a b 0 w ha.out hb.out (.inl rfl)
  · rename_i hs
    split at h
    · rename_i hs1
      injection h with h1 h2
      subst h1 h2 hs1
      exact side_in a b 1 w ha.out hb.out (.inr rfl)
    · rename_i hs1
      injection h with h1 h2
      subst h1 h2
      exact side_out _ _ side w hs hs1

end Go.Proofs.Ytphbmbenkbefhaa
