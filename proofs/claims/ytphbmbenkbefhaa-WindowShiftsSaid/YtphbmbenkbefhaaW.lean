/- Contracts: may, Room, of both. -/
import Derived.Test.YtphbmbenkbefhaaR
namespace Go.Proofs.Ytphbmbenkbefhaa
open Go.RowKit

def mayS (side ini : Int) : Prop := (side = 0 ∨ side = 1) ∧ 0 ≤ ini ∧ ini ≤ 2147483647
instance (side ini : Int) : Decidable (mayS side ini) := inferInstanceAs (Decidable (_ ∧ _))

theorem may16_yes (side ini : Int) (w : World) (h : mayS side ini) : Calls Try.prog 16 #[.int .i64 side, .int .i64 ini] w fun e w' => e = .returned (.bool true) ∧ w = w' := by
  obtain ⟨hs, h1, h2⟩ := h
  rcases hs with rfl | rfl
  all_goals
    go_enter Try.func16, Try.ntmps16
    go_wp2_with fail
    go_ret
    exact ⟨rfl, rfl⟩
theorem may16_no (side ini : Int) (w : World) (h : ¬ mayS side ini) : Calls Try.prog 16 #[.int .i64 side, .int .i64 ini] w fun e w' => e = .returned (.bool false) ∧ w = w' := by
  by_cases h0 : side = 0 ∨ side = 1
  · have h1 : ini < 0 ∨ 2147483647 < ini := by unfold mayS at h; omega
    clear h
    rcases h0 with rfl | rfl <;> rcases h1 with h1 | h1
    all_goals
      go_enter Try.func16, Try.ntmps16
      go_wp2_with fail
      go_ret
      exact ⟨ret_bool (by first | (simp; done) | (simp; omega)), rfl⟩
  · have g0 : (side == 0) = false := by rw [beq_eq_false_iff_ne]; omega
    have g1 : (side == 1) = false := by rw [beq_eq_false_iff_ne]; omega
    clear h h0
    go_enter Try.func16, Try.ntmps16
    go_wp2_with fail
    go_ret
    exact ⟨rfl, rfl⟩

theorem may17_yes (side ini : Int) (w : World) (h : mayS side ini) : Calls Try.prog 17 #[.int .i64 side, .int .i64 ini] w fun e w' => e = .returned (.bool true) ∧ w = w' := by
  obtain ⟨hs, h1, h2⟩ := h
  rcases hs with rfl | rfl
  all_goals
    go_enter Try.func17, Try.ntmps17
    go_wp2_with fail
    go_ret
    exact ⟨rfl, rfl⟩
theorem may17_no (side ini : Int) (w : World) (h : ¬ mayS side ini) : Calls Try.prog 17 #[.int .i64 side, .int .i64 ini] w fun e w' => e = .returned (.bool false) ∧ w = w' := by
  by_cases h0 : side = 0 ∨ side = 1
  · have h1 : ini < 0 ∨ 2147483647 < ini := by unfold mayS at h; omega
    clear h
    rcases h0 with rfl | rfl <;> rcases h1 with h1 | h1
    all_goals
      go_enter Try.func17, Try.ntmps17
      go_wp2_with fail
      go_ret
      exact ⟨ret_bool (by first | (simp; done) | (simp; omega)), rfl⟩
  · have g0 : (side == 0) = false := by rw [beq_eq_false_iff_ne]; omega
    have g1 : (side == 1) = false := by rw [beq_eq_false_iff_ne]; omega
    clear h h0
    go_enter Try.func17, Try.ntmps17
    go_wp2_with fail
    go_ret
    exact ⟨rfl, rfl⟩
end Go.Proofs.Ytphbmbenkbefhaa
