/- Contracts: Has, the reference's, Same of lists of strings, first. -/
import Derived.Test.YtjpjcbdaacifgaaDoorK
namespace Go.Proofs.YtjpjcbdaacifgaaDoor
open Go.RowKit

theorem has_any (t fl f : Int) (w : World) (h1 : fl ≤ 9223372036854775807) : Calls Tryd.prog 8 #[.int .i64 t, .int .i64 fl, .int .i64 f] w fun e w' => e = .returned (.bool (hasB t fl f)) ∧ w = w' := by
  obtain ⟨b0, b2, b3, b5⟩ := used_bits t
  have hc := used_any t w
  rcases five f with rfl | rfl | rfl | rfl | ⟨g0, g1, g2, g3⟩
  case inr.inr.inr.inr =>
    have HZ : Hid (hasB t fl f = false) := hide (by simp [hasB, usesB, g0, g1, g2, g3])
    clear hc b0 b2 b3 b5
    go_enter Tryd.func8, Tryd.ntmps8
    go_wp2_with fail
    go_ret
    exact ⟨by rw [HZ.out]; rfl, rfl⟩
  all_goals
    by_cases h0 : 0 ≤ fl
    · have HE : ∀ m : Nat, m < 63 → (usedN t).testBit m = usesB t ((2 ^ m : Nat) : Int) → Hid ((bits .and .i64 (bits .and .i64 (usedN t : Nat) fl) ((2 ^ m : Nat) : Int) != 0) = hasB t fl ((2 ^ m : Nat) : Int)) := fun m hm h => hide (has_eq t fl m h0 h1 hm h)
      have HB := hide (And.intro b0 (And.intro b2 (And.intro b3 b5)))
      have hge : (fl ≥ 0) := h0
      clear h1 b0 b2 b3 b5
      go_enter Tryd.func8, Tryd.ntmps8
      go_wp2_with (go_at_call 7; refine hc.mono ?_; rintro e w1 ⟨rfl, rfl⟩)
      go_wp2_with fail
      go_ret
      refine ⟨?_, rfl⟩
      obtain ⟨b0, b2, b3, b5⟩ := HB.out
      first
        | exact ret_bool (HE 0 (by decide) b0).out
        | exact ret_bool (HE 2 (by decide) b2).out
        | exact ret_bool (HE 3 (by decide) b3).out
        | exact ret_bool (HE 5 (by decide) b5).out
    · have HZ : ∀ f, Hid (hasB t fl f = false) := fun f => hide (by simp [hasB, h0])
      have hlt : fl < 0 := by omega
      clear hc b0 b2 b3 b5 h0
      go_enter Tryd.func8, Tryd.ntmps8
      go_wp2_with fail
      go_ret
      exact ⟨by rw [(HZ _).out]; rfl, rfl⟩
theorem rhas_any (t fl f : Int) (w : World) (h1 : fl ≤ 9223372036854775807) : Calls Tryd.prog 9 #[.int .i64 t, .int .i64 fl, .int .i64 f] w fun e w' => e = .returned (.bool (hasB t fl f)) ∧ w = w' := by
  have hc := uses_any t f w
  cases hu : usesB t f with
  | false =>
    have HZ : Hid (hasB t fl f = false) := hide (by simp [hasB, hu])
    rw [hu] at hc
    clear hu
    go_enter Tryd.func9, Tryd.ntmps9
    go_wp2_with (go_at_call 6; refine hc.mono ?_; rintro e w1 ⟨rfl, rfl⟩)
    go_wp2_with fail
    go_ret
    exact ⟨by rw [HZ.out]; rfl, rfl⟩
  | true =>
    have HU := hide hu
    rw [hu] at hc
    rcases uses_flag hu with rfl | rfl | rfl | rfl
    all_goals
      clear hu
      by_cases h0 : 0 ≤ fl
      · have H0 := hide h0
        go_enter Tryd.func9, Tryd.ntmps9
        go_wp2_with (go_at_call 6; refine hc.mono ?_; rintro e w1 ⟨rfl, rfl⟩)
        go_wp2_with fail
        go_ret
        refine ⟨ret_bool ?_, rfl⟩
        simp [hasB, HU.out, H0.out]
      · have HZ : ∀ f, Hid (hasB t fl f = false) := fun f => hide (by simp [hasB, h0])
        have hlt : fl < 0 := by omega
        clear h0
        go_enter Tryd.func9, Tryd.ntmps9
        go_wp2_with (go_at_call 6; refine hc.mono ?_; rintro e w1 ⟨rfl, rfl⟩)
        go_wp2_with fail
        go_ret
        exact ⟨by rw [(HZ _).out]; rfl, rfl⟩
end Go.Proofs.YtjpjcbdaacifgaaDoor
