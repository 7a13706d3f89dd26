/- Contracts: Room, of both. -/
import Derived.Test.YtphbmbenkbefhaaW
namespace Go.Proofs.Ytphbmbenkbefhaa
open Go.RowKit

def roomS (a b side ini : Int) : Int := if mayS side ini then ini + (if side = 0 then a else b) else 0
theorem roomS_yes {a b side ini : Int} (h : mayS side ini) : roomS a b side ini = ini + (if side = 0 then a else b) := if_pos h
theorem roomS_no {a b side ini : Int} (h : ¬ mayS side ini) : roomS a b side ini = 0 := if_neg h
theorem room_wrap (x ini : Int) (hx : Am x) (h1 : 0 ≤ ini) (h2 : ini ≤ 2147483647) : IntKind.i64.wrap (ini + x) = ini + x := IntWalk.i64_in _ (by unfold Am at hx; omega)

theorem room9 (a b side ini : Int) (w : World) (ha : Hid (Am a)) (hb : Hid (Am b)) : Calls Try.prog 9 #[.agg #[.complex .f64 (fw a) (fw b)], .int .i64 side, .int .i64 ini] w fun e w' => e = .returned (.int .i64 (roomS a b side ini)) ∧ Below w.heap.size w w' := by
  by_cases hs : side = 0 ∨ side = 1
  · by_cases hm : mayS side ini
    · rw [roomS_yes hm]
      have qa := room_wrap a ini ha.out hm.2.1 hm.2.2
      have qb := room_wrap b ini hb.out hm.2.1 hm.2.2
      have HM := hide hm
      clear hm
      rcases hs with rfl | rfl
      all_goals
        go_enter Try.func9, Try.ntmps9
        go_wp2_with fail
        refine (side_in a b _ _ ha.out hb.out (by simp)).mono ?_
        rintro e w1 ⟨rfl, rfl⟩
        go_wp2_with fail
        refine (may16_yes _ ini _ HM.out).mono ?_
        rintro e w1 ⟨rfl, rfl⟩
        go_wp2_with fail
        go_ret
        exact ⟨rfl, (Below.refl _ _).alloc (Nat.le_refl _) _⟩
    · rw [roomS_no hm]
      have HM := hide hm
      clear hm
      rcases hs with rfl | rfl
      all_goals
        go_enter Try.func9, Try.ntmps9
        go_wp2_with fail
        refine (side_in a b _ _ ha.out hb.out (by simp)).mono ?_
        rintro e w1 ⟨rfl, rfl⟩
        go_wp2_with fail
        refine (may16_no _ ini _ HM.out).mono ?_
        rintro e w1 ⟨rfl, rfl⟩
        go_wp2_with fail
        go_ret
        exact ⟨rfl, (Below.refl _ _).alloc (Nat.le_refl _) _⟩
  · rw [roomS_no (fun h => hs h.1)]
    have H0 : Hid (¬ side = 0) := hide fun h => hs (.inl h)
    have H1 : Hid (¬ side = 1) := hide fun h => hs (.inr h)
    clear hs
    go_enter Try.func9, Try.ntmps9
    go_wp2_with fail
    refine (side_out _ _ side _ H0.out H1.out).mono ?_
    rintro e w1 ⟨rfl, rfl⟩
    go_wp2_with fail
    go_ret
    exact ⟨rfl, (Below.refl _ _).alloc (Nat.le_refl _) _⟩

theorem room10 (a b side ini : Int) (w : World) (ha : Hid (Am a)) (hb : Hid (Am b)) : Calls Try.prog 10 #[.agg #[.int .i64 a, .int .i64 b], .int .i64 side, .int .i64 ini] w fun e w' => e = .returned (.int .i64 (roomS a b side ini)) ∧ Below w.heap.size w w' := by
  by_cases hm : mayS side ini
  · have hs := hm.1
    rw [roomS_yes hm]
    have qa := room_wrap a ini ha.out hm.2.1 hm.2.2
    have qb := room_wrap b ini hb.out hm.2.1 hm.2.2
    have HM := hide hm
    clear hm
    rcases hs with rfl | rfl
    all_goals
      go_enter Try.func10, Try.ntmps10
      go_wp2_with fail
      refine (may17_yes _ ini _ HM.out).mono ?_
      rintro e w1 ⟨rfl, rfl⟩
      go_wp2_with fail
      refine (rside_in a b _ _ ha hb (by simp)).mono ?_
      rintro e w1 ⟨rfl, hb1⟩
      have HB1 := hide (below_base1 hb1)
      clear hb1
      go_wp2_with fail
      go_ret
      exact ⟨rfl, HB1.out⟩
  · rw [roomS_no hm]
    have HM := hide hm
    clear hm
    go_enter Try.func10, Try.ntmps10
    go_wp2_with fail
    refine (may17_no _ ini _ HM.out).mono ?_
    rintro e w1 ⟨rfl, rfl⟩
    go_wp2_with fail
    go_ret
    exact ⟨rfl, (Below.refl _ _).alloc (Nat.le_refl _) _⟩
end Go.Proofs.Ytphbmbenkbefhaa
