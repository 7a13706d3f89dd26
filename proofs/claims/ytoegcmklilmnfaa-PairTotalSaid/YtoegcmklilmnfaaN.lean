/- Contracts: Right, Side, of the reference; is; alive. -/
import Derived.Test.YtoegcmklilmnfaaM
namespace Go.Proofs.Ytoegcmklilmnfaa
open Go.RowKit

theorem rright_yes (a b : Int) (w : World) (ha : Hid (Am a)) (hb : Hid (Am b)) : Calls Try.prog 7 #[.agg #[.int .i64 a, .int .i64 b]] w fun e w' => e = .returned (.bool true) ∧ Below w.heap.size w w' := by
  go_enter Try.func7, Try.ntmps7
  go_wp2_with fail
  refine (amount18_yes a _ ha.out).mono ?_
  rintro e w1 ⟨rfl, rfl⟩
  go_wp2_with fail
  refine (amount18_yes b _ hb.out).mono ?_
  rintro e w1 ⟨rfl, rfl⟩
  go_wp2_with fail
  go_ret
  exact ⟨rfl, (Below.refl _ _).alloc (Nat.le_refl _) _⟩
theorem rright_no (a b : Int) (w : World) (h : Hid (¬ (Am a ∧ Am b))) : Calls Try.prog 7 #[.agg #[.int .i64 a, .int .i64 b]] w fun e w' => e = .returned (.bool false) ∧ Below w.heap.size w w' := by
  by_cases ha : Am a
  · have HA := hide ha
    have HB : Hid (¬ Am b) := hide fun hb => h.out ⟨ha, hb⟩
    clear ha h
    go_enter Try.func7, Try.ntmps7
    go_wp2_with fail
    refine (amount18_yes a _ HA.out).mono ?_
    rintro e w1 ⟨rfl, rfl⟩
    go_wp2_with fail
    refine (amount18_no b _ HB.out).mono ?_
    rintro e w1 ⟨rfl, rfl⟩
    go_wp2_with fail
    go_ret
    exact ⟨rfl, (Below.refl _ _).alloc (Nat.le_refl _) _⟩
  · have HA := hide ha
    clear ha h
    go_enter Try.func7, Try.ntmps7
    go_wp2_with fail
    refine (amount18_no a _ HA.out).mono ?_
    rintro e w1 ⟨rfl, rfl⟩
    go_wp2_with fail
    go_ret
    exact ⟨rfl, (Below.refl _ _).alloc (Nat.le_refl _) _⟩

theorem rside_out (a b side : Int) (w : World) (h0 : ¬ side = 0) (h1 : ¬ side = 1) : Calls Try.prog 10 #[.agg #[.int .i64 a, .int .i64 b], .int .i64 side] w fun e w' => e = .returned (.tuple #[.int .i64 0, .int .i64 1]) ∧ Below w.heap.size w w' := by
  have g0 : (side != 0) = true := by simpa using h0
  have g1 : (side != 1) = true := by simpa using h1
  go_enter Try.func10, Try.ntmps10
  go_wp2_with fail
  go_ret2
  exact ⟨rfl, (Below.refl _ _).alloc (Nat.le_refl _) _⟩
theorem rside_in (a b side : Int) (w : World) (ha : Hid (Am a)) (hb : Hid (Am b)) (hs : side = 0 ∨ side = 1) : Calls Try.prog 10 #[.agg #[.int .i64 a, .int .i64 b], .int .i64 side] w fun e w' => e = .returned (.tuple #[.int .i64 (if side = 0 then a else b), .int .i64 0]) ∧ Below w.heap.size w w' := by
  rcases hs with rfl | rfl
  all_goals
    go_enter Try.func10, Try.ntmps10
    go_wp2_with fail
    refine (rright_yes a b _ ha hb).mono ?_
    rintro e w1 ⟨rfl, hb1⟩
    have B := (Blk.born w 27 #[.int .i64 a, .int .i64 b]).kept hb1
    have c0 : w1.cell? ⟨w.heap.size, 0, none⟩ = some (.int .i64 a) := B.cell 0
    have c1 : w1.cell? ⟨w.heap.size, 1, none⟩ = some (.int .i64 b) := B.cell 1
    have HB1 := hide (below_base1 hb1)
    clear hb1
    go_wp2_with fail
    go_ret2
    exact ⟨rfl, HB1.out⟩
theorem rside_q (a b side x e0 : Int) (w : World) (ha : Hid (Am a)) (hb : Hid (Am b)) (h : Hid (sideS a b side = (x, e0))) : Calls Try.prog 10 #[.agg #[.int .i64 a, .int .i64 b], .int .i64 side] w fun e w' => e = .returned (.tuple #[.int .i64 x, .int .i64 e0]) ∧ Below w.heap.size w w' := by
  have h := h.out
  unfold sideS at h
  split at h
  · rename_i hs
    injection h with h1 h2
    subst h1 h2 hs
    exact rside_in a b 0 w ha hb (.inl rfl)
  · rename_i hs
    split at h
    · rename_i hs1
      injection h with h1 h2
      subst h1 h2 hs1
      exact rside_in a b 1 w ha hb (.inr rfl)
    · rename_i hs1
      injection h with h1 h2
      subst h1 h2
      exact rside_out a b side w hs hs1

theorem is_q (a b x y : Int) (q : Bool) (w : World) (ha : Hid (Am a)) (hb : Hid (Am b)) (h : Hid ((a == x && b == y) = q)) : Calls Try.prog 11 #[.complex .f64 (fw a) (fw b), .agg #[.int .i64 x, .int .i64 y]] w fun e w' => e = .returned (.bool q) ∧ Below w.heap.size w w' := by
  by_cases hx : (a == x) = true
  all_goals
    have hx' := hx
    (try simp only [Bool.not_eq_true] at hx')
    go_enter Try.func11, Try.ntmps11
    go_wp2_with fail
    refine (side_q a b 0 a 0 _ ha hb (hide rfl)).mono ?_
    rintro e w1 ⟨rfl, rfl⟩
    go_wp2_with fail
    refine (side_q a b 1 b 0 _ ha hb (hide rfl)).mono ?_
    rintro e w1 ⟨rfl, rfl⟩
    go_wp2_with fail
    go_ret
    refine ⟨ret_bool ?_, (Below.refl _ _).alloc (Nat.le_refl _) _⟩
    rw [← h.out, hx']
    try rfl

theorem alive_any (w : World) : Calls Try.prog 8 #[] w fun e w' => e = .returned (.bool true) ∧ Below w.heap.size w w' := by
  have H5 : Hid (Am 5) := hide (by decide)
  have H2 : Hid (Am (-2)) := hide (by decide)
  have H1 : Hid (Am 1) := hide (by decide)
  go_enter Try.func8, Try.ntmps8
  go_wp2_with fail
  refine (of_yes 5 (-2) _ H5 H2).mono ?_
  rintro e w1 ⟨rfl, rfl⟩
  go_wp2_with fail
  refine (move_ok1 5 (-2) 3 1 _ H5.out H2.out (by decide) (by decide) H1.out).mono ?_
  rintro e w1 ⟨rfl, rfl⟩
  go_wp2_with fail
  refine (swap_q 5 1 _ H5 H1).mono ?_
  rintro e w1 ⟨rfl, rfl⟩
  go_wp2_with fail
  refine (is_q 1 5 1 5 true _ H1 H5 (hide rfl)).mono ?_
  rintro e w1 ⟨rfl, hb⟩
  go_wp2_with fail
  go_ret
  exact ⟨rfl, hb⟩
end Go.Proofs.Ytoegcmklilmnfaa
