/- Contracts: Right, Side, of the reference; is; alive. -/
import Derived.Test.YtphbmbenkbefhaaM
namespace Go.Proofs.Ytphbmbenkbefhaa
open Go.RowKit

theorem rright_yes (a b : Int) (w : World) (ha : Hid (Am a)) (hb : Hid (Am b)) : Calls Try.prog 22 #[.agg #[.int .i64 a, .int .i64 b]] w fun e w' => e = .returned (.bool true) ∧ Below w.heap.size w w' := by
  go_enter Try.func22, Try.ntmps22
  go_wp2_with fail
  refine (amount18_yes a _ ha.out).mono ?_
  rintro e w1 ⟨rfl, rfl⟩
  go_wp2_with fail
  refine (amount18_yes b _ hb.out).mono ?_
  rintro e w1 ⟨rfl, rfl⟩
  go_wp2_with fail
  go_ret
  exact ⟨rfl, (Below.refl _ _).alloc (Nat.le_refl _) _⟩
theorem rright_no (a b : Int) (w : World) (h : Hid (¬ (Am a ∧ Am b))) : Calls Try.prog 22 #[.agg #[.int .i64 a, .int .i64 b]] w fun e w' => e = .returned (.bool false) ∧ Below w.heap.size w w' := by
  by_cases ha : Am a
  · have HA := hide ha
    have HB : Hid (¬ Am b) := hide fun hb => h.out ⟨ha, hb⟩
    clear ha h
    go_enter Try.func22, Try.ntmps22
    go_wp2_with fail
    refine (amount18_yes a _ HA.out).mono ?_
    rintro e w1 ⟨rfl, rfl⟩
    go_wp2_with fail
    refine (amount18_no b _ HB.out).mono ?_
    rintro e w1 ⟨rfl, rfl⟩
    go_wp2_with fail
    go_ret
    exact ⟨rfl, (Below.refl _ _).alloc (Nat.le_refl _) _⟩
  · have HA := hide ha
    clear ha h
    go_enter Try.func22, Try.ntmps22
    go_wp2_with fail
    refine (amount18_no a _ HA.out).mono ?_
    rintro e w1 ⟨rfl, rfl⟩
    go_wp2_with fail
    go_ret
    exact ⟨rfl, (Below.refl _ _).alloc (Nat.le_refl _) _⟩

theorem rside_out (a b side : Int) (w : World) (h0 : ¬ side = 0) (h1 : ¬ side = 1) : Calls Try.prog 18 #[.agg #[.int .i64 a, .int .i64 b], .int .i64 side] w fun e w' => e = .returned (.tuple #[.int .i64 0, .int .i64 1]) ∧ Below w.heap.size w w' := by
  have g0 : (side != 0) = true := by simpa using h0
  have g1 : (side != 1) = true := by simpa using h1
  go_enter Try.func18, Try.ntmps18
  go_wp2_with fail
  go_ret2
  exact ⟨rfl, (Below.refl _ _).alloc (Nat.le_refl _) _⟩
theorem rside_in (a b side : Int) (w : World) (ha : Hid (Am a)) (hb : Hid (Am b)) (hs : side = 0 ∨ side = 1) : Calls Try.prog 18 #[.agg #[.int .i64 a, .int .i64 b], .int .i64 side] w fun e w' => e = .returned (.tuple #[.int .i64 (if side = 0 then a else b), .int .i64 0]) ∧ Below w.heap.size w w' := by
  rcases hs with rfl | rfl
  all_goals
    go_enter Try.func18, Try.ntmps18
    go_wp2_with fail
    refine (rright_yes a b _ ha hb).mono ?_
    rintro e w1 ⟨rfl, hb1⟩
    have B := (Blk.born w 28 #[.int .i64 a, .int .i64 b]).kept hb1
    have c0 : w1.cell? ⟨w.heap.size, 0, none⟩ = some (.int .i64 a) := B.cell 0
    have c1 : w1.cell? ⟨w.heap.size, 1, none⟩ = some (.int .i64 b) := B.cell 1
    have HB1 := hide (below_base1 hb1)
    clear hb1
    go_wp2_with fail
    go_ret2
    exact ⟨rfl, HB1.out⟩
theorem rside_q (a b side x e0 : Int) (w : World) (ha : Hid (Am a)) (hb : Hid (Am b)) (h : Hid (sideS a b side = (x, e0))) : Calls Try.prog 18 #[.agg #[.int .i64 a, .int .i64 b], .int .i64 side] w fun e w' => e = .returned (.tuple #[.int .i64 x, .int .i64 e0]) ∧ Below w.heap.size w w' := by
  have h := h.out
  unfold sideS at h
  split at h
  · rename_i hs
    injection h with h1 h2
    subst h1 h2 hs
    exact rside_in a b 0 w ha hb (.inl rfl)
  · rename_i hs
    split at h
    · rename_i hs1
      injection h with h1 h2
      subst h1 h2 hs1
      exact rside_in a b 1 w ha hb (.inr rfl)
    · rename_i hs1
      injection h with h1 h2
      subst h1 h2
      exact rside_out a b side w hs hs1

end Go.Proofs.Ytphbmbenkbefhaa
