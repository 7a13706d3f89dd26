/- Contracts of breaks, promise, skipped, reserved, closed (life) and of promise, closed (the reference). -/
import Derived.Test.YtohkholbaidjlaaK
namespace Go.Proofs.Ytohkholbaidjlaa
open Go.RowKit

theorem ret_two {a b c d : Int} (h : (a, b) = (c, d)) : Ending.returned (.tuple #[.int .i64 a, .int .i64 b]) = .returned (.tuple #[.int .i64 c, .int .i64 d]) := by
  injection h with h1 h2; rw [h1, h2]

theorem breaks_any (r : Int) (u : Bool) (w : World) : Calls Try.prog 19 #[.int .i64 r, .bool u] w fun e w' => e = .returned (.tuple #[.int .i64 (if u then 1 else 3), .int .i64 (if u then 0 else r)]) ∧ w = w' := by
  cases u
  all_goals
    go_enter Try.func19, Try.ntmps19
    go_wp2
    go_ret2
    exact ⟨rfl, rfl⟩
theorem breaks_q (r : Int) (u : Bool) (w : World) (x y : Int) (hx : (if u then 1 else 3) = x) (hy : (if u then 0 else r) = y) : Calls Try.prog 19 #[.int .i64 r, .bool u] w fun e w' => e = .returned (.tuple #[.int .i64 x, .int .i64 y]) ∧ w = w' := by
  rw [← hx, ← hy]; exact breaks_any r u w

def resvS (side t : Int) : Bool := if t = 1 then decide (side = 1) else if t = 8 then decide (side = 0) else decide (t = 3)
theorem reserved_any (side t : Int) (w : World) : Calls Try.prog 21 #[.int .i64 side, .int .i64 t] w fun e w' => e = .returned (.bool (resvS side t)) ∧ w = w' := by
  go_enter Try.func21, Try.ntmps21
  go_wp2
  all_goals
    go_ret
    refine ⟨ret_bool ?_, rfl⟩
    unfold resvS
    simp_all
    try rfl

def skipS (o side t : Int) : Int × Int := (3, if t = 1 ∧ side = o then 11 else 16)
theorem skipped_any (k o y side t : Int) (a b : Bool) (w : World) : Calls Try.prog 20 #[.agg #[.int .i64 k, .int .i64 o, .bool a, .bool b, .int .i64 y], .int .i64 side, .int .i64 t] w fun e w' =>
    e = .returned (.tuple #[.int .i64 (skipS o side t).1, .int .i64 (skipS o side t).2]) ∧ Below w.heap.size w w' := by
  by_cases h1 : t = 1
  · have e1 : (t == 1) = true := by simpa using h1
    by_cases h2 : side = o
    · have e2 : (side == o) = true := by simpa using h2
      have H1 := hide h1
      have H2 := hide h2
      clear h2 h1
      go_enter Try.func20, Try.ntmps20
      go_wp2
      go_ret2
      exact ⟨ret_two (by simp [skipS, H1.out, H2.out]), (Below.refl _ _).alloc (Nat.le_refl _) _⟩
    · have e2 : (side == o) = false := by simpa using h2
      have H2 := hide h2
      clear h2 h1
      go_enter Try.func20, Try.ntmps20
      go_wp2
      go_ret2
      exact ⟨ret_two (by simp [skipS, H2.out]), (Below.refl _ _).alloc (Nat.le_refl _) _⟩
  · have e1 : (t == 1) = false := by simpa using h1
    have H1 := hide h1
    clear h1
    go_enter Try.func20, Try.ntmps20
    go_wp2
    go_ret2
    exact ⟨ret_two (by simp [skipS, H1.out]), (Below.refl _ _).alloc (Nat.le_refl _) _⟩

def closedS (y side t : Int) (kept : Bool) : Int × Int :=
  if kept = false then (3, 16) else if y = side then (3, 15) else if y = 2 ∧ t ≠ 3 ∧ t ≠ 8 then (3, 14) else (2, 0)

theorem closed_any (k o y side t : Int) (a b kept : Bool) (w : World) : Calls Try.prog 22 #[.agg #[.int .i64 k, .int .i64 o, .bool a, .bool b, .int .i64 y], .int .i64 side, .int .i64 t, .bool kept] w fun e w' =>
    e = .returned (.tuple #[.int .i64 (closedS y side t kept).1, .int .i64 (closedS y side t kept).2]) ∧ Below w.heap.size w w' := by
  cases kept
  all_goals
    go_enter Try.func22, Try.ntmps22
    go_wp2
    all_goals
      go_ret2
      refine ⟨ret_two ?_, (Below.refl _ _).alloc (Nat.le_refl _) _⟩
      unfold closedS
      simp_all

def promS (k o : Int) (b : Bool) (y side : Int) (kept : Bool) : Int × Int :=
  if (k = 3 ∧ b = false ∨ k = 4 ∧ y = 0 ∧ kept = true) ∧ side = 1 ∧ o = 0 then (1, 0) else (3, 22)

set_option maxHeartbeats 400000 in
theorem promise_any (k o y side : Int) (a b kept : Bool) (w : World) : Calls Try.prog 18 #[.agg #[.int .i64 k, .int .i64 o, .bool a, .bool b, .int .i64 y], .int .i64 side, .bool kept] w fun e w' =>
    e = .returned (.tuple #[.int .i64 (promS k o b y side kept).1, .int .i64 (promS k o b y side kept).2]) ∧ Below w.heap.size w w' := by
  go_enter Try.func18, Try.ntmps18
  go_wp2_with (go_at_call 19; refine (breaks_any _ _ _).mono ?_; rintro e w1 ⟨rfl, rfl⟩)
  all_goals
    go_ret2
    refine ⟨ret_two ?_, (Below.refl _ _).alloc (Nat.le_refl _) _⟩
    unfold promS
    simp_all

/-- What a frame means, in each state. -/
def askS (k o : Int) (a b : Bool) (y side t : Int) (kept : Bool) : Int × Int :=
  if rightS k o a b y = false ∨ sid side = false then (0, 0)
  else if t = 2 then (2, 0)
  else if t = 5 then promS k o b y side kept
  else if t ≠ 0 ∧ t ≠ 1 ∧ t ≠ 3 ∧ t ≠ 8 then (0, 0)
  else if k = 0 then (if t = 1 ∧ side = 0 ∧ o = 0 then (1, 0) else (3, 10))
  else if k = 1 then skipS o side t
  else if k = 2 then (if resvS side t then (1, 0) else (3, 12))
  else if k = 3 then (if (t = 0 ∨ t = 1) ∧ (if side = 0 then a else b) = true then (3, 13) else (1, 0))
  else closedS y side t kept
end Go.Proofs.Ytohkholbaidjlaa
