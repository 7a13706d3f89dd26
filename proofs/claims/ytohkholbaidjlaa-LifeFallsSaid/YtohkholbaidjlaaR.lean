/- The contracts of the reference's functions, at the same words as life's; own. -/
import Derived.Test.YtohkholbaidjlaaL
namespace Go.Proofs.Ytohkholbaidjlaa
open Go.RowKit

theorem ints01 {o : Int} : sid o = true ↔ o = 0 ∨ o = 1 := by simp [sid]
theorem ints01f {o : Int} : sid o = false ↔ o ≠ 0 ∧ o ≠ 1 := by simp [sid]

set_option maxRecDepth 100000 in
set_option maxHeartbeats 1000000 in
theorem rright_any (k o : Int) (a b : Bool) (y : Int) (w : World) :
    Calls Try.prog 11 #[.agg #[.int .i64 k, .int .i64 o, .bool a, .bool b, .int .i64 y]] w fun e w' => e = .returned (.bool (rightS k o a b y)) ∧ Below w.heap.size w w' := by
  cases a <;> cases b
  all_goals
    go_enter Try.func11, Try.ntmps11
    go_wp2
    all_goals
      go_ret
      refine ⟨ret_bool ?_, (Below.refl _ _).alloc (Nat.le_refl _) _⟩
      unfold rightS
      simp_all [sid]
      try first | rfl | omega

theorem rpromise_any (k o y side : Int) (a b kept : Bool) (w : World) : Calls Try.prog 23 #[.agg #[.int .i64 k, .int .i64 o, .bool a, .bool b, .int .i64 y], .int .i64 side, .bool kept] w fun e w' =>
    e = .returned (.tuple #[.int .i64 (promS k o b y side kept).1, .int .i64 (promS k o b y side kept).2]) ∧ Below w.heap.size w w' := by
  go_enter Try.func23, Try.ntmps23
  go_wp2
  all_goals
    go_ret2
    refine ⟨ret_two ?_, (Below.refl _ _).alloc (Nat.le_refl _) _⟩
    unfold promS
    simp_all

theorem rclosed_any (k o y side t : Int) (a b kept : Bool) (w : World) (hy : 0 ≤ y ∧ y ≤ 2) (hs : sid side = true) : Calls Try.prog 24 #[.agg #[.int .i64 k, .int .i64 o, .bool a, .bool b, .int .i64 y], .int .i64 side, .int .i64 t, .bool kept] w fun e w' =>
    e = .returned (.tuple #[.int .i64 (closedS y side t kept).1, .int .i64 (closedS y side t kept).2]) ∧ Below w.heap.size w w' := by
  have hy' : y = 0 ∨ y = 1 ∨ y = 2 := by omega
  clear hy
  rcases hy' with rfl | rfl | rfl <;> rcases sid_cases hs with rfl | rfl <;> cases kept
  all_goals
    clear hs
    go_enter Try.func24, Try.ntmps24
    go_wp2
    all_goals
      go_ret2
      refine ⟨ret_two ?_, (Below.refl _ _).alloc (Nat.le_refl _) _⟩
      unfold closedS
      simp_all

theorem own_any (k o : Int) (a b : Bool) (y : Int) (w : World) :
    Calls Try.prog 8 #[.agg #[.int .i64 k, .int .i64 o, .bool a, .bool b, .int .i64 y]] w fun e w' => e = .returned (.agg #[.int .i64 k, .int .i64 o, .bool a, .bool b, .int .i64 y]) ∧ Below w.heap.size w w' := by
  go_enter Try.func8, Try.ntmps8
  go_wp2
  refine bodyPost_ret (v := .agg #[.int .i64 k, .int .i64 o, .bool a, .bool b, .int .i64 y]) (by simp [results, Try.results8, go_sem]) rfl ⟨rfl, ?_⟩
  exact ((Below.refl _ _).alloc (Nat.le_refl _) _).alloc (by simp) _

theorem rright_q (k o : Int) (a b : Bool) (y : Int) (w : World) (q : Bool) (h : rightS k o a b y = q) :
    Calls Try.prog 11 #[.agg #[.int .i64 k, .int .i64 o, .bool a, .bool b, .int .i64 y]] w fun e w' => e = .returned (.bool q) ∧ Below w.heap.size w w' := by
  rw [← h]; exact rright_any k o a b y w

theorem rask_wrong (k o y side t : Int) (a b kept : Bool) (w : World) (h : rightS k o a b y = false ∨ sid side = false) : Calls Try.prog 9 #[.agg #[.int .i64 k, .int .i64 o, .bool a, .bool b, .int .i64 y], .int .i64 side, .int .i64 t, .bool kept] w fun e w' =>
    e = .returned (.tuple #[.int .i64 0, .int .i64 0]) ∧ Below w.heap.size w w' := by
  by_cases hr : rightS k o a b y = true
  · have HR := hide hr
    have hs : sid side = false := by rcases h with h | h; (rw [hr] at h; cases h); exact h
    have s0 : (side == 0) = false := by simpa using (sid_not hs).1
    have s1 : (side == 1) = false := by simpa using (sid_not hs).2
    have s2 : (side != 0) = true := by simpa using (sid_not hs).1
    have s3 : (side != 1) = true := by simpa using (sid_not hs).2
    clear hr h hs
    go_enter Try.func9, Try.ntmps9
    go_wp2_with fail
    refine (rright_q _ _ _ _ _ _ true HR.out).mono ?_
    rintro e w1 ⟨rfl, hb⟩
    have hb1 := below_base1 hb
    clear hb
    go_wp2_with fail
    go_ret2
    exact ⟨rfl, hb1⟩
  · have HR := hide (show rightS k o a b y = false from by simpa using hr)
    clear hr h
    go_enter Try.func9, Try.ntmps9
    go_wp2_with fail
    refine (rright_q _ _ _ _ _ _ false HR.out).mono ?_
    rintro e w1 ⟨rfl, hb⟩
    have hb1 := below_base1 hb
    clear hb
    go_wp2_with fail
    go_ret2
    exact ⟨rfl, hb1⟩

theorem right_y {k o : Int} {a b : Bool} {y : Int} (h : rightS k o a b y = true) : 0 ≤ y ∧ y ≤ 2 := by
  unfold rightS at h
  simp only [Bool.and_eq_true] at h
  have h2 := h.2
  split at h2
  · simp at h2; omega
  · split at h2
    · simp at h2; omega
    · split at h2
      · simp at h2; omega
      · split at h2
        · simp at h2; omega
        · cases h2
theorem right_k {k o : Int} {a b : Bool} {y : Int} (h : rightS k o a b y = true) : 0 ≤ k ∧ k ≤ 4 := by
  unfold rightS at h
  simp only [Bool.and_eq_true] at h
  have h2 := h.2
  split at h2
  · omega
  · split at h2
    · omega
    · split at h2
      · omega
      · split at h2
        · omega
        · cases h2

set_option maxRecDepth 100000 in
set_option maxHeartbeats 1000000 in
theorem rask_right (k o y side t : Int) (a b kept : Bool) (w : World) (hr : rightS k o a b y = true) (hs : sid side = true) : Calls Try.prog 9 #[.agg #[.int .i64 k, .int .i64 o, .bool a, .bool b, .int .i64 y], .int .i64 side, .int .i64 t, .bool kept] w fun e w' =>
    e = .returned (.tuple #[.int .i64 (askS k o a b y side t kept).1, .int .i64 (askS k o a b y side t kept).2]) ∧ Below w.heap.size w w' := by
  have HR := hide hr
  have HS := hide hs
  have HY := hide (right_y hr)
  have HK := hide (right_k hr)
  clear hr hs
  rcases sid_cases HS.out with rfl | rfl
  all_goals
    go_enter Try.func9, Try.ntmps9
    go_wp2_with fail
    refine (rright_q _ _ _ _ _ _ true HR.out).mono ?_
    rintro e w1 ⟨rfl, hb⟩
    have hb1 := below_base1 hb
    have B1 : Blk w1 w.heap.size 24 #[.int .i64 k, .int .i64 o, .bool a, .bool b, .int .i64 y] := (Blk.born _ _ _).kept hb
    clear hb
    have c0 : w1.cell? ⟨w.heap.size, 0, none⟩ = some (.int .i64 k) := B1.cell 0
    have c1 : w1.cell? ⟨w.heap.size, 1, none⟩ = some (.int .i64 o) := B1.cell 1
    have c2 : w1.cell? ⟨w.heap.size, 2, none⟩ = some (.bool a) := B1.cell 2
    have c3 : w1.cell? ⟨w.heap.size, 3, none⟩ = some (.bool b) := B1.cell 3
    have c4 : w1.cell? ⟨w.heap.size, 4, none⟩ = some (.int .i64 y) := B1.cell 4
    go_wp2_with (first | (go_at_call 23; refine (rpromise_any _ _ _ _ _ _ _ _).mono ?_; rintro e w3 ⟨rfl, hb⟩; have hb3 := below_next hb1 hb; clear hb) | (go_at_call 24; refine (rclosed_any _ _ _ _ _ _ _ _ _ HY.out HS.out).mono ?_; rintro e w3 ⟨rfl, hb⟩; have hb3 := below_next hb1 hb; clear hb))
    all_goals
      go_ret2
      refine ⟨ret_two ?_, by first | exact hb3 | exact hb1⟩
      have h1 := HR.out
      have h2 := HS.out
      have h3 := HK.out
      unfold askS
      simp_all [skipS, resvS]
      try first | omega | (subst_vars; simp)
end Go.Proofs.Ytohkholbaidjlaa
