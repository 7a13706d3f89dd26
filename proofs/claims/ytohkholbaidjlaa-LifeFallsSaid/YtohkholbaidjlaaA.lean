/- The contract of life.Ask. -/
import Derived.Test.YtohkholbaidjlaaL
namespace Go.Proofs.Ytohkholbaidjlaa
open Go.RowKit

theorem ask_wrong (k o y side t : Int) (a b kept : Bool) (w : World) (h : rightS k o a b y = false ∨ sid side = false) : Calls Try.prog 7 #[.agg #[.int .i64 k, .int .i64 o, .bool a, .bool b, .int .i64 y], .int .i64 side, .int .i64 t, .bool kept] w fun e w' =>
    e = .returned (.tuple #[.int .i64 0, .int .i64 0]) ∧ Below w.heap.size w w' := by
  have H := hide h
  clear h
  by_cases hr : rightS k o a b y = true
  · have HR := hide hr
    have HS := hide (show sid side = false from by rcases H.out with h | h; (rw [hr] at h; cases h); exact h)
    clear hr
    go_enter Try.func7, Try.ntmps7
    go_wp2_with fail
    refine (right_any _ _ _ _ _ _ true HR.out).mono ?_
    rintro e w1 ⟨rfl, hb⟩
    have hb1 := below_base1 hb
    clear hb
    go_wp2_with fail
    refine (sided_q _ _ false HS.out).mono ?_
    rintro e w2 ⟨rfl, rfl⟩
    go_wp2_with fail
    go_ret2
    exact ⟨rfl, hb1⟩
  · have HR := hide (show rightS k o a b y = false from by simpa using hr)
    clear hr
    go_enter Try.func7, Try.ntmps7
    go_wp2_with fail
    refine (right_any _ _ _ _ _ _ false HR.out).mono ?_
    rintro e w1 ⟨rfl, hb⟩
    have hb1 := below_base1 hb
    clear hb
    go_wp2_with fail
    go_ret2
    exact ⟨rfl, hb1⟩

set_option maxRecDepth 100000 in
set_option maxHeartbeats 1000000 in
theorem ask_right (k o y side t : Int) (a b kept : Bool) (w : World) (hr : rightS k o a b y = true) (hs : sid side = true) : Calls Try.prog 7 #[.agg #[.int .i64 k, .int .i64 o, .bool a, .bool b, .int .i64 y], .int .i64 side, .int .i64 t, .bool kept] w fun e w' =>
    e = .returned (.tuple #[.int .i64 (askS k o a b y side t kept).1, .int .i64 (askS k o a b y side t kept).2]) ∧ Below w.heap.size w w' := by
  have HR := hide hr
  have HS := hide hs
  clear hr hs
  go_enter Try.func7, Try.ntmps7
  go_wp2_with fail
  refine (right_any _ _ _ _ _ _ true HR.out).mono ?_
  rintro e w1 ⟨rfl, hb⟩
  have hb1 := below_base1 hb
  have B1 : Blk w1 w.heap.size 27 #[.int .i64 k, .int .i64 o, .bool a, .bool b, .int .i64 y] := (Blk.born _ _ _).kept hb
  clear hb
  have c0 : w1.cell? ⟨w.heap.size, 0, none⟩ = some (.int .i64 k) := B1.cell 0
  have c1 : w1.cell? ⟨w.heap.size, 1, none⟩ = some (.int .i64 o) := B1.cell 1
  have c2 : w1.cell? ⟨w.heap.size, 2, none⟩ = some (.bool a) := B1.cell 2
  have c3 : w1.cell? ⟨w.heap.size, 3, none⟩ = some (.bool b) := B1.cell 3
  have c4 : w1.cell? ⟨w.heap.size, 4, none⟩ = some (.int .i64 y) := B1.cell 4
  go_wp2_with fail
  refine (sided_q _ _ true HS.out).mono ?_
  rintro e w2 ⟨rfl, rfl⟩
  rcases sid_cases HS.out with rfl | rfl
  all_goals
    have HF : Hid True := trivial
    go_wp2_with (first | (go_at_call 18; refine (promise_any _ _ _ _ _ _ _ _).mono ?_; rintro e w3 ⟨rfl, hb⟩; have hb3 := below_next hb1 hb; clear hb) | (go_at_call 19; refine (breaks_any _ _ _).mono ?_; rintro e w3 ⟨rfl, rfl⟩; have hb3 := hb1) | (go_at_call 20; refine (skipped_any _ _ _ _ _ _ _ _).mono ?_; rintro e w3 ⟨rfl, hb⟩; have hb3 := below_next hb1 hb; clear hb) | (go_at_call 21; refine (reserved_any _ _ _).mono ?_; rintro e w3 ⟨rfl, rfl⟩) | (go_at_call 22; refine (closed_any _ _ _ _ _ _ _ _ _).mono ?_; rintro e w3 ⟨rfl, hb⟩; have hb3 := below_next hb1 hb; clear hb))
    all_goals
      go_ret2
      refine ⟨ret_two ?_, by first | exact hb3 | exact hb1⟩
      have h1 := HR.out
      have h2 := HS.out
      unfold askS
      simp_all
      done
end Go.Proofs.Ytohkholbaidjlaa
