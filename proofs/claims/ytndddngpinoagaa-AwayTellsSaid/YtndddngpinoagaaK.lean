/- Contracts of the functions that AwayTells reaches: Beyond, Tell, Last (away), May, Beyond (the reference). -/
import Derived.Test.YtndddngpinoagaaRows
import Derived.Test.YtndddngpinoagaaK0
import Derived.WalkKit
import Derived.WalkLawsBesides
import Derived.WalkSpells
import Derived.RegionTactic
import Derived.Outline
import Derived.Deep.QuietTactic
import Derived.BigQuiet
import Derived.Below
namespace Go.Proofs.Ytndddngpinoagaa
open Go.RowKit

theorem bcell {W w1 : World} (hb : Below W.heap.size W w1) (b o : Nat) (h : b < W.heap.size) : w1.cell? ⟨b, o, none⟩ = W.cell? ⟨b, o, none⟩ := hb.cell (p := ⟨b, o, none⟩) h
theorem bfroz {W w1 : World} (hb : Below W.heap.size W w1) (b o : Nat) (h : b < W.heap.size) : w1.frozen? ⟨b, o, none⟩ = W.frozen? ⟨b, o, none⟩ := hb.frozen (p := ⟨b, o, none⟩) h

def bey (t : Bool) (x id : Int) : Bool := t && decide (x < id)

theorem beyond_any (t : Bool) (x id : Int) (w : World) :
    Calls Try.prog 5 #[.agg #[.bool t, .int .i64 x], .int .i64 id] w fun e w' => e = .returned (.bool (bey t x id)) ∧ Below w.heap.size w w' := by
  cases t
  · go_enter Try.func5, Try.ntmps5
    go_wp2
    go_ret
    exact ⟨rfl, (Below.refl _ _).alloc (Nat.le_refl _) _⟩
  · go_enter Try.func5, Try.ntmps5
    go_wp2
    all_goals go_ret
    all_goals exact ⟨by simp [bey, *], (Below.refl _ _).alloc (Nat.le_refl _) _⟩

theorem last_any (t : Bool) (x : Int) (w : World) :
    Calls Try.prog 8 #[.agg #[.bool t, .int .i64 x]] w fun e w' => e = .returned (.tuple #[.int .i64 x, .bool t]) ∧ Below w.heap.size w w' := by
  go_enter Try.func8, Try.ntmps8
  go_wp2
  go_quiet (fail)
  go_wp2
  go_ret2
  exact ⟨rfl, below_drewN ((Below.refl _ _).alloc (Nat.le_refl _) _) _⟩

def tel (t : Bool) (x n : Int) : Bool := decide (0 ≤ n) && (decide (n ≤ 2147483647) && !(bey t x n))

theorem tell_yes (t : Bool) (x n : Int) (w : World) (h : tel t x n = true) :
    Calls Try.prog 6 #[.agg #[.bool t, .int .i64 x], .int .i64 n] w fun e w' => e = .returned (.tuple #[.agg #[.bool true, .int .i64 n], .bool true]) ∧ Below w.heap.size w w' := by
  have hn : 0 ≤ n := by simp [tel] at h; omega
  have hm : n ≤ 2147483647 := by simp [tel] at h; omega
  have hq : bey t x n = false := by simp [tel] at h; simpa using h.2.2
  clear h
  go_enter Try.func6, Try.ntmps6
  go_wp2_with (go_at_call 5; refine (beyond_any _ _ _ _).mono ?_; rintro e w1 ⟨rfl, hb⟩; have hc := bcell hb; have hf := bfroz hb; have hz := hb.size; simp at hz)
  refine bodyPost_ret (v := .tuple #[.agg #[.bool true, .int .i64 n], .bool true]) (by simp [results, Try.results6, go_sem, hc, hf, hz]) rfl ⟨rfl, ?_⟩
  exact ((((Below.refl _ _).alloc (Nat.le_refl _) _).alloc (by simp) _).trans (hb.mono (by simp; omega))).setCell (by simp) _ |>.setCell (by simp) _

theorem tell_no (t : Bool) (x n : Int) (w : World) (h : tel t x n = false) :
    Calls Try.prog 6 #[.agg #[.bool t, .int .i64 x], .int .i64 n] w fun e w' => e = .returned (.tuple #[.agg #[.bool false, .int .i64 0], .bool false]) ∧ Below w.heap.size w w' := by
  by_cases hn : 0 ≤ n
  · by_cases hm : n ≤ 2147483647
    · have hq : bey t x n = true := by simp [tel, hn, hm] at h; exact h
      clear h
      go_enter Try.func6, Try.ntmps6
      go_wp2_with (go_at_call 5; refine (beyond_any _ _ _ _).mono ?_; rintro e w1 ⟨rfl, hb⟩; have hc := bcell hb; have hf := bfroz hb; have hz := hb.size; simp at hz)
      refine bodyPost_ret (v := .tuple #[.agg #[.bool false, .int .i64 0], .bool false]) (by simp [results, Try.results6, go_sem, hc, hf, hz]) rfl ⟨rfl, ?_⟩
      exact ((((Below.refl _ _).alloc (Nat.le_refl _) _).alloc (by simp) _).trans (hb.mono (by simp; omega))).setCell (by simp) _ |>.setCell (by simp) _
    · clear h
      have hm' : 2147483647 < n := by omega
      go_enter Try.func6, Try.ntmps6
      go_wp2_with fail
      refine bodyPost_ret (v := .tuple #[.agg #[.bool false, .int .i64 0], .bool false]) (by simp [results, Try.results6, go_sem]) rfl ⟨rfl, ?_⟩
      exact (((Below.refl _ _).alloc (Nat.le_refl _) _).alloc (by simp) _)
  · clear h
    have hm' : n < 0 := by omega
    go_enter Try.func6, Try.ntmps6
    go_wp2_with fail
    refine bodyPost_ret (v := .tuple #[.agg #[.bool false, .int .i64 0], .bool false]) (by simp [results, Try.results6, go_sem]) rfl ⟨rfl, ?_⟩
    exact (((Below.refl _ _).alloc (Nat.le_refl _) _).alloc (by simp) _)

theorem beyond_q (t : Bool) (x id : Int) (w : World) (q : Bool) (hq : bey t x id = q) :
    Calls Try.prog 5 #[.agg #[.bool t, .int .i64 x], .int .i64 id] w fun e w' => e = .returned (.bool q) ∧ Below w.heap.size w w' := by
  rw [← hq]; exact beyond_any t x id w

theorem alive_any (w : World) : Calls Try.prog 4 #[] w fun e w' => e = .returned (.bool true) ∧ Below w.heap.size w w' := by
  go_enter Try.func4, Try.ntmps4
  go_wp2_with fail
  refine (tell_yes false 0 5 _ (by decide)).mono ?_
  rintro e w1 ⟨rfl, hb⟩
  have hb1 : Below w.heap.size w w1 := below_base1 hb
  have A1 : Blk w1 w.heap.size 25 #[.bool false, .int .i64 0] := (Blk.born _ _ _).kept hb
  clear hb
  have hA1 := A1.lt
  go_wp2_with fail
  refine (tell_no true 5 7 _ (by decide)).mono ?_
  rintro e w2 ⟨rfl, hb⟩
  have hb2 : Below w.heap.size w w2 := below_next1 hb1 hb
  have A2 : Blk w2 w.heap.size 25 #[.bool false, .int .i64 0] := (A1.alloc _).kept hb
  have B2 : Blk w2 w1.heap.size 25 #[.bool true, .int .i64 5] := (Blk.born _ _ _).kept hb
  clear hb
  have hB2 := B2.lt
  have c0 : w2.cell? ⟨w1.heap.size, 0, none⟩ = some (.bool true) := B2.cell 0
  have c1 : w2.cell? ⟨w1.heap.size, 1, none⟩ = some (.int .i64 5) := B2.cell 1
  go_wp2_with fail
  refine (beyond_q true 5 7 _ true rfl).mono ?_
  rintro e w3 ⟨rfl, hb⟩
  have hb3 : Below w.heap.size w w3 := below_next1 hb2 hb
  have A3 : Blk w3 w.heap.size 25 #[.bool false, .int .i64 0] := (A2.alloc _).kept hb
  have B3 : Blk w3 w1.heap.size 25 #[.bool true, .int .i64 5] := (B2.alloc _).kept hb
  clear hb c0 c1
  have c0 : w3.cell? ⟨w1.heap.size, 0, none⟩ = some (.bool true) := B3.cell 0
  have c1 : w3.cell? ⟨w1.heap.size, 1, none⟩ = some (.int .i64 5) := B3.cell 1
  go_wp2_with fail
  refine (beyond_q true 5 5 _ false rfl).mono ?_
  rintro e w4 ⟨rfl, hb⟩
  have hb4 : Below w.heap.size w w4 := below_next hb3 hb
  have A4 : Blk w4 w.heap.size 25 #[.bool false, .int .i64 0] := A3.kept hb
  clear hb c0 c1
  have c0 : w4.cell? ⟨w.heap.size, 0, none⟩ = some (.bool false) := A4.cell 0
  have c1 : w4.cell? ⟨w.heap.size, 1, none⟩ = some (.int .i64 0) := A4.cell 1
  go_wp2_with fail
  refine (beyond_q false 0 7 _ false rfl).mono ?_
  rintro e w5 ⟨rfl, hb⟩
  have hb5 : Below w.heap.size w w5 := below_next hb4 hb
  clear hb
  go_wp2_with fail
  go_ret
  exact ⟨rfl, hb5⟩
end Go.Proofs.Ytndddngpinoagaa
