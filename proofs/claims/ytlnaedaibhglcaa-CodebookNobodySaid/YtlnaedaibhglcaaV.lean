/- CodebookNobody's walk. -/
import Derived.Test.YtlnaedaibhglcaaT
namespace Go.Proofs.Ytlnaedaibhglcaa
open Go.RowKit

theorem zero_book : (Try.prog.info? 41).map (fun i => i.zero) = some (some (.agg (bookCells false))) := by kernel_rfl
theorem wpList_bookalloc {ops : Array Oper} {rest : List Oper} {o : Oper} {a : Act} {w : World} {Q : Exit → Act → World → Prop} (hg : o.guard = none) (ho : o.op = .alloc 41)
    (h : wpList Try.prog ops Q rest (a.put o.dst (.pointer (some ⟨w.heap.size, 0, none⟩))) (w.alloc (.cells (bookCells false) 41))) : wpList Try.prog ops Q (o :: rest) a w := by
  refine wpList_plain hg fun _ hK => ?_
  unfold Oper.wp execOp
  have hz := zero_book
  obtain ⟨p, hp⟩ : ∃ p, p = Try.prog := ⟨_, rfl⟩
  rw [← hp] at hz h hK ⊢
  clear hp
  cases hi : p.info? 41 with
  | none => rw [hi] at hz; cases hz
  | some i =>
    rw [hi] at hz
    have hz2 : i.zero = some (.agg (bookCells false)) := by simpa using hz
    have e : (Instr.alloc 41 true (.tuple #[])).run p w = .ok (.pointer (some ⟨w.heap.size, 0, none⟩)) (w.alloc (.cells (bookCells false) 41)) := by
      simp [Instr.alloc, zeroValue, typeInfo, hi, hz2, go_sem]
    simp only [ho, Sem.run_bind, e, Result.andThen_ok]
    exact hK _ _ h

theorem code_nil (s : Int) (w : World) : Calls Try.prog 8 #[.pointer none, .int .i64 s] w fun e w' => e = .returned (.tuple #[.int .i64 0, .int .i64 0]) ∧ w = w' := by
  go_enter Try.func8, Try.ntmps8
  go_wp2_with fail
  refine (has_nil s _).mono ?_
  rintro e w1 ⟨rfl, rfl⟩
  go_wp2_with fail
  go_ret2
  exact ⟨rfl, rfl⟩
theorem code_zero (g : Nat) (s : Int) (w : World) (h : Hid (w.cell? ⟨g, 0, none⟩ = some (.bool false))) : Calls Try.prog 8 #[.pointer (some ⟨g, 0, none⟩), .int .i64 s] w fun e w' => e = .returned (.tuple #[.int .i64 0, .int .i64 0]) ∧ w = w' := by
  go_enter Try.func8, Try.ntmps8
  go_wp2_with fail
  refine (has_zero g s _ h.out).mono ?_
  rintro e w1 ⟨rfl, rfl⟩
  go_wp2_with fail
  go_ret2
  exact ⟨rfl, rfl⟩
theorem len_nil (s : Int) (w : World) : Calls Try.prog 13 #[.pointer none, .int .i64 s] w fun e w' => e = .returned (.int .i64 0) ∧ w = w' := by
  go_enter Try.func13, Try.ntmps13
  go_wp2_with fail
  refine (has_nil s _).mono ?_
  rintro e w1 ⟨rfl, rfl⟩
  go_wp2_with fail
  go_ret
  exact ⟨rfl, rfl⟩
theorem len_zero (g : Nat) (s : Int) (w : World) (h : Hid (w.cell? ⟨g, 0, none⟩ = some (.bool false))) : Calls Try.prog 13 #[.pointer (some ⟨g, 0, none⟩), .int .i64 s] w fun e w' => e = .returned (.int .i64 0) ∧ w = w' := by
  go_enter Try.func13, Try.ntmps13
  go_wp2_with fail
  refine (has_zero g s _ h.out).mono ?_
  rintro e w1 ⟨rfl, rfl⟩
  go_wp2_with fail
  go_ret
  exact ⟨rfl, rfl⟩
theorem find_nil (c n : Int) (w : World) : Calls Try.prog 10 #[.pointer none, .int .i64 c, .int .i64 n] w fun e w' => e = .returned (.tuple #[.int .i64 0, .bool false]) ∧ w = w' := by
  go_enter Try.func10, Try.ntmps10
  go_wp2_with fail
  refine (has_nil 0 _).mono ?_
  rintro e w1 ⟨rfl, rfl⟩
  go_wp2_with fail
  go_ret2
  exact ⟨rfl, rfl⟩
theorem find_zero (g : Nat) (c n : Int) (w : World) (h : Hid (w.cell? ⟨g, 0, none⟩ = some (.bool false))) : Calls Try.prog 10 #[.pointer (some ⟨g, 0, none⟩), .int .i64 c, .int .i64 n] w fun e w' => e = .returned (.tuple #[.int .i64 0, .bool false]) ∧ w = w' := by
  go_enter Try.func10, Try.ntmps10
  go_wp2_with fail
  refine (has_zero g 0 _ h.out).mono ?_
  rintro e w1 ⟨rfl, rfl⟩
  go_wp2_with fail
  go_ret2
  exact ⟨rfl, rfl⟩
theorem order_nil (w : World) : Calls Try.prog 16 #[.pointer none] w fun e w' => e = .returned (.slice none 0 0) ∧ w = w' := by
  go_enter Try.func16, Try.ntmps16
  go_wp2_with fail
  go_ret
  exact ⟨rfl, rfl⟩
theorem order_zero (g : Nat) (w : World) (h : w.cell? ⟨g, 258, none⟩ = some (.slice none 0 0)) : Calls Try.prog 16 #[.pointer (some ⟨g, 0, none⟩)] w fun e w' => e = .returned (.slice none 0 0) ∧ w = w' := by
  go_enter Try.func16, Try.ntmps16
  go_wp2_with fail
  refine (clone_nil _).mono ?_
  rintro e w1 ⟨rfl, rfl⟩
  go_wp2_with fail
  go_ret
  exact ⟨rfl, rfl⟩

set_option maxRecDepth 10000 in
theorem lnobody_any (s n : Int) (w : World) : Calls Try.prog 6 #[.int .i64 s, .int .i64 n] w fun e w' => e = .returned (.bool true) ∧ Below w.heap.size w w' := by
  have HB := hide (Bk.born w false)
  have HC : Hid ((w.alloc (.cells (bookCells false) 41)).cell? ⟨w.heap.size, 0, none⟩ = some (.bool false)) := hide (HB.out.cell (by omega))
  have HO : Hid ((w.alloc (.cells (bookCells false) 41)).cell? ⟨w.heap.size, 258, none⟩ = some (.slice none 0 0)) := hide (HB.out.cell (by omega))
  have HW : Hid (Below w.heap.size w (w.alloc (.cells (bookCells false) 41))) := hide ((Below.refl _ _).alloc (Nat.le_refl _) _)
  go_enter Try.func6, Try.ntmps6
  go_wp2_with (refine wpList_bookalloc rfl rfl ?_)
  refine (code_nil s _).mono ?_
  rintro e w1 ⟨rfl, hw⟩
  rw [hw] at HC HO HW
  clear hw HB
  go_wp2_with fail
  refine (code_zero w.heap.size s _ HC).mono ?_
  rintro e w2 ⟨rfl, rfl⟩
  go_wp2_with fail
  refine (find_nil s n _).mono ?_
  rintro e w2 ⟨rfl, rfl⟩
  go_wp2_with fail
  refine (find_zero w.heap.size s n _ HC).mono ?_
  rintro e w2 ⟨rfl, rfl⟩
  go_wp2_with fail
  refine (len_nil s _).mono ?_
  rintro e w2 ⟨rfl, rfl⟩
  go_wp2_with fail
  refine (len_zero w.heap.size s _ HC).mono ?_
  rintro e w2 ⟨rfl, rfl⟩
  go_wp2_with fail
  refine (order_nil _).mono ?_
  rintro e w2 ⟨rfl, rfl⟩
  go_wp2_with fail
  refine (order_zero w.heap.size _ HO.out).mono ?_
  rintro e w2 ⟨rfl, rfl⟩
  go_wp2_with fail
  refine (alive_any _).mono ?_
  rintro e w9 ⟨rfl, hb⟩
  have HW9 := hide (below_nextB HW.out HW.out.size hb)
  clear hb
  go_wp2_with fail
  go_ret
  exact ⟨rfl, HW9.out⟩
end Go.Proofs.Ytlnaedaibhglcaa
