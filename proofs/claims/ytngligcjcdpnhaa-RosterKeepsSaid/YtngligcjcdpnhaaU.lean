/- Contract: Begin of a roster, refused or full. -/
import Derived.Test.YtngligcjcdpnhaaT
import Derived.Deep.QuietTactic
import Derived.BigQuiet
namespace Go.Proofs.Ytngligcjcdpnhaa
open Go.RowKit Go.Maps
set_option linter.unusedSimpArgs false
set_option linter.unusedVariables false

theorem beg_nil (m : Sm) (w : World) : Calls Try.prog 11 #[.pointer none, .agg #[.int .i64 m.id, .int .i64 m.k, .int .i64 m.o, .bool m.a, .bool m.b, .int .i64 m.y, .complex .f64 m.cx m.cy, .bool false, .string ByteArray.empty, .int .i64 0, .int .i64 0, .int .i64 0, .bool false, .string ByteArray.empty, .int .i64 0, .int .i64 0, .int .i64 0]] w fun e w' => e = .returned (.int .i64 2) ∧ Below w.heap.size w w' := by
  go_enter Try.func11, Try.ntmps11
  go_wp2_with fail
  go_ret
  exact ⟨rfl, st_alloc1 w _⟩

set_option maxHeartbeats 2000000 in
theorem beg_no {M : Int} {l : List Sm} {F : List Nat} (g : Nat) (m : Sm) (w : World) (hn1 : Hid (l.length ≤ 1000)) (H : Hid (Ro w g M l F)) (hm : Hid (mayS m = false)) :
    Calls Try.prog 11 #[.pointer (some ⟨g, 0, none⟩), .agg #[.int .i64 m.id, .int .i64 m.k, .int .i64 m.o, .bool m.a, .bool m.b, .int .i64 m.y, .complex .f64 m.cx m.cy, .bool false, .string ByteArray.empty, .int .i64 0, .int .i64 0, .int .i64 0, .bool false, .string ByteArray.empty, .int .i64 0, .int .i64 0, .int .i64 0]] w fun e w' => e = .returned (.int .i64 1) ∧ Below w.heap.size w w' := by
  obtain ⟨A, n, c, am, H0⟩ := H.out
  have HI := hide H0
  have hnn : n ≤ 1000 := by rw [← H0.num]; exact hn1.out
  clear H0
  obtain ⟨v, hv⟩ : ∃ v, w.heap.size = v := ⟨_, rfl⟩
  obtain ⟨W1, hW1⟩ : ∃ W1, w.alloc (.cells #[.int .i64 m.id, .int .i64 m.k, .int .i64 m.o, .bool m.a, .bool m.b, .int .i64 m.y, .complex .f64 m.cx m.cy, .bool false, .string ByteArray.empty, .int .i64 0, .int .i64 0, .int .i64 0, .bool false, .string ByteArray.empty, .int .i64 0, .int .i64 0, .int .i64 0] 41) = W1 := ⟨_, rfl⟩
  have HW1 : Hid (Below w.heap.size w W1) := hide (by rw [← hW1]; exact st_alloc1 w _)
  have HC : Hid (Blk W1 v 41 #[.int .i64 m.id, .int .i64 m.k, .int .i64 m.o, .bool m.a, .bool m.b, .int .i64 m.y, .complex .f64 m.cx m.cy, .bool false, .string ByteArray.empty, .int .i64 0, .int .i64 0, .int .i64 0, .bool false, .string ByteArray.empty, .int .i64 0, .int .i64 0, .int .i64 0]) := hide (by rw [← hW1, ← hv]; exact Blk.born w 41 _)
  have HRG : Hid (W1.rangeAt v 0 (row17 m)) := hide (row_cells HC.out)
  have HMM := hide (may_any m W1.drew false hm.out)
  go_enter Try.func11, Try.ntmps11
  go_wp2_with fail
  refine wp_region_held_drew (S := fun w' => w'.rangeAt v 0 (row17 m) ∧ True) (by kernel_rfl) (⟨HRG.out, trivial⟩) (fun hHeld => ?_)
  refine wpAnyH_take (i := 0) (v := .agg #[.int .i64 m.id, .int .i64 m.k, .int .i64 m.o, .bool m.a, .bool m.b, .int .i64 m.y, .complex .f64 m.cx m.cy, .bool false, .string ByteArray.empty, .int .i64 0, .int .i64 0, .int .i64 0, .bool false, .string ByteArray.empty, .int .i64 0, .int .i64 0, .int .i64 0]) rfl (by kernel_rfl) (by kernel_rfl) (by kernel_rfl) (fun _ _ _ h => h) ?hz (by assumption) ?_
  case hz => exact yieldsIf_load_mid (by rfl) 41 (.tmp 3) rfl v 0 (by rfl) (row17 m) _ (fun _ h => h.1) Try.underlying41 rfl size41
  (try dsimp only [List.getElem_toArray, List.getElem_cons_zero, List.getElem_cons_succ])
  try simp only [Act.put, List.setIfInBounds_toArray, List.set_cons_zero, List.set_cons_succ]
  refine wpAnyH_ready (rs := [1]) (by kernel_rfl) (by simp) ?_
  refine AllReadyH.cons rfl (fun K' hK => ?_) AllReadyH.nil
  go_simp
  go_at_call 25
  refine HMM.out.mono ?_
  rintro e w2 ⟨rfl, hb⟩
  have HB2 : Hid (Below w.heap.size w w2) := hide (below_nextB (below_drewN HW1.out 1) (by exact HW1.out.size) hb)
  have HD : Hid (Below W1.heap.size W1 w2) := hide (below_undrew hb)
  have HC2 := hide (Blk.kept HC.out HD.out)
  have HRG2 : Hid (w2.rangeAt v 0 (row17 m)) := hide (row_cells HC2.out)
  clear hb HMM
  go_wp2_with fail
  refine hK.out _ _ ⟨HRG2.out, trivial⟩ (fun hHeld => ?_)
  clear hK
  (try dsimp only [List.getElem_toArray, List.getElem_cons_zero, List.getElem_cons_succ])
  try simp only [Act.put, List.setIfInBounds_toArray, List.set_cons_zero, List.set_cons_succ]
  refine wpAnyH_take (i := 2) (v := ?_) rfl (by kernel_rfl) (by kernel_rfl) (by kernel_rfl) (fun _ _ _ h => h) (Or.inl ⟨by rfl, ?hy⟩) (by assumption) ?_
  case hy => intro w hSw; obtain ⟨hR, hS1⟩ := hSw; (try clear hR); (try dsimp only at *); go_simp; (try with_reducible rfl)
  (try dsimp only [List.getElem_toArray, List.getElem_cons_zero, List.getElem_cons_succ])
  try simp only [Act.put, List.setIfInBounds_toArray, List.set_cons_zero, List.set_cons_succ]
  refine wpAnyH_take (i := 3) (v := ?_) rfl (by kernel_rfl) (by kernel_rfl) (by kernel_rfl) (fun _ _ _ h => h) (Or.inl ⟨by rfl, ?hy⟩) (by assumption) ?_
  case hy => intro w hSw; obtain ⟨hR, hS1⟩ := hSw; (try clear hR); (try dsimp only at *); go_simp; (try with_reducible rfl)
  (try dsimp only [List.getElem_toArray, List.getElem_cons_zero, List.getElem_cons_succ])
  try simp only [Act.put, List.setIfInBounds_toArray, List.set_cons_zero, List.set_cons_succ]
  refine wpAnyH_take (i := 4) (v := undef) rfl (by kernel_rfl) (by kernel_rfl) (by kernel_rfl) (fun _ _ _ h => h) (Or.inr ⟨by rfl, rfl⟩) (by assumption) ?_
  (try dsimp only [List.getElem_toArray, List.getElem_cons_zero, List.getElem_cons_succ])
  try simp only [Act.put, List.setIfInBounds_toArray, List.set_cons_zero, List.set_cons_succ]
  refine wpAnyH_take (i := 5) (v := undef) rfl (by kernel_rfl) (by kernel_rfl) (by kernel_rfl) (fun _ _ _ h => h) (Or.inr ⟨by rfl, rfl⟩) (by assumption) ?_
  (try dsimp only [List.getElem_toArray, List.getElem_cons_zero, List.getElem_cons_succ])
  try simp only [Act.put, List.setIfInBounds_toArray, List.set_cons_zero, List.set_cons_succ]
  refine wpAnyH_take (i := 6) (v := undef) rfl (by kernel_rfl) (by kernel_rfl) (by kernel_rfl) (fun _ _ _ h => h) (Or.inr ⟨by rfl, rfl⟩) (by assumption) ?_
  (try dsimp only [List.getElem_toArray, List.getElem_cons_zero, List.getElem_cons_succ])
  try simp only [Act.put, List.setIfInBounds_toArray, List.set_cons_zero, List.set_cons_succ]
  refine wpAnyH_take (i := 7) (v := undef) rfl (by kernel_rfl) (by kernel_rfl) (by kernel_rfl) (fun _ _ _ h => h) (Or.inr ⟨by rfl, rfl⟩) (by assumption) ?_
  (try dsimp only [List.getElem_toArray, List.getElem_cons_zero, List.getElem_cons_succ])
  try simp only [Act.put, List.setIfInBounds_toArray, List.set_cons_zero, List.set_cons_succ]
  refine wpAnyH_take (i := 8) (v := undef) rfl (by kernel_rfl) (by kernel_rfl) (by kernel_rfl) (fun _ _ _ h => h) (Or.inr ⟨by rfl, rfl⟩) (by assumption) ?_
  (try dsimp only [List.getElem_toArray, List.getElem_cons_zero, List.getElem_cons_succ])
  try simp only [Act.put, List.setIfInBounds_toArray, List.set_cons_zero, List.set_cons_succ]
  refine wpAnyH_take (i := 9) (v := undef) rfl (by kernel_rfl) (by kernel_rfl) (by kernel_rfl) (fun _ _ _ h => h) (Or.inr ⟨by rfl, rfl⟩) (by assumption) ?_
  (try dsimp only [List.getElem_toArray, List.getElem_cons_zero, List.getElem_cons_succ])
  try simp only [Act.put, List.setIfInBounds_toArray, List.set_cons_zero, List.set_cons_succ]
  refine wpAnyH_take (i := 10) (v := undef) rfl (by kernel_rfl) (by kernel_rfl) (by kernel_rfl) (fun _ _ _ h => h) (Or.inr ⟨by rfl, rfl⟩) (by assumption) ?_
  (try dsimp only [List.getElem_toArray, List.getElem_cons_zero, List.getElem_cons_succ])
  try simp only [Act.put, List.setIfInBounds_toArray, List.set_cons_zero, List.set_cons_succ]
  refine wpAnyH_take (i := 11) (v := undef) rfl (by kernel_rfl) (by kernel_rfl) (by kernel_rfl) (fun _ _ _ h => h) (Or.inr ⟨by rfl, rfl⟩) (by assumption) ?_
  (try dsimp only [List.getElem_toArray, List.getElem_cons_zero, List.getElem_cons_succ])
  try simp only [Act.put, List.setIfInBounds_toArray, List.set_cons_zero, List.set_cons_succ]
  refine wpAnyH_take (i := 12) (v := undef) rfl (by kernel_rfl) (by kernel_rfl) (by kernel_rfl) (fun _ _ _ h => h) (Or.inr ⟨by rfl, rfl⟩) (by assumption) ?_
  (try dsimp only [List.getElem_toArray, List.getElem_cons_zero, List.getElem_cons_succ])
  try simp only [Act.put, List.setIfInBounds_toArray, List.set_cons_zero, List.set_cons_succ]
  refine wpAnyH_take (i := 13) (v := undef) rfl (by kernel_rfl) (by kernel_rfl) (by kernel_rfl) (fun _ _ _ h => h) (Or.inr ⟨by rfl, rfl⟩) (by assumption) ?_
  (try dsimp only [List.getElem_toArray, List.getElem_cons_zero, List.getElem_cons_succ])
  try simp only [Act.put, List.setIfInBounds_toArray, List.set_cons_zero, List.set_cons_succ]
  refine wpAnyH_take (i := 14) (v := undef) rfl (by kernel_rfl) (by kernel_rfl) (by kernel_rfl) (fun _ _ _ h => h) (Or.inr ⟨by rfl, rfl⟩) (by assumption) ?_
  (try dsimp only [List.getElem_toArray, List.getElem_cons_zero, List.getElem_cons_succ])
  try simp only [Act.put, List.setIfInBounds_toArray, List.set_cons_zero, List.set_cons_succ]
  refine wpAnyH_take (i := 15) (v := ?_) rfl (by kernel_rfl) (by kernel_rfl) (by kernel_rfl) (fun _ _ _ h => h) (Or.inl ⟨by rfl, ?hy⟩) (by assumption) ?_
  case hy => intro w hSw; obtain ⟨hR, hS1⟩ := hSw; (try clear hR); (try dsimp only at *); go_simp; (try with_reducible rfl)
  (try dsimp only [List.getElem_toArray, List.getElem_cons_zero, List.getElem_cons_succ])
  try simp only [Act.put, List.setIfInBounds_toArray, List.set_cons_zero, List.set_cons_succ]
  refine wpAnyH_take (i := 16) (v := ?_) rfl (by kernel_rfl) (by kernel_rfl) (by kernel_rfl) (fun _ _ _ h => h) (Or.inl ⟨by rfl, ?hy⟩) (by assumption) ?_
  case hy => intro w hSw; obtain ⟨hR, hS1⟩ := hSw; (try clear hR); (try dsimp only at *); go_simp; (try with_reducible rfl)
  (try dsimp only [List.getElem_toArray, List.getElem_cons_zero, List.getElem_cons_succ])
  try simp only [Act.put, List.setIfInBounds_toArray, List.set_cons_zero, List.set_cons_succ]
  refine wpAnyH_done (by kernel_rfl) ?_ _
  try refine NoPanic.normal ?_

  go_wp2_with fail
  go_ret
  exact ⟨rfl, HB2.out⟩

set_option maxHeartbeats 2000000 in
theorem beg_old0 {M : Int} {l : List Sm} {F : List Nat} (g : Nat) (m : Sm) (z : Int) (w : World) (hn1 : Hid (l.length ≤ 1000)) (H : Hid (Ro w g M l F)) (hm : Hid (mayS m = true)) (HMO : Hid (m.o = 0)) (HZ : Hid (lastL l 0 = z)) (hle : m.id ≤ z) :
    Calls Try.prog 11 #[.pointer (some ⟨g, 0, none⟩), .agg #[.int .i64 m.id, .int .i64 m.k, .int .i64 m.o, .bool m.a, .bool m.b, .int .i64 m.y, .complex .f64 m.cx m.cy, .bool false, .string ByteArray.empty, .int .i64 0, .int .i64 0, .int .i64 0, .bool false, .string ByteArray.empty, .int .i64 0, .int .i64 0, .int .i64 0]] w fun e w' => e = .returned (.int .i64 1) ∧ Below w.heap.size w w' := by
  obtain ⟨A, n, c, am, H0⟩ := H.out
  have HI := hide H0
  have hnn : n ≤ 1000 := by rw [← H0.num]; exact hn1.out
  clear H0
  obtain ⟨v, hv⟩ : ∃ v, w.heap.size = v := ⟨_, rfl⟩
  obtain ⟨W1, hW1⟩ : ∃ W1, w.alloc (.cells #[.int .i64 m.id, .int .i64 m.k, .int .i64 m.o, .bool m.a, .bool m.b, .int .i64 m.y, .complex .f64 m.cx m.cy, .bool false, .string ByteArray.empty, .int .i64 0, .int .i64 0, .int .i64 0, .bool false, .string ByteArray.empty, .int .i64 0, .int .i64 0, .int .i64 0] 41) = W1 := ⟨_, rfl⟩
  have HW1 : Hid (Below w.heap.size w W1) := hide (by rw [← hW1]; exact st_alloc1 w _)
  have HC : Hid (Blk W1 v 41 #[.int .i64 m.id, .int .i64 m.k, .int .i64 m.o, .bool m.a, .bool m.b, .int .i64 m.y, .complex .f64 m.cx m.cy, .bool false, .string ByteArray.empty, .int .i64 0, .int .i64 0, .int .i64 0, .bool false, .string ByteArray.empty, .int .i64 0, .int .i64 0, .int .i64 0]) := hide (by rw [← hW1, ← hv]; exact Blk.born w 41 _)
  have HRG : Hid (W1.rangeAt v 0 (row17 m)) := hide (row_cells HC.out)
  have HMM := hide (may_any m W1.drew true hm.out)
  have x0 : W1.cell? ⟨v, 0, none⟩ = some (.int .i64 m.id) := HC.out.cell 0
  have x2 : W1.cell? ⟨v, 2, none⟩ = some (.int .i64 0) := (HC.out.cell 2).trans (by show some (Value.int .i64 m.o) = _; rw [HMO.out])
  have H1 := hide (HI.out.kept HW1.out)
  have c3 : W1.cell? ⟨g, 3, none⟩ = some (.int .i64 z) := (H1.out.blk.cell 3).trans (by show some (Value.int .i64 (lastL l 0)) = _; rw [HZ.out])
  go_enter Try.func11, Try.ntmps11
  go_wp2_with fail
  refine wp_region_held_drew (S := fun w' => w'.rangeAt v 0 (row17 m) ∧ w'.cell? ⟨v, 0, none⟩ = some (.int .i64 m.id) ∧ w'.cell? ⟨v, 2, none⟩ = some (.int .i64 0) ∧ w'.cell? ⟨g, 3, none⟩ = some (.int .i64 z)) (by kernel_rfl) (⟨HRG.out, x0, x2, c3⟩) (fun hHeld => ?_)
  refine wpAnyH_take (i := 0) (v := .agg #[.int .i64 m.id, .int .i64 m.k, .int .i64 m.o, .bool m.a, .bool m.b, .int .i64 m.y, .complex .f64 m.cx m.cy, .bool false, .string ByteArray.empty, .int .i64 0, .int .i64 0, .int .i64 0, .bool false, .string ByteArray.empty, .int .i64 0, .int .i64 0, .int .i64 0]) rfl (by kernel_rfl) (by kernel_rfl) (by kernel_rfl) (fun _ _ _ h => h) ?hz (by assumption) ?_
  case hz => exact yieldsIf_load_mid (by rfl) 41 (.tmp 3) rfl v 0 (by rfl) (row17 m) _ (fun _ h => h.1) Try.underlying41 rfl size41
  (try dsimp only [List.getElem_toArray, List.getElem_cons_zero, List.getElem_cons_succ])
  try simp only [Act.put, List.setIfInBounds_toArray, List.set_cons_zero, List.set_cons_succ]
  refine wpAnyH_ready (rs := [1]) (by kernel_rfl) (by simp) ?_
  refine AllReadyH.cons rfl (fun K' hK => ?_) AllReadyH.nil
  go_simp
  go_at_call 25
  refine HMM.out.mono ?_
  rintro e w2 ⟨rfl, hb⟩
  have HB2 : Hid (Below w.heap.size w w2) := hide (below_nextB (below_drewN HW1.out 1) (by exact HW1.out.size) hb)
  have HD : Hid (Below W1.heap.size W1 w2) := hide (below_undrew hb)
  have HC2 := hide (Blk.kept HC.out HD.out)
  have HRG2 : Hid (w2.rangeAt v 0 (row17 m)) := hide (row_cells HC2.out)
  have y0 : w2.cell? ⟨v, 0, none⟩ = some (.int .i64 m.id) := HC2.out.cell 0
  have y2 : w2.cell? ⟨v, 2, none⟩ = some (.int .i64 0) := (HC2.out.cell 2).trans (by show some (Value.int .i64 m.o) = _; rw [HMO.out])
  have H2 := hide (HI.out.kept HB2.out)
  have d3 : w2.cell? ⟨g, 3, none⟩ = some (.int .i64 z) := (H2.out.blk.cell 3).trans (by show some (Value.int .i64 (lastL l 0)) = _; rw [HZ.out])
  clear x0 x2 c3
  clear hb HMM
  go_wp2_with fail
  refine hK.out _ _ ⟨HRG2.out, y0, y2, d3⟩ (fun hHeld => ?_)
  clear hK
  (try dsimp only [List.getElem_toArray, List.getElem_cons_zero, List.getElem_cons_succ])
  try simp only [Act.put, List.setIfInBounds_toArray, List.set_cons_zero, List.set_cons_succ]
  refine wpAnyH_take (i := 2) (v := ?_) rfl (by kernel_rfl) (by kernel_rfl) (by kernel_rfl) (fun _ _ _ h => h) (Or.inl ⟨by rfl, ?hy⟩) (by assumption) ?_
  case hy => intro w hSw; obtain ⟨hR, hS1, hS2, hS3⟩ := hSw; (try clear hR); (try dsimp only at *); go_simp; (try with_reducible rfl)
  (try dsimp only [List.getElem_toArray, List.getElem_cons_zero, List.getElem_cons_succ])
  try simp only [Act.put, List.setIfInBounds_toArray, List.set_cons_zero, List.set_cons_succ]
  refine wpAnyH_take (i := 3) (v := ?_) rfl (by kernel_rfl) (by kernel_rfl) (by kernel_rfl) (fun _ _ _ h => h) (Or.inl ⟨by rfl, ?hy⟩) (by assumption) ?_
  case hy => intro w hSw; obtain ⟨hR, hS1, hS2, hS3⟩ := hSw; (try clear hR); (try dsimp only at *); go_simp; (try with_reducible rfl)
  (try dsimp only [List.getElem_toArray, List.getElem_cons_zero, List.getElem_cons_succ])
  try simp only [Act.put, List.setIfInBounds_toArray, List.set_cons_zero, List.set_cons_succ]
  refine wpAnyH_take (i := 4) (v := ?_) rfl (by kernel_rfl) (by kernel_rfl) (by kernel_rfl) (fun _ _ _ h => h) (Or.inl ⟨by rfl, ?hy⟩) (by assumption) ?_
  case hy => intro w hSw; obtain ⟨hR, hS1, hS2, hS3⟩ := hSw; (try clear hR); (try dsimp only at *); go_simp; (try with_reducible rfl)
  (try dsimp only [List.getElem_toArray, List.getElem_cons_zero, List.getElem_cons_succ])
  try simp only [Act.put, List.setIfInBounds_toArray, List.set_cons_zero, List.set_cons_succ]
  refine wpAnyH_take (i := 5) (v := ?_) rfl (by kernel_rfl) (by kernel_rfl) (by kernel_rfl) (fun _ _ _ h => h) (Or.inl ⟨by rfl, ?hy⟩) (by assumption) ?_
  case hy => intro w hSw; obtain ⟨hR, hS1, hS2, hS3⟩ := hSw; (try clear hR); (try dsimp only at *); go_simp; (try with_reducible rfl)
  (try dsimp only [List.getElem_toArray, List.getElem_cons_zero, List.getElem_cons_succ])
  try simp only [Act.put, List.setIfInBounds_toArray, List.set_cons_zero, List.set_cons_succ]
  refine wpAnyH_take (i := 6) (v := ?_) rfl (by kernel_rfl) (by kernel_rfl) (by kernel_rfl) (fun _ _ _ h => h) (Or.inl ⟨by rfl, ?hy⟩) (by assumption) ?_
  case hy => intro w hSw; obtain ⟨hR, hS1, hS2, hS3⟩ := hSw; (try clear hR); (try dsimp only at *); go_simp; (try with_reducible rfl)
  (try dsimp only [List.getElem_toArray, List.getElem_cons_zero, List.getElem_cons_succ])
  try simp only [Act.put, List.setIfInBounds_toArray, List.set_cons_zero, List.set_cons_succ]
  refine wpAnyH_take (i := 7) (v := ?_) rfl (by kernel_rfl) (by kernel_rfl) (by kernel_rfl) (fun _ _ _ h => h) (Or.inl ⟨by rfl, ?hy⟩) (by assumption) ?_
  case hy => intro w hSw; obtain ⟨hR, hS1, hS2, hS3⟩ := hSw; (try clear hR); (try dsimp only at *); go_simp; (try with_reducible rfl)
  (try dsimp only [List.getElem_toArray, List.getElem_cons_zero, List.getElem_cons_succ])
  try simp only [Act.put, List.setIfInBounds_toArray, List.set_cons_zero, List.set_cons_succ]
  refine wpAnyH_take (i := 8) (v := ?_) rfl (by kernel_rfl) (by kernel_rfl) (by kernel_rfl) (fun _ _ _ h => h) (Or.inl ⟨by rfl, ?hy⟩) (by assumption) ?_
  case hy => intro w hSw; obtain ⟨hR, hS1, hS2, hS3⟩ := hSw; (try clear hR); (try dsimp only at *); go_simp; (try with_reducible rfl)
  (try dsimp only [List.getElem_toArray, List.getElem_cons_zero, List.getElem_cons_succ])
  try simp only [Act.put, List.setIfInBounds_toArray, List.set_cons_zero, List.set_cons_succ]
  refine wpAnyH_take (i := 9) (v := ?_) rfl (by kernel_rfl) (by kernel_rfl) (by kernel_rfl) (fun _ _ _ h => h) (Or.inl ⟨by rfl, ?hy⟩) (by assumption) ?_
  case hy => intro w hSw; obtain ⟨hR, hS1, hS2, hS3⟩ := hSw; (try clear hR); (try dsimp only at *); go_simp; (try with_reducible rfl)
  (try dsimp only [List.getElem_toArray, List.getElem_cons_zero, List.getElem_cons_succ])
  try simp only [Act.put, List.setIfInBounds_toArray, List.set_cons_zero, List.set_cons_succ]
  refine wpAnyH_take (i := 10) (v := ?_) rfl (by kernel_rfl) (by kernel_rfl) (by kernel_rfl) (fun _ _ _ h => h) (Or.inl ⟨by rfl, ?hy⟩) (by assumption) ?_
  case hy => intro w hSw; obtain ⟨hR, hS1, hS2, hS3⟩ := hSw; (try clear hR); (try dsimp only at *); go_simp; (try with_reducible rfl)
  (try dsimp only [List.getElem_toArray, List.getElem_cons_zero, List.getElem_cons_succ])
  try simp only [Act.put, List.setIfInBounds_toArray, List.set_cons_zero, List.set_cons_succ]
  refine wpAnyH_take (i := 11) (v := ?_) rfl (by kernel_rfl) (by kernel_rfl) (by kernel_rfl) (fun _ _ _ h => h) (Or.inl ⟨by rfl, ?hy⟩) (by assumption) ?_
  case hy => intro w hSw; obtain ⟨hR, hS1, hS2, hS3⟩ := hSw; (try clear hR); (try dsimp only at *); go_simp; (try with_reducible rfl)
  (try dsimp only [List.getElem_toArray, List.getElem_cons_zero, List.getElem_cons_succ])
  try simp only [Act.put, List.setIfInBounds_toArray, List.set_cons_zero, List.set_cons_succ]
  refine wpAnyH_take (i := 12) (v := ?_) rfl (by kernel_rfl) (by kernel_rfl) (by kernel_rfl) (fun _ _ _ h => h) (Or.inl ⟨by rfl, ?hy⟩) (by assumption) ?_
  case hy => intro w hSw; obtain ⟨hR, hS1, hS2, hS3⟩ := hSw; (try clear hR); (try dsimp only at *); go_simp; (try with_reducible rfl)
  (try dsimp only [List.getElem_toArray, List.getElem_cons_zero, List.getElem_cons_succ])
  try simp only [Act.put, List.setIfInBounds_toArray, List.set_cons_zero, List.set_cons_succ]
  refine wpAnyH_take (i := 13) (v := ?_) rfl (by kernel_rfl) (by kernel_rfl) (by kernel_rfl) (fun _ _ _ h => h) (Or.inl ⟨by rfl, ?hy⟩) (by assumption) ?_
  case hy => intro w hSw; obtain ⟨hR, hS1, hS2, hS3⟩ := hSw; (try clear hR); (try dsimp only at *); go_simp; (try with_reducible rfl)
  (try dsimp only [List.getElem_toArray, List.getElem_cons_zero, List.getElem_cons_succ])
  try simp only [Act.put, List.setIfInBounds_toArray, List.set_cons_zero, List.set_cons_succ]
  refine wpAnyH_take (i := 14) (v := ?_) rfl (by kernel_rfl) (by kernel_rfl) (by kernel_rfl) (fun _ _ _ h => h) (Or.inl ⟨by rfl, ?hy⟩) (by assumption) ?_
  case hy => intro w hSw; obtain ⟨hR, hS1, hS2, hS3⟩ := hSw; (try clear hR); (try dsimp only at *); go_simp; (try with_reducible rfl)
  (try dsimp only [List.getElem_toArray, List.getElem_cons_zero, List.getElem_cons_succ])
  try simp only [Act.put, List.setIfInBounds_toArray, List.set_cons_zero, List.set_cons_succ]
  refine wpAnyH_take (i := 15) (v := ?_) rfl (by kernel_rfl) (by kernel_rfl) (by kernel_rfl) (fun _ _ _ h => h) (Or.inl ⟨by rfl, ?hy⟩) (by assumption) ?_
  case hy => intro w hSw; obtain ⟨hR, hS1, hS2, hS3⟩ := hSw; (try clear hR); (try dsimp only at *); go_simp; (try with_reducible rfl)
  (try dsimp only [List.getElem_toArray, List.getElem_cons_zero, List.getElem_cons_succ])
  try simp only [Act.put, List.setIfInBounds_toArray, List.set_cons_zero, List.set_cons_succ]
  refine wpAnyH_take (i := 16) (v := ?_) rfl (by kernel_rfl) (by kernel_rfl) (by kernel_rfl) (fun _ _ _ h => h) (Or.inl ⟨by rfl, ?hy⟩) (by assumption) ?_
  case hy => intro w hSw; obtain ⟨hR, hS1, hS2, hS3⟩ := hSw; (try clear hR); (try dsimp only at *); go_simp; (try with_reducible rfl)
  (try dsimp only [List.getElem_toArray, List.getElem_cons_zero, List.getElem_cons_succ])
  try simp only [Act.put, List.setIfInBounds_toArray, List.set_cons_zero, List.set_cons_succ]
  refine wpAnyH_done (by kernel_rfl) ?_ _
  try refine NoPanic.normal ?_

  go_wp2_with fail
  go_ret
  exact ⟨rfl, HB2.out⟩

set_option maxHeartbeats 2000000 in
theorem beg_old1 {M : Int} {l : List Sm} {F : List Nat} (g : Nat) (m : Sm) (z : Int) (w : World) (hn1 : Hid (l.length ≤ 1000)) (H : Hid (Ro w g M l F)) (hm : Hid (mayS m = true)) (HMO : Hid (m.o = 1)) (HZ : Hid (lastL l 1 = z)) (hle : m.id ≤ z) :
    Calls Try.prog 11 #[.pointer (some ⟨g, 0, none⟩), .agg #[.int .i64 m.id, .int .i64 m.k, .int .i64 m.o, .bool m.a, .bool m.b, .int .i64 m.y, .complex .f64 m.cx m.cy, .bool false, .string ByteArray.empty, .int .i64 0, .int .i64 0, .int .i64 0, .bool false, .string ByteArray.empty, .int .i64 0, .int .i64 0, .int .i64 0]] w fun e w' => e = .returned (.int .i64 1) ∧ Below w.heap.size w w' := by
  obtain ⟨A, n, c, am, H0⟩ := H.out
  have HI := hide H0
  have hnn : n ≤ 1000 := by rw [← H0.num]; exact hn1.out
  clear H0
  obtain ⟨v, hv⟩ : ∃ v, w.heap.size = v := ⟨_, rfl⟩
  obtain ⟨W1, hW1⟩ : ∃ W1, w.alloc (.cells #[.int .i64 m.id, .int .i64 m.k, .int .i64 m.o, .bool m.a, .bool m.b, .int .i64 m.y, .complex .f64 m.cx m.cy, .bool false, .string ByteArray.empty, .int .i64 0, .int .i64 0, .int .i64 0, .bool false, .string ByteArray.empty, .int .i64 0, .int .i64 0, .int .i64 0] 41) = W1 := ⟨_, rfl⟩
  have HW1 : Hid (Below w.heap.size w W1) := hide (by rw [← hW1]; exact st_alloc1 w _)
  have HC : Hid (Blk W1 v 41 #[.int .i64 m.id, .int .i64 m.k, .int .i64 m.o, .bool m.a, .bool m.b, .int .i64 m.y, .complex .f64 m.cx m.cy, .bool false, .string ByteArray.empty, .int .i64 0, .int .i64 0, .int .i64 0, .bool false, .string ByteArray.empty, .int .i64 0, .int .i64 0, .int .i64 0]) := hide (by rw [← hW1, ← hv]; exact Blk.born w 41 _)
  have HRG : Hid (W1.rangeAt v 0 (row17 m)) := hide (row_cells HC.out)
  have HMM := hide (may_any m W1.drew true hm.out)
  have x0 : W1.cell? ⟨v, 0, none⟩ = some (.int .i64 m.id) := HC.out.cell 0
  have x2 : W1.cell? ⟨v, 2, none⟩ = some (.int .i64 1) := (HC.out.cell 2).trans (by show some (Value.int .i64 m.o) = _; rw [HMO.out])
  have H1 := hide (HI.out.kept HW1.out)
  have c3 : W1.cell? ⟨g, 4, none⟩ = some (.int .i64 z) := (H1.out.blk.cell 4).trans (by show some (Value.int .i64 (lastL l 1)) = _; rw [HZ.out])
  go_enter Try.func11, Try.ntmps11
  go_wp2_with fail
  refine wp_region_held_drew (S := fun w' => w'.rangeAt v 0 (row17 m) ∧ w'.cell? ⟨v, 0, none⟩ = some (.int .i64 m.id) ∧ w'.cell? ⟨v, 2, none⟩ = some (.int .i64 1) ∧ w'.cell? ⟨g, 4, none⟩ = some (.int .i64 z)) (by kernel_rfl) (⟨HRG.out, x0, x2, c3⟩) (fun hHeld => ?_)
  refine wpAnyH_take (i := 0) (v := .agg #[.int .i64 m.id, .int .i64 m.k, .int .i64 m.o, .bool m.a, .bool m.b, .int .i64 m.y, .complex .f64 m.cx m.cy, .bool false, .string ByteArray.empty, .int .i64 0, .int .i64 0, .int .i64 0, .bool false, .string ByteArray.empty, .int .i64 0, .int .i64 0, .int .i64 0]) rfl (by kernel_rfl) (by kernel_rfl) (by kernel_rfl) (fun _ _ _ h => h) ?hz (by assumption) ?_
  case hz => exact yieldsIf_load_mid (by rfl) 41 (.tmp 3) rfl v 0 (by rfl) (row17 m) _ (fun _ h => h.1) Try.underlying41 rfl size41
  (try dsimp only [List.getElem_toArray, List.getElem_cons_zero, List.getElem_cons_succ])
  try simp only [Act.put, List.setIfInBounds_toArray, List.set_cons_zero, List.set_cons_succ]
  refine wpAnyH_ready (rs := [1]) (by kernel_rfl) (by simp) ?_
  refine AllReadyH.cons rfl (fun K' hK => ?_) AllReadyH.nil
  go_simp
  go_at_call 25
  refine HMM.out.mono ?_
  rintro e w2 ⟨rfl, hb⟩
  have HB2 : Hid (Below w.heap.size w w2) := hide (below_nextB (below_drewN HW1.out 1) (by exact HW1.out.size) hb)
  have HD : Hid (Below W1.heap.size W1 w2) := hide (below_undrew hb)
  have HC2 := hide (Blk.kept HC.out HD.out)
  have HRG2 : Hid (w2.rangeAt v 0 (row17 m)) := hide (row_cells HC2.out)
  have y0 : w2.cell? ⟨v, 0, none⟩ = some (.int .i64 m.id) := HC2.out.cell 0
  have y2 : w2.cell? ⟨v, 2, none⟩ = some (.int .i64 1) := (HC2.out.cell 2).trans (by show some (Value.int .i64 m.o) = _; rw [HMO.out])
  have H2 := hide (HI.out.kept HB2.out)
  have d3 : w2.cell? ⟨g, 4, none⟩ = some (.int .i64 z) := (H2.out.blk.cell 4).trans (by show some (Value.int .i64 (lastL l 1)) = _; rw [HZ.out])
  clear x0 x2 c3
  clear hb HMM
  go_wp2_with fail
  refine hK.out _ _ ⟨HRG2.out, y0, y2, d3⟩ (fun hHeld => ?_)
  clear hK
  (try dsimp only [List.getElem_toArray, List.getElem_cons_zero, List.getElem_cons_succ])
  try simp only [Act.put, List.setIfInBounds_toArray, List.set_cons_zero, List.set_cons_succ]
  refine wpAnyH_take (i := 2) (v := ?_) rfl (by kernel_rfl) (by kernel_rfl) (by kernel_rfl) (fun _ _ _ h => h) (Or.inl ⟨by rfl, ?hy⟩) (by assumption) ?_
  case hy => intro w hSw; obtain ⟨hR, hS1, hS2, hS3⟩ := hSw; (try clear hR); (try dsimp only at *); go_simp; (try with_reducible rfl)
  (try dsimp only [List.getElem_toArray, List.getElem_cons_zero, List.getElem_cons_succ])
  try simp only [Act.put, List.setIfInBounds_toArray, List.set_cons_zero, List.set_cons_succ]
  refine wpAnyH_take (i := 3) (v := ?_) rfl (by kernel_rfl) (by kernel_rfl) (by kernel_rfl) (fun _ _ _ h => h) (Or.inl ⟨by rfl, ?hy⟩) (by assumption) ?_
  case hy => intro w hSw; obtain ⟨hR, hS1, hS2, hS3⟩ := hSw; (try clear hR); (try dsimp only at *); go_simp; (try with_reducible rfl)
  (try dsimp only [List.getElem_toArray, List.getElem_cons_zero, List.getElem_cons_succ])
  try simp only [Act.put, List.setIfInBounds_toArray, List.set_cons_zero, List.set_cons_succ]
  refine wpAnyH_take (i := 4) (v := ?_) rfl (by kernel_rfl) (by kernel_rfl) (by kernel_rfl) (fun _ _ _ h => h) (Or.inl ⟨by rfl, ?hy⟩) (by assumption) ?_
  case hy => intro w hSw; obtain ⟨hR, hS1, hS2, hS3⟩ := hSw; (try clear hR); (try dsimp only at *); go_simp; (try with_reducible rfl)
  (try dsimp only [List.getElem_toArray, List.getElem_cons_zero, List.getElem_cons_succ])
  try simp only [Act.put, List.setIfInBounds_toArray, List.set_cons_zero, List.set_cons_succ]
  refine wpAnyH_take (i := 5) (v := ?_) rfl (by kernel_rfl) (by kernel_rfl) (by kernel_rfl) (fun _ _ _ h => h) (Or.inl ⟨by rfl, ?hy⟩) (by assumption) ?_
  case hy => intro w hSw; obtain ⟨hR, hS1, hS2, hS3⟩ := hSw; (try clear hR); (try dsimp only at *); go_simp; (try with_reducible rfl)
  (try dsimp only [List.getElem_toArray, List.getElem_cons_zero, List.getElem_cons_succ])
  try simp only [Act.put, List.setIfInBounds_toArray, List.set_cons_zero, List.set_cons_succ]
  refine wpAnyH_take (i := 6) (v := ?_) rfl (by kernel_rfl) (by kernel_rfl) (by kernel_rfl) (fun _ _ _ h => h) (Or.inl ⟨by rfl, ?hy⟩) (by assumption) ?_
  case hy => intro w hSw; obtain ⟨hR, hS1, hS2, hS3⟩ := hSw; (try clear hR); (try dsimp only at *); go_simp; (try with_reducible rfl)
  (try dsimp only [List.getElem_toArray, List.getElem_cons_zero, List.getElem_cons_succ])
  try simp only [Act.put, List.setIfInBounds_toArray, List.set_cons_zero, List.set_cons_succ]
  refine wpAnyH_take (i := 7) (v := ?_) rfl (by kernel_rfl) (by kernel_rfl) (by kernel_rfl) (fun _ _ _ h => h) (Or.inl ⟨by rfl, ?hy⟩) (by assumption) ?_
  case hy => intro w hSw; obtain ⟨hR, hS1, hS2, hS3⟩ := hSw; (try clear hR); (try dsimp only at *); go_simp; (try with_reducible rfl)
  (try dsimp only [List.getElem_toArray, List.getElem_cons_zero, List.getElem_cons_succ])
  try simp only [Act.put, List.setIfInBounds_toArray, List.set_cons_zero, List.set_cons_succ]
  refine wpAnyH_take (i := 8) (v := ?_) rfl (by kernel_rfl) (by kernel_rfl) (by kernel_rfl) (fun _ _ _ h => h) (Or.inl ⟨by rfl, ?hy⟩) (by assumption) ?_
  case hy => intro w hSw; obtain ⟨hR, hS1, hS2, hS3⟩ := hSw; (try clear hR); (try dsimp only at *); go_simp; (try with_reducible rfl)
  (try dsimp only [List.getElem_toArray, List.getElem_cons_zero, List.getElem_cons_succ])
  try simp only [Act.put, List.setIfInBounds_toArray, List.set_cons_zero, List.set_cons_succ]
  refine wpAnyH_take (i := 9) (v := ?_) rfl (by kernel_rfl) (by kernel_rfl) (by kernel_rfl) (fun _ _ _ h => h) (Or.inl ⟨by rfl, ?hy⟩) (by assumption) ?_
  case hy => intro w hSw; obtain ⟨hR, hS1, hS2, hS3⟩ := hSw; (try clear hR); (try dsimp only at *); go_simp; (try with_reducible rfl)
  (try dsimp only [List.getElem_toArray, List.getElem_cons_zero, List.getElem_cons_succ])
  try simp only [Act.put, List.setIfInBounds_toArray, List.set_cons_zero, List.set_cons_succ]
  refine wpAnyH_take (i := 10) (v := ?_) rfl (by kernel_rfl) (by kernel_rfl) (by kernel_rfl) (fun _ _ _ h => h) (Or.inl ⟨by rfl, ?hy⟩) (by assumption) ?_
  case hy => intro w hSw; obtain ⟨hR, hS1, hS2, hS3⟩ := hSw; (try clear hR); (try dsimp only at *); go_simp; (try with_reducible rfl)
  (try dsimp only [List.getElem_toArray, List.getElem_cons_zero, List.getElem_cons_succ])
  try simp only [Act.put, List.setIfInBounds_toArray, List.set_cons_zero, List.set_cons_succ]
  refine wpAnyH_take (i := 11) (v := ?_) rfl (by kernel_rfl) (by kernel_rfl) (by kernel_rfl) (fun _ _ _ h => h) (Or.inl ⟨by rfl, ?hy⟩) (by assumption) ?_
  case hy => intro w hSw; obtain ⟨hR, hS1, hS2, hS3⟩ := hSw; (try clear hR); (try dsimp only at *); go_simp; (try with_reducible rfl)
  (try dsimp only [List.getElem_toArray, List.getElem_cons_zero, List.getElem_cons_succ])
  try simp only [Act.put, List.setIfInBounds_toArray, List.set_cons_zero, List.set_cons_succ]
  refine wpAnyH_take (i := 12) (v := ?_) rfl (by kernel_rfl) (by kernel_rfl) (by kernel_rfl) (fun _ _ _ h => h) (Or.inl ⟨by rfl, ?hy⟩) (by assumption) ?_
  case hy => intro w hSw; obtain ⟨hR, hS1, hS2, hS3⟩ := hSw; (try clear hR); (try dsimp only at *); go_simp; (try with_reducible rfl)
  (try dsimp only [List.getElem_toArray, List.getElem_cons_zero, List.getElem_cons_succ])
  try simp only [Act.put, List.setIfInBounds_toArray, List.set_cons_zero, List.set_cons_succ]
  refine wpAnyH_take (i := 13) (v := ?_) rfl (by kernel_rfl) (by kernel_rfl) (by kernel_rfl) (fun _ _ _ h => h) (Or.inl ⟨by rfl, ?hy⟩) (by assumption) ?_
  case hy => intro w hSw; obtain ⟨hR, hS1, hS2, hS3⟩ := hSw; (try clear hR); (try dsimp only at *); go_simp; (try with_reducible rfl)
  (try dsimp only [List.getElem_toArray, List.getElem_cons_zero, List.getElem_cons_succ])
  try simp only [Act.put, List.setIfInBounds_toArray, List.set_cons_zero, List.set_cons_succ]
  refine wpAnyH_take (i := 14) (v := ?_) rfl (by kernel_rfl) (by kernel_rfl) (by kernel_rfl) (fun _ _ _ h => h) (Or.inl ⟨by rfl, ?hy⟩) (by assumption) ?_
  case hy => intro w hSw; obtain ⟨hR, hS1, hS2, hS3⟩ := hSw; (try clear hR); (try dsimp only at *); go_simp; (try with_reducible rfl)
  (try dsimp only [List.getElem_toArray, List.getElem_cons_zero, List.getElem_cons_succ])
  try simp only [Act.put, List.setIfInBounds_toArray, List.set_cons_zero, List.set_cons_succ]
  refine wpAnyH_take (i := 15) (v := ?_) rfl (by kernel_rfl) (by kernel_rfl) (by kernel_rfl) (fun _ _ _ h => h) (Or.inl ⟨by rfl, ?hy⟩) (by assumption) ?_
  case hy => intro w hSw; obtain ⟨hR, hS1, hS2, hS3⟩ := hSw; (try clear hR); (try dsimp only at *); go_simp; (try with_reducible rfl)
  (try dsimp only [List.getElem_toArray, List.getElem_cons_zero, List.getElem_cons_succ])
  try simp only [Act.put, List.setIfInBounds_toArray, List.set_cons_zero, List.set_cons_succ]
  refine wpAnyH_take (i := 16) (v := ?_) rfl (by kernel_rfl) (by kernel_rfl) (by kernel_rfl) (fun _ _ _ h => h) (Or.inl ⟨by rfl, ?hy⟩) (by assumption) ?_
  case hy => intro w hSw; obtain ⟨hR, hS1, hS2, hS3⟩ := hSw; (try clear hR); (try dsimp only at *); go_simp; (try with_reducible rfl)
  (try dsimp only [List.getElem_toArray, List.getElem_cons_zero, List.getElem_cons_succ])
  try simp only [Act.put, List.setIfInBounds_toArray, List.set_cons_zero, List.set_cons_succ]
  refine wpAnyH_done (by kernel_rfl) ?_ _
  try refine NoPanic.normal ?_

  go_wp2_with fail
  go_ret
  exact ⟨rfl, HB2.out⟩

set_option maxHeartbeats 2000000 in
theorem beg_full0 {M : Int} {l : List Sm} {F : List Nat} (g : Nat) (m : Sm) (z : Int) (w : World) (hn1 : Hid (l.length ≤ 1000)) (H : Hid (Ro w g M l F)) (hm : Hid (mayS m = true)) (HMO : Hid (m.o = 0)) (HZ : Hid (lastL l 0 = z)) (hle : ¬ m.id ≤ z) (hf : Hid ((l.length : Int) ≥ M)) :
    Calls Try.prog 11 #[.pointer (some ⟨g, 0, none⟩), .agg #[.int .i64 m.id, .int .i64 m.k, .int .i64 m.o, .bool m.a, .bool m.b, .int .i64 m.y, .complex .f64 m.cx m.cy, .bool false, .string ByteArray.empty, .int .i64 0, .int .i64 0, .int .i64 0, .bool false, .string ByteArray.empty, .int .i64 0, .int .i64 0, .int .i64 0]] w fun e w' => e = .returned (.int .i64 6) ∧ Below w.heap.size w w' := by
  obtain ⟨A, n, c, am, H0⟩ := H.out
  have HI := hide H0
  have hnn : n ≤ 1000 := by rw [← H0.num]; exact hn1.out
  clear H0
  obtain ⟨v, hv⟩ : ∃ v, w.heap.size = v := ⟨_, rfl⟩
  obtain ⟨W1, hW1⟩ : ∃ W1, w.alloc (.cells #[.int .i64 m.id, .int .i64 m.k, .int .i64 m.o, .bool m.a, .bool m.b, .int .i64 m.y, .complex .f64 m.cx m.cy, .bool false, .string ByteArray.empty, .int .i64 0, .int .i64 0, .int .i64 0, .bool false, .string ByteArray.empty, .int .i64 0, .int .i64 0, .int .i64 0] 41) = W1 := ⟨_, rfl⟩
  have HW1 : Hid (Below w.heap.size w W1) := hide (by rw [← hW1]; exact st_alloc1 w _)
  have HC : Hid (Blk W1 v 41 #[.int .i64 m.id, .int .i64 m.k, .int .i64 m.o, .bool m.a, .bool m.b, .int .i64 m.y, .complex .f64 m.cx m.cy, .bool false, .string ByteArray.empty, .int .i64 0, .int .i64 0, .int .i64 0, .bool false, .string ByteArray.empty, .int .i64 0, .int .i64 0, .int .i64 0]) := hide (by rw [← hW1, ← hv]; exact Blk.born w 41 _)
  have HRG : Hid (W1.rangeAt v 0 (row17 m)) := hide (row_cells HC.out)
  have HMM := hide (may_any m W1.drew true hm.out)
  have x0 : W1.cell? ⟨v, 0, none⟩ = some (.int .i64 m.id) := HC.out.cell 0
  have x2 : W1.cell? ⟨v, 2, none⟩ = some (.int .i64 0) := (HC.out.cell 2).trans (by show some (Value.int .i64 m.o) = _; rw [HMO.out])
  have H1 := hide (HI.out.kept HW1.out)
  have c3 : W1.cell? ⟨g, 3, none⟩ = some (.int .i64 z) := (H1.out.blk.cell 3).trans (by show some (Value.int .i64 (lastL l 0)) = _; rw [HZ.out])
  go_enter Try.func11, Try.ntmps11
  go_wp2_with fail
  refine wp_region_held_drew (S := fun w' => w'.rangeAt v 0 (row17 m) ∧ w'.cell? ⟨v, 0, none⟩ = some (.int .i64 m.id) ∧ w'.cell? ⟨v, 2, none⟩ = some (.int .i64 0) ∧ w'.cell? ⟨g, 3, none⟩ = some (.int .i64 z)) (by kernel_rfl) (⟨HRG.out, x0, x2, c3⟩) (fun hHeld => ?_)
  refine wpAnyH_take (i := 0) (v := .agg #[.int .i64 m.id, .int .i64 m.k, .int .i64 m.o, .bool m.a, .bool m.b, .int .i64 m.y, .complex .f64 m.cx m.cy, .bool false, .string ByteArray.empty, .int .i64 0, .int .i64 0, .int .i64 0, .bool false, .string ByteArray.empty, .int .i64 0, .int .i64 0, .int .i64 0]) rfl (by kernel_rfl) (by kernel_rfl) (by kernel_rfl) (fun _ _ _ h => h) ?hz (by assumption) ?_
  case hz => exact yieldsIf_load_mid (by rfl) 41 (.tmp 3) rfl v 0 (by rfl) (row17 m) _ (fun _ h => h.1) Try.underlying41 rfl size41
  (try dsimp only [List.getElem_toArray, List.getElem_cons_zero, List.getElem_cons_succ])
  try simp only [Act.put, List.setIfInBounds_toArray, List.set_cons_zero, List.set_cons_succ]
  refine wpAnyH_ready (rs := [1]) (by kernel_rfl) (by simp) ?_
  refine AllReadyH.cons rfl (fun K' hK => ?_) AllReadyH.nil
  go_simp
  go_at_call 25
  refine HMM.out.mono ?_
  rintro e w2 ⟨rfl, hb⟩
  have HB2 : Hid (Below w.heap.size w w2) := hide (below_nextB (below_drewN HW1.out 1) (by exact HW1.out.size) hb)
  have HD : Hid (Below W1.heap.size W1 w2) := hide (below_undrew hb)
  have HC2 := hide (Blk.kept HC.out HD.out)
  have HRG2 : Hid (w2.rangeAt v 0 (row17 m)) := hide (row_cells HC2.out)
  have y0 : w2.cell? ⟨v, 0, none⟩ = some (.int .i64 m.id) := HC2.out.cell 0
  have y2 : w2.cell? ⟨v, 2, none⟩ = some (.int .i64 0) := (HC2.out.cell 2).trans (by show some (Value.int .i64 m.o) = _; rw [HMO.out])
  have H2 := hide (HI.out.kept HB2.out)
  have d3 : w2.cell? ⟨g, 3, none⟩ = some (.int .i64 z) := (H2.out.blk.cell 3).trans (by show some (Value.int .i64 (lastL l 0)) = _; rw [HZ.out])
  clear x0 x2 c3
  clear hb HMM
  go_wp2_with fail
  refine hK.out _ _ ⟨HRG2.out, y0, y2, d3⟩ (fun hHeld => ?_)
  clear hK
  (try dsimp only [List.getElem_toArray, List.getElem_cons_zero, List.getElem_cons_succ])
  try simp only [Act.put, List.setIfInBounds_toArray, List.set_cons_zero, List.set_cons_succ]
  refine wpAnyH_take (i := 2) (v := ?_) rfl (by kernel_rfl) (by kernel_rfl) (by kernel_rfl) (fun _ _ _ h => h) (Or.inl ⟨by rfl, ?hy⟩) (by assumption) ?_
  case hy => intro w hSw; obtain ⟨hR, hS1, hS2, hS3⟩ := hSw; (try clear hR); (try dsimp only at *); go_simp; (try with_reducible rfl)
  (try dsimp only [List.getElem_toArray, List.getElem_cons_zero, List.getElem_cons_succ])
  try simp only [Act.put, List.setIfInBounds_toArray, List.set_cons_zero, List.set_cons_succ]
  refine wpAnyH_take (i := 3) (v := ?_) rfl (by kernel_rfl) (by kernel_rfl) (by kernel_rfl) (fun _ _ _ h => h) (Or.inl ⟨by rfl, ?hy⟩) (by assumption) ?_
  case hy => intro w hSw; obtain ⟨hR, hS1, hS2, hS3⟩ := hSw; (try clear hR); (try dsimp only at *); go_simp; (try with_reducible rfl)
  (try dsimp only [List.getElem_toArray, List.getElem_cons_zero, List.getElem_cons_succ])
  try simp only [Act.put, List.setIfInBounds_toArray, List.set_cons_zero, List.set_cons_succ]
  refine wpAnyH_take (i := 4) (v := ?_) rfl (by kernel_rfl) (by kernel_rfl) (by kernel_rfl) (fun _ _ _ h => h) (Or.inl ⟨by rfl, ?hy⟩) (by assumption) ?_
  case hy => intro w hSw; obtain ⟨hR, hS1, hS2, hS3⟩ := hSw; (try clear hR); (try dsimp only at *); go_simp; (try with_reducible rfl)
  (try dsimp only [List.getElem_toArray, List.getElem_cons_zero, List.getElem_cons_succ])
  try simp only [Act.put, List.setIfInBounds_toArray, List.set_cons_zero, List.set_cons_succ]
  refine wpAnyH_take (i := 5) (v := ?_) rfl (by kernel_rfl) (by kernel_rfl) (by kernel_rfl) (fun _ _ _ h => h) (Or.inl ⟨by rfl, ?hy⟩) (by assumption) ?_
  case hy => intro w hSw; obtain ⟨hR, hS1, hS2, hS3⟩ := hSw; (try clear hR); (try dsimp only at *); go_simp; (try with_reducible rfl)
  (try dsimp only [List.getElem_toArray, List.getElem_cons_zero, List.getElem_cons_succ])
  try simp only [Act.put, List.setIfInBounds_toArray, List.set_cons_zero, List.set_cons_succ]
  refine wpAnyH_take (i := 6) (v := ?_) rfl (by kernel_rfl) (by kernel_rfl) (by kernel_rfl) (fun _ _ _ h => h) (Or.inl ⟨by rfl, ?hy⟩) (by assumption) ?_
  case hy => intro w hSw; obtain ⟨hR, hS1, hS2, hS3⟩ := hSw; (try clear hR); (try dsimp only at *); go_simp; (try with_reducible rfl)
  (try dsimp only [List.getElem_toArray, List.getElem_cons_zero, List.getElem_cons_succ])
  try simp only [Act.put, List.setIfInBounds_toArray, List.set_cons_zero, List.set_cons_succ]
  refine wpAnyH_take (i := 7) (v := ?_) rfl (by kernel_rfl) (by kernel_rfl) (by kernel_rfl) (fun _ _ _ h => h) (Or.inl ⟨by rfl, ?hy⟩) (by assumption) ?_
  case hy => intro w hSw; obtain ⟨hR, hS1, hS2, hS3⟩ := hSw; (try clear hR); (try dsimp only at *); go_simp; (try with_reducible rfl)
  (try dsimp only [List.getElem_toArray, List.getElem_cons_zero, List.getElem_cons_succ])
  try simp only [Act.put, List.setIfInBounds_toArray, List.set_cons_zero, List.set_cons_succ]
  refine wpAnyH_take (i := 8) (v := ?_) rfl (by kernel_rfl) (by kernel_rfl) (by kernel_rfl) (fun _ _ _ h => h) (Or.inl ⟨by rfl, ?hy⟩) (by assumption) ?_
  case hy => intro w hSw; obtain ⟨hR, hS1, hS2, hS3⟩ := hSw; (try clear hR); (try dsimp only at *); go_simp; (try with_reducible rfl)
  (try dsimp only [List.getElem_toArray, List.getElem_cons_zero, List.getElem_cons_succ])
  try simp only [Act.put, List.setIfInBounds_toArray, List.set_cons_zero, List.set_cons_succ]
  refine wpAnyH_take (i := 9) (v := ?_) rfl (by kernel_rfl) (by kernel_rfl) (by kernel_rfl) (fun _ _ _ h => h) (Or.inl ⟨by rfl, ?hy⟩) (by assumption) ?_
  case hy => intro w hSw; obtain ⟨hR, hS1, hS2, hS3⟩ := hSw; (try clear hR); (try dsimp only at *); go_simp; (try with_reducible rfl)
  (try dsimp only [List.getElem_toArray, List.getElem_cons_zero, List.getElem_cons_succ])
  try simp only [Act.put, List.setIfInBounds_toArray, List.set_cons_zero, List.set_cons_succ]
  refine wpAnyH_take (i := 10) (v := ?_) rfl (by kernel_rfl) (by kernel_rfl) (by kernel_rfl) (fun _ _ _ h => h) (Or.inl ⟨by rfl, ?hy⟩) (by assumption) ?_
  case hy => intro w hSw; obtain ⟨hR, hS1, hS2, hS3⟩ := hSw; (try clear hR); (try dsimp only at *); go_simp; (try with_reducible rfl)
  (try dsimp only [List.getElem_toArray, List.getElem_cons_zero, List.getElem_cons_succ])
  try simp only [Act.put, List.setIfInBounds_toArray, List.set_cons_zero, List.set_cons_succ]
  refine wpAnyH_take (i := 11) (v := ?_) rfl (by kernel_rfl) (by kernel_rfl) (by kernel_rfl) (fun _ _ _ h => h) (Or.inl ⟨by rfl, ?hy⟩) (by assumption) ?_
  case hy => intro w hSw; obtain ⟨hR, hS1, hS2, hS3⟩ := hSw; (try clear hR); (try dsimp only at *); go_simp; (try with_reducible rfl)
  (try dsimp only [List.getElem_toArray, List.getElem_cons_zero, List.getElem_cons_succ])
  try simp only [Act.put, List.setIfInBounds_toArray, List.set_cons_zero, List.set_cons_succ]
  refine wpAnyH_take (i := 12) (v := ?_) rfl (by kernel_rfl) (by kernel_rfl) (by kernel_rfl) (fun _ _ _ h => h) (Or.inl ⟨by rfl, ?hy⟩) (by assumption) ?_
  case hy => intro w hSw; obtain ⟨hR, hS1, hS2, hS3⟩ := hSw; (try clear hR); (try dsimp only at *); go_simp; (try with_reducible rfl)
  (try dsimp only [List.getElem_toArray, List.getElem_cons_zero, List.getElem_cons_succ])
  try simp only [Act.put, List.setIfInBounds_toArray, List.set_cons_zero, List.set_cons_succ]
  refine wpAnyH_take (i := 13) (v := ?_) rfl (by kernel_rfl) (by kernel_rfl) (by kernel_rfl) (fun _ _ _ h => h) (Or.inl ⟨by rfl, ?hy⟩) (by assumption) ?_
  case hy => intro w hSw; obtain ⟨hR, hS1, hS2, hS3⟩ := hSw; (try clear hR); (try dsimp only at *); go_simp; (try with_reducible rfl)
  (try dsimp only [List.getElem_toArray, List.getElem_cons_zero, List.getElem_cons_succ])
  try simp only [Act.put, List.setIfInBounds_toArray, List.set_cons_zero, List.set_cons_succ]
  refine wpAnyH_take (i := 14) (v := ?_) rfl (by kernel_rfl) (by kernel_rfl) (by kernel_rfl) (fun _ _ _ h => h) (Or.inl ⟨by rfl, ?hy⟩) (by assumption) ?_
  case hy => intro w hSw; obtain ⟨hR, hS1, hS2, hS3⟩ := hSw; (try clear hR); (try dsimp only at *); go_simp; (try with_reducible rfl)
  (try dsimp only [List.getElem_toArray, List.getElem_cons_zero, List.getElem_cons_succ])
  try simp only [Act.put, List.setIfInBounds_toArray, List.set_cons_zero, List.set_cons_succ]
  refine wpAnyH_take (i := 15) (v := ?_) rfl (by kernel_rfl) (by kernel_rfl) (by kernel_rfl) (fun _ _ _ h => h) (Or.inl ⟨by rfl, ?hy⟩) (by assumption) ?_
  case hy => intro w hSw; obtain ⟨hR, hS1, hS2, hS3⟩ := hSw; (try clear hR); (try dsimp only at *); go_simp; (try with_reducible rfl)
  (try dsimp only [List.getElem_toArray, List.getElem_cons_zero, List.getElem_cons_succ])
  try simp only [Act.put, List.setIfInBounds_toArray, List.set_cons_zero, List.set_cons_succ]
  refine wpAnyH_take (i := 16) (v := ?_) rfl (by kernel_rfl) (by kernel_rfl) (by kernel_rfl) (fun _ _ _ h => h) (Or.inl ⟨by rfl, ?hy⟩) (by assumption) ?_
  case hy => intro w hSw; obtain ⟨hR, hS1, hS2, hS3⟩ := hSw; (try clear hR); (try dsimp only at *); go_simp; (try with_reducible rfl)
  (try dsimp only [List.getElem_toArray, List.getElem_cons_zero, List.getElem_cons_succ])
  try simp only [Act.put, List.setIfInBounds_toArray, List.set_cons_zero, List.set_cons_succ]
  refine wpAnyH_done (by kernel_rfl) ?_ _
  try refine NoPanic.normal ?_

  have hf2 : (n : Int) ≥ M := by have := hf.out; rw [HI.out.num] at this; exact this
  have d0 : w2.cell? ⟨g, 0, none⟩ = some (.int .i64 M) := H2.out.blk.cell 0
  have d1 : w2.cell? ⟨g, 1, none⟩ = some (.slice A n c) := H2.out.blk.cell 1
  clear HRG2 HRG HC HW1 H1 hHeld y0 y2 d3
  go_wp2_with fail
  go_quiet (fail)

  go_wp2_with fail
  go_ret
  exact ⟨rfl, below_drewN HB2.out nq⟩

set_option maxHeartbeats 2000000 in
theorem beg_full1 {M : Int} {l : List Sm} {F : List Nat} (g : Nat) (m : Sm) (z : Int) (w : World) (hn1 : Hid (l.length ≤ 1000)) (H : Hid (Ro w g M l F)) (hm : Hid (mayS m = true)) (HMO : Hid (m.o = 1)) (HZ : Hid (lastL l 1 = z)) (hle : ¬ m.id ≤ z) (hf : Hid ((l.length : Int) ≥ M)) :
    Calls Try.prog 11 #[.pointer (some ⟨g, 0, none⟩), .agg #[.int .i64 m.id, .int .i64 m.k, .int .i64 m.o, .bool m.a, .bool m.b, .int .i64 m.y, .complex .f64 m.cx m.cy, .bool false, .string ByteArray.empty, .int .i64 0, .int .i64 0, .int .i64 0, .bool false, .string ByteArray.empty, .int .i64 0, .int .i64 0, .int .i64 0]] w fun e w' => e = .returned (.int .i64 6) ∧ Below w.heap.size w w' := by
  obtain ⟨A, n, c, am, H0⟩ := H.out
  have HI := hide H0
  have hnn : n ≤ 1000 := by rw [← H0.num]; exact hn1.out
  clear H0
  obtain ⟨v, hv⟩ : ∃ v, w.heap.size = v := ⟨_, rfl⟩
  obtain ⟨W1, hW1⟩ : ∃ W1, w.alloc (.cells #[.int .i64 m.id, .int .i64 m.k, .int .i64 m.o, .bool m.a, .bool m.b, .int .i64 m.y, .complex .f64 m.cx m.cy, .bool false, .string ByteArray.empty, .int .i64 0, .int .i64 0, .int .i64 0, .bool false, .string ByteArray.empty, .int .i64 0, .int .i64 0, .int .i64 0] 41) = W1 := ⟨_, rfl⟩
  have HW1 : Hid (Below w.heap.size w W1) := hide (by rw [← hW1]; exact st_alloc1 w _)
  have HC : Hid (Blk W1 v 41 #[.int .i64 m.id, .int .i64 m.k, .int .i64 m.o, .bool m.a, .bool m.b, .int .i64 m.y, .complex .f64 m.cx m.cy, .bool false, .string ByteArray.empty, .int .i64 0, .int .i64 0, .int .i64 0, .bool false, .string ByteArray.empty, .int .i64 0, .int .i64 0, .int .i64 0]) := hide (by rw [← hW1, ← hv]; exact Blk.born w 41 _)
  have HRG : Hid (W1.rangeAt v 0 (row17 m)) := hide (row_cells HC.out)
  have HMM := hide (may_any m W1.drew true hm.out)
  have x0 : W1.cell? ⟨v, 0, none⟩ = some (.int .i64 m.id) := HC.out.cell 0
  have x2 : W1.cell? ⟨v, 2, none⟩ = some (.int .i64 1) := (HC.out.cell 2).trans (by show some (Value.int .i64 m.o) = _; rw [HMO.out])
  have H1 := hide (HI.out.kept HW1.out)
  have c3 : W1.cell? ⟨g, 4, none⟩ = some (.int .i64 z) := (H1.out.blk.cell 4).trans (by show some (Value.int .i64 (lastL l 1)) = _; rw [HZ.out])
  go_enter Try.func11, Try.ntmps11
  go_wp2_with fail
  refine wp_region_held_drew (S := fun w' => w'.rangeAt v 0 (row17 m) ∧ w'.cell? ⟨v, 0, none⟩ = some (.int .i64 m.id) ∧ w'.cell? ⟨v, 2, none⟩ = some (.int .i64 1) ∧ w'.cell? ⟨g, 4, none⟩ = some (.int .i64 z)) (by kernel_rfl) (⟨HRG.out, x0, x2, c3⟩) (fun hHeld => ?_)
  refine wpAnyH_take (i := 0) (v := .agg #[.int .i64 m.id, .int .i64 m.k, .int .i64 m.o, .bool m.a, .bool m.b, .int .i64 m.y, .complex .f64 m.cx m.cy, .bool false, .string ByteArray.empty, .int .i64 0, .int .i64 0, .int .i64 0, .bool false, .string ByteArray.empty, .int .i64 0, .int .i64 0, .int .i64 0]) rfl (by kernel_rfl) (by kernel_rfl) (by kernel_rfl) (fun _ _ _ h => h) ?hz (by assumption) ?_
  case hz => exact yieldsIf_load_mid (by rfl) 41 (.tmp 3) rfl v 0 (by rfl) (row17 m) _ (fun _ h => h.1) Try.underlying41 rfl size41
  (try dsimp only [List.getElem_toArray, List.getElem_cons_zero, List.getElem_cons_succ])
  try simp only [Act.put, List.setIfInBounds_toArray, List.set_cons_zero, List.set_cons_succ]
  refine wpAnyH_ready (rs := [1]) (by kernel_rfl) (by simp) ?_
  refine AllReadyH.cons rfl (fun K' hK => ?_) AllReadyH.nil
  go_simp
  go_at_call 25
  refine HMM.out.mono ?_
  rintro e w2 ⟨rfl, hb⟩
  have HB2 : Hid (Below w.heap.size w w2) := hide (below_nextB (below_drewN HW1.out 1) (by exact HW1.out.size) hb)
  have HD : Hid (Below W1.heap.size W1 w2) := hide (below_undrew hb)
  have HC2 := hide (Blk.kept HC.out HD.out)
  have HRG2 : Hid (w2.rangeAt v 0 (row17 m)) := hide (row_cells HC2.out)
  have y0 : w2.cell? ⟨v, 0, none⟩ = some (.int .i64 m.id) := HC2.out.cell 0
  have y2 : w2.cell? ⟨v, 2, none⟩ = some (.int .i64 1) := (HC2.out.cell 2).trans (by show some (Value.int .i64 m.o) = _; rw [HMO.out])
  have H2 := hide (HI.out.kept HB2.out)
  have d3 : w2.cell? ⟨g, 4, none⟩ = some (.int .i64 z) := (H2.out.blk.cell 4).trans (by show some (Value.int .i64 (lastL l 1)) = _; rw [HZ.out])
  clear x0 x2 c3
  clear hb HMM
  go_wp2_with fail
  refine hK.out _ _ ⟨HRG2.out, y0, y2, d3⟩ (fun hHeld => ?_)
  clear hK
  (try dsimp only [List.getElem_toArray, List.getElem_cons_zero, List.getElem_cons_succ])
  try simp only [Act.put, List.setIfInBounds_toArray, List.set_cons_zero, List.set_cons_succ]
  refine wpAnyH_take (i := 2) (v := ?_) rfl (by kernel_rfl) (by kernel_rfl) (by kernel_rfl) (fun _ _ _ h => h) (Or.inl ⟨by rfl, ?hy⟩) (by assumption) ?_
  case hy => intro w hSw; obtain ⟨hR, hS1, hS2, hS3⟩ := hSw; (try clear hR); (try dsimp only at *); go_simp; (try with_reducible rfl)
  (try dsimp only [List.getElem_toArray, List.getElem_cons_zero, List.getElem_cons_succ])
  try simp only [Act.put, List.setIfInBounds_toArray, List.set_cons_zero, List.set_cons_succ]
  refine wpAnyH_take (i := 3) (v := ?_) rfl (by kernel_rfl) (by kernel_rfl) (by kernel_rfl) (fun _ _ _ h => h) (Or.inl ⟨by rfl, ?hy⟩) (by assumption) ?_
  case hy => intro w hSw; obtain ⟨hR, hS1, hS2, hS3⟩ := hSw; (try clear hR); (try dsimp only at *); go_simp; (try with_reducible rfl)
  (try dsimp only [List.getElem_toArray, List.getElem_cons_zero, List.getElem_cons_succ])
  try simp only [Act.put, List.setIfInBounds_toArray, List.set_cons_zero, List.set_cons_succ]
  refine wpAnyH_take (i := 4) (v := ?_) rfl (by kernel_rfl) (by kernel_rfl) (by kernel_rfl) (fun _ _ _ h => h) (Or.inl ⟨by rfl, ?hy⟩) (by assumption) ?_
  case hy => intro w hSw; obtain ⟨hR, hS1, hS2, hS3⟩ := hSw; (try clear hR); (try dsimp only at *); go_simp; (try with_reducible rfl)
  (try dsimp only [List.getElem_toArray, List.getElem_cons_zero, List.getElem_cons_succ])
  try simp only [Act.put, List.setIfInBounds_toArray, List.set_cons_zero, List.set_cons_succ]
  refine wpAnyH_take (i := 5) (v := ?_) rfl (by kernel_rfl) (by kernel_rfl) (by kernel_rfl) (fun _ _ _ h => h) (Or.inl ⟨by rfl, ?hy⟩) (by assumption) ?_
  case hy => intro w hSw; obtain ⟨hR, hS1, hS2, hS3⟩ := hSw; (try clear hR); (try dsimp only at *); go_simp; (try with_reducible rfl)
  (try dsimp only [List.getElem_toArray, List.getElem_cons_zero, List.getElem_cons_succ])
  try simp only [Act.put, List.setIfInBounds_toArray, List.set_cons_zero, List.set_cons_succ]
  refine wpAnyH_take (i := 6) (v := ?_) rfl (by kernel_rfl) (by kernel_rfl) (by kernel_rfl) (fun _ _ _ h => h) (Or.inl ⟨by rfl, ?hy⟩) (by assumption) ?_
  case hy => intro w hSw; obtain ⟨hR, hS1, hS2, hS3⟩ := hSw; (try clear hR); (try dsimp only at *); go_simp; (try with_reducible rfl)
  (try dsimp only [List.getElem_toArray, List.getElem_cons_zero, List.getElem_cons_succ])
  try simp only [Act.put, List.setIfInBounds_toArray, List.set_cons_zero, List.set_cons_succ]
  refine wpAnyH_take (i := 7) (v := ?_) rfl (by kernel_rfl) (by kernel_rfl) (by kernel_rfl) (fun _ _ _ h => h) (Or.inl ⟨by rfl, ?hy⟩) (by assumption) ?_
  case hy => intro w hSw; obtain ⟨hR, hS1, hS2, hS3⟩ := hSw; (try clear hR); (try dsimp only at *); go_simp; (try with_reducible rfl)
  (try dsimp only [List.getElem_toArray, List.getElem_cons_zero, List.getElem_cons_succ])
  try simp only [Act.put, List.setIfInBounds_toArray, List.set_cons_zero, List.set_cons_succ]
  refine wpAnyH_take (i := 8) (v := ?_) rfl (by kernel_rfl) (by kernel_rfl) (by kernel_rfl) (fun _ _ _ h => h) (Or.inl ⟨by rfl, ?hy⟩) (by assumption) ?_
  case hy => intro w hSw; obtain ⟨hR, hS1, hS2, hS3⟩ := hSw; (try clear hR); (try dsimp only at *); go_simp; (try with_reducible rfl)
  (try dsimp only [List.getElem_toArray, List.getElem_cons_zero, List.getElem_cons_succ])
  try simp only [Act.put, List.setIfInBounds_toArray, List.set_cons_zero, List.set_cons_succ]
  refine wpAnyH_take (i := 9) (v := ?_) rfl (by kernel_rfl) (by kernel_rfl) (by kernel_rfl) (fun _ _ _ h => h) (Or.inl ⟨by rfl, ?hy⟩) (by assumption) ?_
  case hy => intro w hSw; obtain ⟨hR, hS1, hS2, hS3⟩ := hSw; (try clear hR); (try dsimp only at *); go_simp; (try with_reducible rfl)
  (try dsimp only [List.getElem_toArray, List.getElem_cons_zero, List.getElem_cons_succ])
  try simp only [Act.put, List.setIfInBounds_toArray, List.set_cons_zero, List.set_cons_succ]
  refine wpAnyH_take (i := 10) (v := ?_) rfl (by kernel_rfl) (by kernel_rfl) (by kernel_rfl) (fun _ _ _ h => h) (Or.inl ⟨by rfl, ?hy⟩) (by assumption) ?_
  case hy => intro w hSw; obtain ⟨hR, hS1, hS2, hS3⟩ := hSw; (try clear hR); (try dsimp only at *); go_simp; (try with_reducible rfl)
  (try dsimp only [List.getElem_toArray, List.getElem_cons_zero, List.getElem_cons_succ])
  try simp only [Act.put, List.setIfInBounds_toArray, List.set_cons_zero, List.set_cons_succ]
  refine wpAnyH_take (i := 11) (v := ?_) rfl (by kernel_rfl) (by kernel_rfl) (by kernel_rfl) (fun _ _ _ h => h) (Or.inl ⟨by rfl, ?hy⟩) (by assumption) ?_
  case hy => intro w hSw; obtain ⟨hR, hS1, hS2, hS3⟩ := hSw; (try clear hR); (try dsimp only at *); go_simp; (try with_reducible rfl)
  (try dsimp only [List.getElem_toArray, List.getElem_cons_zero, List.getElem_cons_succ])
  try simp only [Act.put, List.setIfInBounds_toArray, List.set_cons_zero, List.set_cons_succ]
  refine wpAnyH_take (i := 12) (v := ?_) rfl (by kernel_rfl) (by kernel_rfl) (by kernel_rfl) (fun _ _ _ h => h) (Or.inl ⟨by rfl, ?hy⟩) (by assumption) ?_
  case hy => intro w hSw; obtain ⟨hR, hS1, hS2, hS3⟩ := hSw; (try clear hR); (try dsimp only at *); go_simp; (try with_reducible rfl)
  (try dsimp only [List.getElem_toArray, List.getElem_cons_zero, List.getElem_cons_succ])
  try simp only [Act.put, List.setIfInBounds_toArray, List.set_cons_zero, List.set_cons_succ]
  refine wpAnyH_take (i := 13) (v := ?_) rfl (by kernel_rfl) (by kernel_rfl) (by kernel_rfl) (fun _ _ _ h => h) (Or.inl ⟨by rfl, ?hy⟩) (by assumption) ?_
  case hy => intro w hSw; obtain ⟨hR, hS1, hS2, hS3⟩ := hSw; (try clear hR); (try dsimp only at *); go_simp; (try with_reducible rfl)
  (try dsimp only [List.getElem_toArray, List.getElem_cons_zero, List.getElem_cons_succ])
  try simp only [Act.put, List.setIfInBounds_toArray, List.set_cons_zero, List.set_cons_succ]
  refine wpAnyH_take (i := 14) (v := ?_) rfl (by kernel_rfl) (by kernel_rfl) (by kernel_rfl) (fun _ _ _ h => h) (Or.inl ⟨by rfl, ?hy⟩) (by assumption) ?_
  case hy => intro w hSw; obtain ⟨hR, hS1, hS2, hS3⟩ := hSw; (try clear hR); (try dsimp only at *); go_simp; (try with_reducible rfl)
  (try dsimp only [List.getElem_toArray, List.getElem_cons_zero, List.getElem_cons_succ])
  try simp only [Act.put, List.setIfInBounds_toArray, List.set_cons_zero, List.set_cons_succ]
  refine wpAnyH_take (i := 15) (v := ?_) rfl (by kernel_rfl) (by kernel_rfl) (by kernel_rfl) (fun _ _ _ h => h) (Or.inl ⟨by rfl, ?hy⟩) (by assumption) ?_
  case hy => intro w hSw; obtain ⟨hR, hS1, hS2, hS3⟩ := hSw; (try clear hR); (try dsimp only at *); go_simp; (try with_reducible rfl)
  (try dsimp only [List.getElem_toArray, List.getElem_cons_zero, List.getElem_cons_succ])
  try simp only [Act.put, List.setIfInBounds_toArray, List.set_cons_zero, List.set_cons_succ]
  refine wpAnyH_take (i := 16) (v := ?_) rfl (by kernel_rfl) (by kernel_rfl) (by kernel_rfl) (fun _ _ _ h => h) (Or.inl ⟨by rfl, ?hy⟩) (by assumption) ?_
  case hy => intro w hSw; obtain ⟨hR, hS1, hS2, hS3⟩ := hSw; (try clear hR); (try dsimp only at *); go_simp; (try with_reducible rfl)
  (try dsimp only [List.getElem_toArray, List.getElem_cons_zero, List.getElem_cons_succ])
  try simp only [Act.put, List.setIfInBounds_toArray, List.set_cons_zero, List.set_cons_succ]
  refine wpAnyH_done (by kernel_rfl) ?_ _
  try refine NoPanic.normal ?_

  have hf2 : (n : Int) ≥ M := by have := hf.out; rw [HI.out.num] at this; exact this
  have d0 : w2.cell? ⟨g, 0, none⟩ = some (.int .i64 M) := H2.out.blk.cell 0
  have d1 : w2.cell? ⟨g, 1, none⟩ = some (.slice A n c) := H2.out.blk.cell 1
  clear HRG2 HRG HC HW1 H1 hHeld y0 y2 d3
  go_wp2_with fail
  go_quiet (fail)

  go_wp2_with fail
  go_ret
  exact ⟨rfl, below_drewN HB2.out nq⟩

end Go.Proofs.Ytngligcjcdpnhaa
