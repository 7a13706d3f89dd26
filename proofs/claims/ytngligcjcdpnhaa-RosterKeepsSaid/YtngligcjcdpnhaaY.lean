/- The reference's Begin. -/
import Derived.Test.YtngligcjcdpnhaaX
namespace Go.Proofs.Ytngligcjcdpnhaa
open Go.RowKit Go.Maps
set_option linter.unusedSimpArgs false
set_option linter.unusedVariables false

theorem info46 : (Try.prog.info? 46).map (fun i => (i.zero, i.size, i.bytes)) = some (some (.agg #[.int .i64 0, .int .i64 0, .int .i64 0, .bool false, .bool false, .int .i64 0]), 6, 40) := by kernel_rfl
theorem own_none {w : World} (base : Nat) (e : TypeId) (sz : Nat) (h : base ≤ w.heap.size) : (w.alloc (.cells #[] e)).ownsRow base e sz (.slice (some ⟨w.heap.size, 0, none⟩) 0 0) 0 [] :=
  ⟨by simp, .inr ⟨_, 0, #[], rfl, h, heap_alloc_new w _, Nat.le_refl _, Nat.zero_le _, by simp, by simp⟩⟩
/-- What the reference's Begin and Set say: a list, and x. -/
def RPost (K : Nat → Prop) (l' : List Sm) (x : Value) (w : World) (e : Ending) (w' : World) : Prop :=
  ∃ A' n' c', e = .returned (.tuple #[.slice A' n' c', x]) ∧ Rf w' (fun b => K b ∨ w.heap.size ≤ b) A' n' c' l' ∧ Below w.heap.size w w'

set_option maxHeartbeats 2000000 in
theorem rbeg_no (m : Sm) (most : Int) (K : Nat → Prop) (A : Option Addr) (n c : Nat) (l : List Sm) (w : World) (hn : n ≤ 1000) (HR : Hid (Rf w K A n c l)) (ht : Hid (∀ m ∈ l, -9223372036854775808 ≤ m.id ∧ m.id ≤ 9223372036854775807)) (hm : Hid (mayS m = false)) :
    Calls Try.prog 12 #[.slice A n c, .agg #[.int .i64 m.id, .int .i64 m.k, .int .i64 m.o, .bool m.a, .bool m.b, .int .i64 m.y], .int .i64 most] w (RPost K l (.int .i64 1) w) := by
  obtain ⟨oo, ho⟩ : ∃ oo, ownO m.id = oo := ⟨_, rfl⟩
  have HO := fun w => hide (rowner_q m.id oo _ w ho rfl)
  have HOO := hide ho
  clear ho
  obtain ⟨v, hv⟩ : ∃ v, w.heap.size = v := ⟨_, rfl⟩
  obtain ⟨W1, hW1⟩ : ∃ W1, w.alloc (.cells #[.int .i64 m.id, .int .i64 m.k, .int .i64 m.o, .bool m.a, .bool m.b, .int .i64 m.y] 46) = W1 := ⟨_, rfl⟩
  have HW1 : Hid (Below w.heap.size w W1) := hide (by rw [← hW1]; exact st_alloc1 w _)
  have HC : Hid (Blk W1 v 46 #[.int .i64 m.id, .int .i64 m.k, .int .i64 m.o, .bool m.a, .bool m.b, .int .i64 m.y]) := hide (by rw [← hW1, ← hv]; exact Blk.born w 46 _)
  have HRG : Hid (W1.rangeAt v 0 (row6 m)) := hide (row_cells HC.out)
  have HMM := hide (rmay_any m W1.drew false hm.out)
  have x0 : W1.cell? ⟨v, 0, none⟩ = some (.int .i64 m.id) := HC.out.cell 0
  go_enter Try.func12, Try.ntmps12
  go_wp2_with fail
  refine (HO _).out.mono ?_
  rintro e w1 ⟨rfl, rfl⟩
  clear HO
  go_wp2_with fail
  refine wp_region_held_drew (S := fun w' => w'.rangeAt v 0 (row6 m) ∧ w'.cell? ⟨v, 0, none⟩ = some (.int .i64 m.id) ∧ True) (by kernel_rfl) (⟨HRG.out, x0, trivial⟩) (fun hHeld => ?_)
  refine wpAnyH_take (i := 0) (v := .agg #[.int .i64 m.id, .int .i64 m.k, .int .i64 m.o, .bool m.a, .bool m.b, .int .i64 m.y]) rfl (by kernel_rfl) (by kernel_rfl) (by kernel_rfl) (fun _ _ _ h => h) ?hz (by assumption) ?_
  case hz => exact yieldsIf_load_mid (by rfl) 46 (.tmp 4) rfl v 0 (by rfl) (row6 m) _ (fun _ h => h.1) Try.underlying46 rfl size46
  (try dsimp only [List.getElem_toArray, List.getElem_cons_zero, List.getElem_cons_succ])
  try simp only [Act.put, List.setIfInBounds_toArray, List.set_cons_zero, List.set_cons_succ]
  refine wpAnyH_ready (rs := [1]) (by kernel_rfl) (by simp) ?_
  refine AllReadyH.cons rfl (fun K' hK => ?_) AllReadyH.nil
  go_simp
  go_at_call 26
  refine HMM.out.mono ?_
  rintro e w2 ⟨rfl, hb⟩
  have HD : Hid (Below W1.heap.size W1 w2) := hide (below_undrew hb)
  have HB2 : Hid (Below w.heap.size w w2) := hide (below_nextB HW1.out HW1.out.size HD.out)
  have HC2 := hide (Blk.kept HC.out HD.out)
  have HRG2 : Hid (w2.rangeAt v 0 (row6 m)) := hide (row_cells HC2.out)
  have y0 : w2.cell? ⟨v, 0, none⟩ = some (.int .i64 m.id) := HC2.out.cell 0
  have HR2 := hide (HR.out.kept HB2.out)
  clear hb HMM x0
  go_wp2_with fail
  refine hK.out _ _ ⟨HRG2.out, y0, trivial⟩ (fun hHeld => ?_)
  clear hK
  (try dsimp only [List.getElem_toArray, List.getElem_cons_zero, List.getElem_cons_succ])
  try simp only [Act.put, List.setIfInBounds_toArray, List.set_cons_zero, List.set_cons_succ]
  refine wpAnyH_take (i := 2) (v := ?_) rfl (by kernel_rfl) (by kernel_rfl) (by kernel_rfl) (fun _ _ _ h => h) (Or.inl ⟨by rfl, ?hy⟩) (by assumption) ?_
  case hy => intro w hSw; obtain ⟨hR, hS1, hS2⟩ := hSw; (try clear hR); (try dsimp only at *); go_simp; (try with_reducible rfl)
  (try dsimp only [List.getElem_toArray, List.getElem_cons_zero, List.getElem_cons_succ])
  try simp only [Act.put, List.setIfInBounds_toArray, List.set_cons_zero, List.set_cons_succ]
  refine wpAnyH_take (i := 3) (v := ?_) rfl (by kernel_rfl) (by kernel_rfl) (by kernel_rfl) (fun _ _ _ h => h) (Or.inl ⟨by rfl, ?hy⟩) (by assumption) ?_
  case hy => intro w hSw; obtain ⟨hR, hS1, hS2⟩ := hSw; (try clear hR); (try dsimp only at *); go_simp; (try with_reducible rfl)
  (try dsimp only [List.getElem_toArray, List.getElem_cons_zero, List.getElem_cons_succ])
  try simp only [Act.put, List.setIfInBounds_toArray, List.set_cons_zero, List.set_cons_succ]
  refine wpAnyH_take (i := 4) (v := undef) rfl (by kernel_rfl) (by kernel_rfl) (by kernel_rfl) (fun _ _ _ h => h) (Or.inr ⟨by rfl, rfl⟩) (by assumption) ?_
  (try dsimp only [List.getElem_toArray, List.getElem_cons_zero, List.getElem_cons_succ])
  try simp only [Act.put, List.setIfInBounds_toArray, List.set_cons_zero, List.set_cons_succ]
  refine wpAnyH_take (i := 5) (v := undef) rfl (by kernel_rfl) (by kernel_rfl) (by kernel_rfl) (fun _ _ _ h => h) (Or.inr ⟨by rfl, rfl⟩) (by assumption) ?_
  (try dsimp only [List.getElem_toArray, List.getElem_cons_zero, List.getElem_cons_succ])
  try simp only [Act.put, List.setIfInBounds_toArray, List.set_cons_zero, List.set_cons_succ]
  refine wpAnyH_take (i := 6) (v := undef) rfl (by kernel_rfl) (by kernel_rfl) (by kernel_rfl) (fun _ _ _ h => h) (Or.inr ⟨by rfl, rfl⟩) (by assumption) ?_
  (try dsimp only [List.getElem_toArray, List.getElem_cons_zero, List.getElem_cons_succ])
  try simp only [Act.put, List.setIfInBounds_toArray, List.set_cons_zero, List.set_cons_succ]
  refine wpAnyH_take (i := 7) (v := undef) rfl (by kernel_rfl) (by kernel_rfl) (by kernel_rfl) (fun _ _ _ h => h) (Or.inr ⟨by rfl, rfl⟩) (by assumption) ?_
  (try dsimp only [List.getElem_toArray, List.getElem_cons_zero, List.getElem_cons_succ])
  try simp only [Act.put, List.setIfInBounds_toArray, List.set_cons_zero, List.set_cons_succ]
  refine wpAnyH_take (i := 8) (v := undef) rfl (by kernel_rfl) (by kernel_rfl) (by kernel_rfl) (fun _ _ _ h => h) (Or.inr ⟨by rfl, rfl⟩) (by assumption) ?_
  (try dsimp only [List.getElem_toArray, List.getElem_cons_zero, List.getElem_cons_succ])
  try simp only [Act.put, List.setIfInBounds_toArray, List.set_cons_zero, List.set_cons_succ]
  refine wpAnyH_take (i := 9) (v := undef) rfl (by kernel_rfl) (by kernel_rfl) (by kernel_rfl) (fun _ _ _ h => h) (Or.inr ⟨by rfl, rfl⟩) (by assumption) ?_
  (try dsimp only [List.getElem_toArray, List.getElem_cons_zero, List.getElem_cons_succ])
  try simp only [Act.put, List.setIfInBounds_toArray, List.set_cons_zero, List.set_cons_succ]
  refine wpAnyH_take (i := 10) (v := ?_) rfl (by kernel_rfl) (by kernel_rfl) (by kernel_rfl) (fun _ _ _ h => h) (Or.inl ⟨by rfl, ?hy⟩) (by assumption) ?_
  case hy => intro w hSw; obtain ⟨hR, hS1, hS2⟩ := hSw; (try clear hR); (try dsimp only at *); go_simp; (try with_reducible rfl)
  (try dsimp only [List.getElem_toArray, List.getElem_cons_zero, List.getElem_cons_succ])
  try simp only [Act.put, List.setIfInBounds_toArray, List.set_cons_zero, List.set_cons_succ]
  refine wpAnyH_done (by kernel_rfl) ?_ _
  try refine NoPanic.normal ?_

  go_wp2_with fail
  go_ret2
  exact ⟨A, n, c, rfl, HR2.out.mono (fun g _ h => .inl h), HB2.out⟩
set_option maxHeartbeats 2000000 in
theorem rbeg_old (m : Sm) (most : Int) (K : Nat → Prop) (A : Option Addr) (n c : Nat) (l : List Sm) (w : World) (hn : n ≤ 1000) (HR : Hid (Rf w K A n c l)) (ht : Hid (∀ m ∈ l, -9223372036854775808 ≤ m.id ∧ m.id ≤ 9223372036854775807)) (z : Int) (hm : Hid (mayS m = true)) (HZ0 : Hid (lastL l (ownO m.id) = z)) (hle : m.id ≤ z) :
    Calls Try.prog 12 #[.slice A n c, .agg #[.int .i64 m.id, .int .i64 m.k, .int .i64 m.o, .bool m.a, .bool m.b, .int .i64 m.y], .int .i64 most] w (RPost K l (.int .i64 1) w) := by
  obtain ⟨oo, ho⟩ : ∃ oo, ownO m.id = oo := ⟨_, rfl⟩
  have HO := fun w => hide (rowner_q m.id oo _ w ho rfl)
  have HOO := hide ho
  have HZ : Hid (lastL l oo = z) := hide (by rw [← ho]; exact HZ0.out)
  clear ho
  obtain ⟨v, hv⟩ : ∃ v, w.heap.size = v := ⟨_, rfl⟩
  obtain ⟨W1, hW1⟩ : ∃ W1, w.alloc (.cells #[.int .i64 m.id, .int .i64 m.k, .int .i64 m.o, .bool m.a, .bool m.b, .int .i64 m.y] 46) = W1 := ⟨_, rfl⟩
  have HW1 : Hid (Below w.heap.size w W1) := hide (by rw [← hW1]; exact st_alloc1 w _)
  have HC : Hid (Blk W1 v 46 #[.int .i64 m.id, .int .i64 m.k, .int .i64 m.o, .bool m.a, .bool m.b, .int .i64 m.y]) := hide (by rw [← hW1, ← hv]; exact Blk.born w 46 _)
  have HRG : Hid (W1.rangeAt v 0 (row6 m)) := hide (row_cells HC.out)
  have HMM := hide (rmay_any m W1.drew true hm.out)
  have x0 : W1.cell? ⟨v, 0, none⟩ = some (.int .i64 m.id) := HC.out.cell 0
  go_enter Try.func12, Try.ntmps12
  go_wp2_with fail
  refine (HO _).out.mono ?_
  rintro e w1 ⟨rfl, rfl⟩
  clear HO
  go_wp2_with fail
  refine wp_region_held_drew (S := fun w' => w'.rangeAt v 0 (row6 m) ∧ w'.cell? ⟨v, 0, none⟩ = some (.int .i64 m.id) ∧ True) (by kernel_rfl) (⟨HRG.out, x0, trivial⟩) (fun hHeld => ?_)
  refine wpAnyH_take (i := 0) (v := .agg #[.int .i64 m.id, .int .i64 m.k, .int .i64 m.o, .bool m.a, .bool m.b, .int .i64 m.y]) rfl (by kernel_rfl) (by kernel_rfl) (by kernel_rfl) (fun _ _ _ h => h) ?hz (by assumption) ?_
  case hz => exact yieldsIf_load_mid (by rfl) 46 (.tmp 4) rfl v 0 (by rfl) (row6 m) _ (fun _ h => h.1) Try.underlying46 rfl size46
  (try dsimp only [List.getElem_toArray, List.getElem_cons_zero, List.getElem_cons_succ])
  try simp only [Act.put, List.setIfInBounds_toArray, List.set_cons_zero, List.set_cons_succ]
  refine wpAnyH_ready (rs := [1]) (by kernel_rfl) (by simp) ?_
  refine AllReadyH.cons rfl (fun K' hK => ?_) AllReadyH.nil
  go_simp
  go_at_call 26
  refine HMM.out.mono ?_
  rintro e w2 ⟨rfl, hb⟩
  have HD : Hid (Below W1.heap.size W1 w2) := hide (below_undrew hb)
  have HB2 : Hid (Below w.heap.size w w2) := hide (below_nextB HW1.out HW1.out.size HD.out)
  have HC2 := hide (Blk.kept HC.out HD.out)
  have HRG2 : Hid (w2.rangeAt v 0 (row6 m)) := hide (row_cells HC2.out)
  have y0 : w2.cell? ⟨v, 0, none⟩ = some (.int .i64 m.id) := HC2.out.cell 0
  have HR2 := hide (HR.out.kept HB2.out)
  clear hb HMM x0
  go_wp2_with fail
  refine hK.out _ _ ⟨HRG2.out, y0, trivial⟩ (fun hHeld => ?_)
  clear hK
  (try dsimp only [List.getElem_toArray, List.getElem_cons_zero, List.getElem_cons_succ])
  try simp only [Act.put, List.setIfInBounds_toArray, List.set_cons_zero, List.set_cons_succ]
  refine wpAnyH_take (i := 2) (v := ?_) rfl (by kernel_rfl) (by kernel_rfl) (by kernel_rfl) (fun _ _ _ h => h) (Or.inl ⟨by rfl, ?hy⟩) (by assumption) ?_
  case hy => intro w hSw; obtain ⟨hR, hS1, hS2⟩ := hSw; (try clear hR); (try dsimp only at *); go_simp; (try with_reducible rfl)
  (try dsimp only [List.getElem_toArray, List.getElem_cons_zero, List.getElem_cons_succ])
  try simp only [Act.put, List.setIfInBounds_toArray, List.set_cons_zero, List.set_cons_succ]
  refine wpAnyH_take (i := 3) (v := ?_) rfl (by kernel_rfl) (by kernel_rfl) (by kernel_rfl) (fun _ _ _ h => h) (Or.inl ⟨by rfl, ?hy⟩) (by assumption) ?_
  case hy => intro w hSw; obtain ⟨hR, hS1, hS2⟩ := hSw; (try clear hR); (try dsimp only at *); go_simp; (try with_reducible rfl)
  (try dsimp only [List.getElem_toArray, List.getElem_cons_zero, List.getElem_cons_succ])
  try simp only [Act.put, List.setIfInBounds_toArray, List.set_cons_zero, List.set_cons_succ]
  refine wpAnyH_take (i := 4) (v := ?_) rfl (by kernel_rfl) (by kernel_rfl) (by kernel_rfl) (fun _ _ _ h => h) (Or.inl ⟨by rfl, ?hy⟩) (by assumption) ?_
  case hy => intro w hSw; obtain ⟨hR, hS1, hS2⟩ := hSw; (try clear hR); (try dsimp only at *); go_simp; (try with_reducible rfl)
  (try dsimp only [List.getElem_toArray, List.getElem_cons_zero, List.getElem_cons_succ])
  try simp only [Act.put, List.setIfInBounds_toArray, List.set_cons_zero, List.set_cons_succ]
  refine wpAnyH_take (i := 5) (v := ?_) rfl (by kernel_rfl) (by kernel_rfl) (by kernel_rfl) (fun _ _ _ h => h) (Or.inl ⟨by rfl, ?hy⟩) (by assumption) ?_
  case hy => intro w hSw; obtain ⟨hR, hS1, hS2⟩ := hSw; (try clear hR); (try dsimp only at *); go_simp; (try with_reducible rfl)
  (try dsimp only [List.getElem_toArray, List.getElem_cons_zero, List.getElem_cons_succ])
  try simp only [Act.put, List.setIfInBounds_toArray, List.set_cons_zero, List.set_cons_succ]
  refine wpAnyH_take (i := 6) (v := ?_) rfl (by kernel_rfl) (by kernel_rfl) (by kernel_rfl) (fun _ _ _ h => h) (Or.inl ⟨by rfl, ?hy⟩) (by assumption) ?_
  case hy => intro w hSw; obtain ⟨hR, hS1, hS2⟩ := hSw; (try clear hR); (try dsimp only at *); go_simp; (try with_reducible rfl)
  (try dsimp only [List.getElem_toArray, List.getElem_cons_zero, List.getElem_cons_succ])
  try simp only [Act.put, List.setIfInBounds_toArray, List.set_cons_zero, List.set_cons_succ]
  refine wpAnyH_take (i := 7) (v := ?_) rfl (by kernel_rfl) (by kernel_rfl) (by kernel_rfl) (fun _ _ _ h => h) (Or.inl ⟨by rfl, ?hy⟩) (by assumption) ?_
  case hy => intro w hSw; obtain ⟨hR, hS1, hS2⟩ := hSw; (try clear hR); (try dsimp only at *); go_simp; (try with_reducible rfl)
  (try dsimp only [List.getElem_toArray, List.getElem_cons_zero, List.getElem_cons_succ])
  try simp only [Act.put, List.setIfInBounds_toArray, List.set_cons_zero, List.set_cons_succ]
  refine wpAnyH_ready (rs := [8]) (by kernel_rfl) (by simp) ?_
  refine AllReadyH.cons rfl (fun K' hK => ?_) AllReadyH.nil
  go_simp
  go_at_call 27
  refine (rlast_any oo K A n c l w2 hn HR2 ht).mono ?_
  rintro e w3 ⟨rfl, rfl⟩
  rw [HZ.out]
  go_wp2_with fail
  refine hK.out _ _ ⟨HRG2.out, y0, trivial⟩ (fun hHeld => ?_)
  clear hK
  (try dsimp only [List.getElem_toArray, List.getElem_cons_zero, List.getElem_cons_succ])
  try simp only [Act.put, List.setIfInBounds_toArray, List.set_cons_zero, List.set_cons_succ]
  refine wpAnyH_take (i := 9) (v := ?_) rfl (by kernel_rfl) (by kernel_rfl) (by kernel_rfl) (fun _ _ _ h => h) (Or.inl ⟨by rfl, ?hy⟩) (by assumption) ?_
  case hy => intro w hSw; obtain ⟨hR, hS1, hS2⟩ := hSw; (try clear hR); (try dsimp only at *); go_simp; (try with_reducible rfl)
  (try dsimp only [List.getElem_toArray, List.getElem_cons_zero, List.getElem_cons_succ])
  try simp only [Act.put, List.setIfInBounds_toArray, List.set_cons_zero, List.set_cons_succ]
  refine wpAnyH_take (i := 10) (v := ?_) rfl (by kernel_rfl) (by kernel_rfl) (by kernel_rfl) (fun _ _ _ h => h) (Or.inl ⟨by rfl, ?hy⟩) (by assumption) ?_
  case hy => intro w hSw; obtain ⟨hR, hS1, hS2⟩ := hSw; (try clear hR); (try dsimp only at *); go_simp; (try with_reducible rfl)
  (try dsimp only [List.getElem_toArray, List.getElem_cons_zero, List.getElem_cons_succ])
  try simp only [Act.put, List.setIfInBounds_toArray, List.set_cons_zero, List.set_cons_succ]
  refine wpAnyH_done (by kernel_rfl) ?_ _
  try refine NoPanic.normal ?_

  go_wp2_with fail
  go_ret2
  exact ⟨A, n, c, rfl, HR2.out.mono (fun g _ h => .inl h), HB2.out⟩
set_option maxHeartbeats 2000000 in
theorem rbeg_full (m : Sm) (most : Int) (K : Nat → Prop) (A : Option Addr) (n c : Nat) (l : List Sm) (w : World) (hn : n ≤ 1000) (HR : Hid (Rf w K A n c l)) (ht : Hid (∀ m ∈ l, -9223372036854775808 ≤ m.id ∧ m.id ≤ 9223372036854775807)) (z : Int) (hm : Hid (mayS m = true)) (HZ0 : Hid (lastL l (ownO m.id) = z)) (hle : ¬ m.id ≤ z) (hf : (n : Int) ≥ most) :
    Calls Try.prog 12 #[.slice A n c, .agg #[.int .i64 m.id, .int .i64 m.k, .int .i64 m.o, .bool m.a, .bool m.b, .int .i64 m.y], .int .i64 most] w (RPost K l (.int .i64 6) w) := by
  obtain ⟨oo, ho⟩ : ∃ oo, ownO m.id = oo := ⟨_, rfl⟩
  have HO := fun w => hide (rowner_q m.id oo _ w ho rfl)
  have HOO := hide ho
  have HZ : Hid (lastL l oo = z) := hide (by rw [← ho]; exact HZ0.out)
  clear ho
  obtain ⟨v, hv⟩ : ∃ v, w.heap.size = v := ⟨_, rfl⟩
  obtain ⟨W1, hW1⟩ : ∃ W1, w.alloc (.cells #[.int .i64 m.id, .int .i64 m.k, .int .i64 m.o, .bool m.a, .bool m.b, .int .i64 m.y] 46) = W1 := ⟨_, rfl⟩
  have HW1 : Hid (Below w.heap.size w W1) := hide (by rw [← hW1]; exact st_alloc1 w _)
  have HC : Hid (Blk W1 v 46 #[.int .i64 m.id, .int .i64 m.k, .int .i64 m.o, .bool m.a, .bool m.b, .int .i64 m.y]) := hide (by rw [← hW1, ← hv]; exact Blk.born w 46 _)
  have HRG : Hid (W1.rangeAt v 0 (row6 m)) := hide (row_cells HC.out)
  have HMM := hide (rmay_any m W1.drew true hm.out)
  have x0 : W1.cell? ⟨v, 0, none⟩ = some (.int .i64 m.id) := HC.out.cell 0
  go_enter Try.func12, Try.ntmps12
  go_wp2_with fail
  refine (HO _).out.mono ?_
  rintro e w1 ⟨rfl, rfl⟩
  clear HO
  go_wp2_with fail
  refine wp_region_held_drew (S := fun w' => w'.rangeAt v 0 (row6 m) ∧ w'.cell? ⟨v, 0, none⟩ = some (.int .i64 m.id) ∧ True) (by kernel_rfl) (⟨HRG.out, x0, trivial⟩) (fun hHeld => ?_)
  refine wpAnyH_take (i := 0) (v := .agg #[.int .i64 m.id, .int .i64 m.k, .int .i64 m.o, .bool m.a, .bool m.b, .int .i64 m.y]) rfl (by kernel_rfl) (by kernel_rfl) (by kernel_rfl) (fun _ _ _ h => h) ?hz (by assumption) ?_
  case hz => exact yieldsIf_load_mid (by rfl) 46 (.tmp 4) rfl v 0 (by rfl) (row6 m) _ (fun _ h => h.1) Try.underlying46 rfl size46
  (try dsimp only [List.getElem_toArray, List.getElem_cons_zero, List.getElem_cons_succ])
  try simp only [Act.put, List.setIfInBounds_toArray, List.set_cons_zero, List.set_cons_succ]
  refine wpAnyH_ready (rs := [1]) (by kernel_rfl) (by simp) ?_
  refine AllReadyH.cons rfl (fun K' hK => ?_) AllReadyH.nil
  go_simp
  go_at_call 26
  refine HMM.out.mono ?_
  rintro e w2 ⟨rfl, hb⟩
  have HD : Hid (Below W1.heap.size W1 w2) := hide (below_undrew hb)
  have HB2 : Hid (Below w.heap.size w w2) := hide (below_nextB HW1.out HW1.out.size HD.out)
  have HC2 := hide (Blk.kept HC.out HD.out)
  have HRG2 : Hid (w2.rangeAt v 0 (row6 m)) := hide (row_cells HC2.out)
  have y0 : w2.cell? ⟨v, 0, none⟩ = some (.int .i64 m.id) := HC2.out.cell 0
  have HR2 := hide (HR.out.kept HB2.out)
  clear hb HMM x0
  go_wp2_with fail
  refine hK.out _ _ ⟨HRG2.out, y0, trivial⟩ (fun hHeld => ?_)
  clear hK
  (try dsimp only [List.getElem_toArray, List.getElem_cons_zero, List.getElem_cons_succ])
  try simp only [Act.put, List.setIfInBounds_toArray, List.set_cons_zero, List.set_cons_succ]
  refine wpAnyH_take (i := 2) (v := ?_) rfl (by kernel_rfl) (by kernel_rfl) (by kernel_rfl) (fun _ _ _ h => h) (Or.inl ⟨by rfl, ?hy⟩) (by assumption) ?_
  case hy => intro w hSw; obtain ⟨hR, hS1, hS2⟩ := hSw; (try clear hR); (try dsimp only at *); go_simp; (try with_reducible rfl)
  (try dsimp only [List.getElem_toArray, List.getElem_cons_zero, List.getElem_cons_succ])
  try simp only [Act.put, List.setIfInBounds_toArray, List.set_cons_zero, List.set_cons_succ]
  refine wpAnyH_take (i := 3) (v := ?_) rfl (by kernel_rfl) (by kernel_rfl) (by kernel_rfl) (fun _ _ _ h => h) (Or.inl ⟨by rfl, ?hy⟩) (by assumption) ?_
  case hy => intro w hSw; obtain ⟨hR, hS1, hS2⟩ := hSw; (try clear hR); (try dsimp only at *); go_simp; (try with_reducible rfl)
  (try dsimp only [List.getElem_toArray, List.getElem_cons_zero, List.getElem_cons_succ])
  try simp only [Act.put, List.setIfInBounds_toArray, List.set_cons_zero, List.set_cons_succ]
  refine wpAnyH_take (i := 4) (v := ?_) rfl (by kernel_rfl) (by kernel_rfl) (by kernel_rfl) (fun _ _ _ h => h) (Or.inl ⟨by rfl, ?hy⟩) (by assumption) ?_
  case hy => intro w hSw; obtain ⟨hR, hS1, hS2⟩ := hSw; (try clear hR); (try dsimp only at *); go_simp; (try with_reducible rfl)
  (try dsimp only [List.getElem_toArray, List.getElem_cons_zero, List.getElem_cons_succ])
  try simp only [Act.put, List.setIfInBounds_toArray, List.set_cons_zero, List.set_cons_succ]
  refine wpAnyH_take (i := 5) (v := ?_) rfl (by kernel_rfl) (by kernel_rfl) (by kernel_rfl) (fun _ _ _ h => h) (Or.inl ⟨by rfl, ?hy⟩) (by assumption) ?_
  case hy => intro w hSw; obtain ⟨hR, hS1, hS2⟩ := hSw; (try clear hR); (try dsimp only at *); go_simp; (try with_reducible rfl)
  (try dsimp only [List.getElem_toArray, List.getElem_cons_zero, List.getElem_cons_succ])
  try simp only [Act.put, List.setIfInBounds_toArray, List.set_cons_zero, List.set_cons_succ]
  refine wpAnyH_take (i := 6) (v := ?_) rfl (by kernel_rfl) (by kernel_rfl) (by kernel_rfl) (fun _ _ _ h => h) (Or.inl ⟨by rfl, ?hy⟩) (by assumption) ?_
  case hy => intro w hSw; obtain ⟨hR, hS1, hS2⟩ := hSw; (try clear hR); (try dsimp only at *); go_simp; (try with_reducible rfl)
  (try dsimp only [List.getElem_toArray, List.getElem_cons_zero, List.getElem_cons_succ])
  try simp only [Act.put, List.setIfInBounds_toArray, List.set_cons_zero, List.set_cons_succ]
  refine wpAnyH_take (i := 7) (v := ?_) rfl (by kernel_rfl) (by kernel_rfl) (by kernel_rfl) (fun _ _ _ h => h) (Or.inl ⟨by rfl, ?hy⟩) (by assumption) ?_
  case hy => intro w hSw; obtain ⟨hR, hS1, hS2⟩ := hSw; (try clear hR); (try dsimp only at *); go_simp; (try with_reducible rfl)
  (try dsimp only [List.getElem_toArray, List.getElem_cons_zero, List.getElem_cons_succ])
  try simp only [Act.put, List.setIfInBounds_toArray, List.set_cons_zero, List.set_cons_succ]
  refine wpAnyH_ready (rs := [8]) (by kernel_rfl) (by simp) ?_
  refine AllReadyH.cons rfl (fun K' hK => ?_) AllReadyH.nil
  go_simp
  go_at_call 27
  refine (rlast_any oo K A n c l w2 hn HR2 ht).mono ?_
  rintro e w3 ⟨rfl, rfl⟩
  rw [HZ.out]
  go_wp2_with fail
  refine hK.out _ _ ⟨HRG2.out, y0, trivial⟩ (fun hHeld => ?_)
  clear hK
  (try dsimp only [List.getElem_toArray, List.getElem_cons_zero, List.getElem_cons_succ])
  try simp only [Act.put, List.setIfInBounds_toArray, List.set_cons_zero, List.set_cons_succ]
  refine wpAnyH_take (i := 9) (v := ?_) rfl (by kernel_rfl) (by kernel_rfl) (by kernel_rfl) (fun _ _ _ h => h) (Or.inl ⟨by rfl, ?hy⟩) (by assumption) ?_
  case hy => intro w hSw; obtain ⟨hR, hS1, hS2⟩ := hSw; (try clear hR); (try dsimp only at *); go_simp; (try with_reducible rfl)
  (try dsimp only [List.getElem_toArray, List.getElem_cons_zero, List.getElem_cons_succ])
  try simp only [Act.put, List.setIfInBounds_toArray, List.set_cons_zero, List.set_cons_succ]
  refine wpAnyH_take (i := 10) (v := ?_) rfl (by kernel_rfl) (by kernel_rfl) (by kernel_rfl) (fun _ _ _ h => h) (Or.inl ⟨by rfl, ?hy⟩) (by assumption) ?_
  case hy => intro w hSw; obtain ⟨hR, hS1, hS2⟩ := hSw; (try clear hR); (try dsimp only at *); go_simp; (try with_reducible rfl)
  (try dsimp only [List.getElem_toArray, List.getElem_cons_zero, List.getElem_cons_succ])
  try simp only [Act.put, List.setIfInBounds_toArray, List.set_cons_zero, List.set_cons_succ]
  refine wpAnyH_done (by kernel_rfl) ?_ _
  try refine NoPanic.normal ?_

  go_wp2_with fail
  go_ret2
  exact ⟨A, n, c, rfl, HR2.out.mono (fun g _ h => .inl h), HB2.out⟩
set_option maxHeartbeats 2000000 in
theorem rbeg_yes (m : Sm) (most : Int) (K : Nat → Prop) (A : Option Addr) (n c : Nat) (l : List Sm) (w : World) (hn : n ≤ 1000) (HR : Hid (Rf w K A n c l)) (ht : Hid (∀ m ∈ l, -9223372036854775808 ≤ m.id ∧ m.id ≤ 9223372036854775807)) (z : Int) (hm : Hid (mayS m = true)) (HZ0 : Hid (lastL l (ownO m.id) = z)) (hle : ¬ m.id ≤ z) (hf : ¬ (n : Int) ≥ most) :
    Calls Try.prog 12 #[.slice A n c, .agg #[.int .i64 m.id, .int .i64 m.k, .int .i64 m.o, .bool m.a, .bool m.b, .int .i64 m.y], .int .i64 most] w (RPost K (l ++ [m]) (.int .i64 0) w) := by
  obtain ⟨oo, ho⟩ : ∃ oo, ownO m.id = oo := ⟨_, rfl⟩
  have HO := fun w => hide (rowner_q m.id oo _ w ho rfl)
  have HOO := hide ho
  have HZ : Hid (lastL l oo = z) := hide (by rw [← ho]; exact HZ0.out)
  clear ho
  obtain ⟨v, hv⟩ : ∃ v, w.heap.size = v := ⟨_, rfl⟩
  obtain ⟨W1, hW1⟩ : ∃ W1, w.alloc (.cells #[.int .i64 m.id, .int .i64 m.k, .int .i64 m.o, .bool m.a, .bool m.b, .int .i64 m.y] 46) = W1 := ⟨_, rfl⟩
  have HW1 : Hid (Below w.heap.size w W1) := hide (by rw [← hW1]; exact st_alloc1 w _)
  have HC : Hid (Blk W1 v 46 #[.int .i64 m.id, .int .i64 m.k, .int .i64 m.o, .bool m.a, .bool m.b, .int .i64 m.y]) := hide (by rw [← hW1, ← hv]; exact Blk.born w 46 _)
  have HRG : Hid (W1.rangeAt v 0 (row6 m)) := hide (row_cells HC.out)
  have HMM := hide (rmay_any m W1.drew true hm.out)
  have x0 : W1.cell? ⟨v, 0, none⟩ = some (.int .i64 m.id) := HC.out.cell 0
  go_enter Try.func12, Try.ntmps12
  go_wp2_with fail
  refine (HO _).out.mono ?_
  rintro e w1 ⟨rfl, rfl⟩
  clear HO
  go_wp2_with fail
  refine wp_region_held_drew (S := fun w' => w'.rangeAt v 0 (row6 m) ∧ w'.cell? ⟨v, 0, none⟩ = some (.int .i64 m.id) ∧ True) (by kernel_rfl) (⟨HRG.out, x0, trivial⟩) (fun hHeld => ?_)
  refine wpAnyH_take (i := 0) (v := .agg #[.int .i64 m.id, .int .i64 m.k, .int .i64 m.o, .bool m.a, .bool m.b, .int .i64 m.y]) rfl (by kernel_rfl) (by kernel_rfl) (by kernel_rfl) (fun _ _ _ h => h) ?hz (by assumption) ?_
  case hz => exact yieldsIf_load_mid (by rfl) 46 (.tmp 4) rfl v 0 (by rfl) (row6 m) _ (fun _ h => h.1) Try.underlying46 rfl size46
  (try dsimp only [List.getElem_toArray, List.getElem_cons_zero, List.getElem_cons_succ])
  try simp only [Act.put, List.setIfInBounds_toArray, List.set_cons_zero, List.set_cons_succ]
  refine wpAnyH_ready (rs := [1]) (by kernel_rfl) (by simp) ?_
  refine AllReadyH.cons rfl (fun K' hK => ?_) AllReadyH.nil
  go_simp
  go_at_call 26
  refine HMM.out.mono ?_
  rintro e w2 ⟨rfl, hb⟩
  have HD : Hid (Below W1.heap.size W1 w2) := hide (below_undrew hb)
  have HB2 : Hid (Below w.heap.size w w2) := hide (below_nextB HW1.out HW1.out.size HD.out)
  have HC2 := hide (Blk.kept HC.out HD.out)
  have HRG2 : Hid (w2.rangeAt v 0 (row6 m)) := hide (row_cells HC2.out)
  have y0 : w2.cell? ⟨v, 0, none⟩ = some (.int .i64 m.id) := HC2.out.cell 0
  have HR2 := hide (HR.out.kept HB2.out)
  clear hb HMM x0
  go_wp2_with fail
  refine hK.out _ _ ⟨HRG2.out, y0, trivial⟩ (fun hHeld => ?_)
  clear hK
  (try dsimp only [List.getElem_toArray, List.getElem_cons_zero, List.getElem_cons_succ])
  try simp only [Act.put, List.setIfInBounds_toArray, List.set_cons_zero, List.set_cons_succ]
  refine wpAnyH_take (i := 2) (v := ?_) rfl (by kernel_rfl) (by kernel_rfl) (by kernel_rfl) (fun _ _ _ h => h) (Or.inl ⟨by rfl, ?hy⟩) (by assumption) ?_
  case hy => intro w hSw; obtain ⟨hR, hS1, hS2⟩ := hSw; (try clear hR); (try dsimp only at *); go_simp; (try with_reducible rfl)
  (try dsimp only [List.getElem_toArray, List.getElem_cons_zero, List.getElem_cons_succ])
  try simp only [Act.put, List.setIfInBounds_toArray, List.set_cons_zero, List.set_cons_succ]
  refine wpAnyH_take (i := 3) (v := ?_) rfl (by kernel_rfl) (by kernel_rfl) (by kernel_rfl) (fun _ _ _ h => h) (Or.inl ⟨by rfl, ?hy⟩) (by assumption) ?_
  case hy => intro w hSw; obtain ⟨hR, hS1, hS2⟩ := hSw; (try clear hR); (try dsimp only at *); go_simp; (try with_reducible rfl)
  (try dsimp only [List.getElem_toArray, List.getElem_cons_zero, List.getElem_cons_succ])
  try simp only [Act.put, List.setIfInBounds_toArray, List.set_cons_zero, List.set_cons_succ]
  refine wpAnyH_take (i := 4) (v := ?_) rfl (by kernel_rfl) (by kernel_rfl) (by kernel_rfl) (fun _ _ _ h => h) (Or.inl ⟨by rfl, ?hy⟩) (by assumption) ?_
  case hy => intro w hSw; obtain ⟨hR, hS1, hS2⟩ := hSw; (try clear hR); (try dsimp only at *); go_simp; (try with_reducible rfl)
  (try dsimp only [List.getElem_toArray, List.getElem_cons_zero, List.getElem_cons_succ])
  try simp only [Act.put, List.setIfInBounds_toArray, List.set_cons_zero, List.set_cons_succ]
  refine wpAnyH_take (i := 5) (v := ?_) rfl (by kernel_rfl) (by kernel_rfl) (by kernel_rfl) (fun _ _ _ h => h) (Or.inl ⟨by rfl, ?hy⟩) (by assumption) ?_
  case hy => intro w hSw; obtain ⟨hR, hS1, hS2⟩ := hSw; (try clear hR); (try dsimp only at *); go_simp; (try with_reducible rfl)
  (try dsimp only [List.getElem_toArray, List.getElem_cons_zero, List.getElem_cons_succ])
  try simp only [Act.put, List.setIfInBounds_toArray, List.set_cons_zero, List.set_cons_succ]
  refine wpAnyH_take (i := 6) (v := ?_) rfl (by kernel_rfl) (by kernel_rfl) (by kernel_rfl) (fun _ _ _ h => h) (Or.inl ⟨by rfl, ?hy⟩) (by assumption) ?_
  case hy => intro w hSw; obtain ⟨hR, hS1, hS2⟩ := hSw; (try clear hR); (try dsimp only at *); go_simp; (try with_reducible rfl)
  (try dsimp only [List.getElem_toArray, List.getElem_cons_zero, List.getElem_cons_succ])
  try simp only [Act.put, List.setIfInBounds_toArray, List.set_cons_zero, List.set_cons_succ]
  refine wpAnyH_take (i := 7) (v := ?_) rfl (by kernel_rfl) (by kernel_rfl) (by kernel_rfl) (fun _ _ _ h => h) (Or.inl ⟨by rfl, ?hy⟩) (by assumption) ?_
  case hy => intro w hSw; obtain ⟨hR, hS1, hS2⟩ := hSw; (try clear hR); (try dsimp only at *); go_simp; (try with_reducible rfl)
  (try dsimp only [List.getElem_toArray, List.getElem_cons_zero, List.getElem_cons_succ])
  try simp only [Act.put, List.setIfInBounds_toArray, List.set_cons_zero, List.set_cons_succ]
  refine wpAnyH_ready (rs := [8]) (by kernel_rfl) (by simp) ?_
  refine AllReadyH.cons rfl (fun K' hK => ?_) AllReadyH.nil
  go_simp
  go_at_call 27
  refine (rlast_any oo K A n c l w2 hn HR2 ht).mono ?_
  rintro e w3 ⟨rfl, rfl⟩
  rw [HZ.out]
  go_wp2_with fail
  refine hK.out _ _ ⟨HRG2.out, y0, trivial⟩ (fun hHeld => ?_)
  clear hK
  (try dsimp only [List.getElem_toArray, List.getElem_cons_zero, List.getElem_cons_succ])
  try simp only [Act.put, List.setIfInBounds_toArray, List.set_cons_zero, List.set_cons_succ]
  refine wpAnyH_take (i := 9) (v := ?_) rfl (by kernel_rfl) (by kernel_rfl) (by kernel_rfl) (fun _ _ _ h => h) (Or.inl ⟨by rfl, ?hy⟩) (by assumption) ?_
  case hy => intro w hSw; obtain ⟨hR, hS1, hS2⟩ := hSw; (try clear hR); (try dsimp only at *); go_simp; (try with_reducible rfl)
  (try dsimp only [List.getElem_toArray, List.getElem_cons_zero, List.getElem_cons_succ])
  try simp only [Act.put, List.setIfInBounds_toArray, List.set_cons_zero, List.set_cons_succ]
  refine wpAnyH_take (i := 10) (v := ?_) rfl (by kernel_rfl) (by kernel_rfl) (by kernel_rfl) (fun _ _ _ h => h) (Or.inl ⟨by rfl, ?hy⟩) (by assumption) ?_
  case hy => intro w hSw; obtain ⟨hR, hS1, hS2⟩ := hSw; (try clear hR); (try dsimp only at *); go_simp; (try with_reducible rfl)
  (try dsimp only [List.getElem_toArray, List.getElem_cons_zero, List.getElem_cons_succ])
  try simp only [Act.put, List.setIfInBounds_toArray, List.set_cons_zero, List.set_cons_succ]
  refine wpAnyH_done (by kernel_rfl) ?_ _
  try refine NoPanic.normal ?_

  go_wp2_with fail
  have HX_w2 := HC2
  have HB_w2 := HB2
  have HCL : Hid ((cells6 l).length = n * 6) := hide (by rw [← HR.out.len]; exact flat_length row6_len l)
  have HLN := hide HR.out.len
  refine wp_region_held_drew (S := fun w' => w'.rangeAt v 0 (row6 m) ∧ True) (by kernel_rfl) (⟨HRG2.out, trivial⟩) (fun hHeld => ?_)
  refine wpAnyH_take (i := 1) (v := ?_) rfl (by kernel_rfl) (by kernel_rfl) (by kernel_rfl) (fun _ _ _ h => h) (Or.inl ⟨by rfl, ?hy⟩) (by assumption) ?_
  case hy => intro w hSw; obtain ⟨hR, hS1⟩ := hSw; (try clear hR); (try dsimp only at *); go_simp; (try with_reducible rfl)
  (try dsimp only [List.getElem_toArray, List.getElem_cons_zero, List.getElem_cons_succ])
  try simp only [Act.put, List.setIfInBounds_toArray, List.set_cons_zero, List.set_cons_succ]
  refine wpAnyH_take (i := 3) (v := .agg #[.int .i64 m.id, .int .i64 m.k, .int .i64 m.o, .bool m.a, .bool m.b, .int .i64 m.y]) rfl (by kernel_rfl) (by kernel_rfl) (by kernel_rfl) (fun _ _ _ h => h) ?hz (by assumption) ?_
  case hz => exact yieldsIf_load_mid (by rfl) 46 (.tmp 4) rfl v 0 (by rfl) (row6 m) _ (fun _ h => h.1) Try.underlying46 rfl size46
  (try dsimp only [List.getElem_toArray, List.getElem_cons_zero, List.getElem_cons_succ])
  try simp only [Act.put, List.setIfInBounds_toArray, List.set_cons_zero, List.set_cons_succ]
  refine wpAnyH_ready (rs := [0, 4]) (by kernel_rfl) (by simp) ?_
  refine AllReadyH.cons rfl (fun K' hK => ?_) (AllReadyH.cons rfl (fun K' hK => ?_) AllReadyH.nil)
  · go_simp
    have HX_wa : Hid (Blk ((w2.alloc (.cells #[] 46)).drew) v 46 #[.int .i64 m.id, .int .i64 m.k, .int .i64 m.o, .bool m.a, .bool m.b, .int .i64 m.y]) := hide ((HX_w2.out.alloc _).drewN 1)
    have HB_wa : Hid (Below w.heap.size w ((w2.alloc (.cells #[] 46)).drew)) := hide (below_drewN (HB_w2.out.alloc HB_w2.out.size _) 1)
    have HR_wa := hide (HR.out.kept HB_wa.out)
    obtain ⟨E, hE⟩ : ∃ E, w2.heap.size = E := ⟨_, rfl⟩
    have HO_wa : Hid (((w2.alloc (.cells #[] 46)).drew).ownsRow (v + 1) 46 6 (.slice (some ⟨E, 0, none⟩) 0 0) 0 []) := hide (by rw [← hE]; exact own_none (w := w2) (v + 1) 46 6 (by have := HX_w2.out.lt; omega))
    have HEl : Hid (E < ((w2.alloc (.cells #[] 46)).drew).heap.size) := hide (by have hs : ((w2.alloc (.cells #[] 46)).drew).heap.size = w2.heap.size + 1 := (by simp); omega)
    refine hK.out _ _ ⟨row_cells HX_wa.out, trivial⟩ (fun hHeld => ?_)
    clear hK hHeld
    (try dsimp only [List.getElem_toArray, List.getElem_cons_zero, List.getElem_cons_succ])
    try simp only [Act.put, List.setIfInBounds_toArray, List.set_cons_zero, List.set_cons_succ]
    obtain ⟨wa, hwa⟩ : ∃ wa, (w2.alloc (.cells #[] 46)).drew = wa := ⟨_, rfl⟩
    rw [hwa] at HX_wa HB_wa HR_wa HO_wa HEl
    (try rw [hwa])
    clear hwa
    (try rw [hE])
    refine wpAnyH_ready (rs := [2, 4]) (by kernel_rfl) (by simp) ?_
    refine AllReadyH.cons rfl (fun K' hK => ?_) (AllReadyH.cons rfl (fun K' hK => ?_) AllReadyH.nil)
    · refine step_pour rfl (.tmp 33) (.tmp 34) 26 rfl (v + 1) 46 6 info46 rfl (by decide) Try.underlying26 (.slice (some ⟨E, 0, none⟩) 0 0) 0 [] (by rfl) HO_wa.out A n c (cells6 l) (by rfl) HCL.out HR.out.sl.nn HR_wa.out.sl.sees.sees (flat_one row6_one) (by unfold maxLen; omega) (by omega) (by have := HX_wa.out.lt; omega) ?_
      intro B c' wb ho hg hat
      rw [Nat.zero_add, List.nil_append] at ho
      rw [Nat.zero_add] at hat
      have HO_wb := hide ho
      have hEv : E ≠ v := by have := (HO_wa.out.lt E rfl).1; omega
      have HX_wb := hide (HX_wa.out.grown hg (fun h => hEv (Option.some.inj h).symm))
      have HB_wb : Hid (Below w.heap.size w wb) := hide ⟨hg.os.trans HB_wa.out.os, hg.tape.trans HB_wa.out.tape, hg.output.trans HB_wa.out.output, Nat.le_trans HB_wa.out.size hg.size, fun i hi => (hg.block i (Nat.lt_of_lt_of_le hi HB_wa.out.size) (fun h => by have e : i = E := Option.some.inj h; have := (HO_wa.out.lt E rfl).1; omega)).trans (HB_wa.out.block i hi)⟩
      have HR_wb := hide (HR.out.kept HB_wb.out)
      clear ho hg hat
      refine hK.out _ _ ⟨row_cells HX_wb.out, trivial⟩ (fun hHeld => ?_)
      clear hK hHeld
      (try dsimp only [List.getElem_toArray, List.getElem_cons_zero, List.getElem_cons_succ])
      try simp only [Act.put, List.setIfInBounds_toArray, List.set_cons_zero, List.set_cons_succ]
      try simp only [Nat.zero_add]
      refine wpAnyH_ready (rs := [4]) (by kernel_rfl) (by simp) ?_
      refine AllReadyH.cons rfl (fun K' hK => ?_) AllReadyH.nil
      go_simp
      have HX_wd : Hid (Blk (wb.alloc (.cells #[.int .i64 m.id, .int .i64 m.k, .int .i64 m.o, .bool m.a, .bool m.b, .int .i64 m.y] 46)) v 46 #[.int .i64 m.id, .int .i64 m.k, .int .i64 m.o, .bool m.a, .bool m.b, .int .i64 m.y]) := hide ((HX_wb.out.alloc _))
      have HB_wd : Hid (Below w.heap.size w (wb.alloc (.cells #[.int .i64 m.id, .int .i64 m.k, .int .i64 m.o, .bool m.a, .bool m.b, .int .i64 m.y] 46))) := hide (HB_wb.out.alloc HB_wb.out.size _)
      have HR_wd := hide (HR.out.kept HB_wd.out)
      obtain ⟨Eb, hEb⟩ : ∃ Eb, wb.heap.size = Eb := ⟨_, rfl⟩
      have HS_wd : Hid (Blk (wb.alloc (.cells #[.int .i64 m.id, .int .i64 m.k, .int .i64 m.o, .bool m.a, .bool m.b, .int .i64 m.y] 46)) Eb 46 #[.int .i64 m.id, .int .i64 m.k, .int .i64 m.o, .bool m.a, .bool m.b, .int .i64 m.y]) := hide (by rw [← hEb]; exact (Blk.born wb 46 _))
      have HO_wd : Hid ((wb.alloc (.cells #[.int .i64 m.id, .int .i64 m.k, .int .i64 m.o, .bool m.a, .bool m.b, .int .i64 m.y] 46)).ownsRow (v + 1) 46 6 (.slice B n c') n (cells6 l)) := hide (HO_wb.out.alloc _)
      have HNE : Hid (∀ r, (Value.slice B n c').ownBlock = some r → r ≠ Eb) := hide (fun r hr => by have := (HO_wb.out.lt r hr).2; omega)
      refine hK.out _ _ ⟨row_cells HX_wd.out, trivial⟩ (fun hHeld => ?_)
      clear hK hHeld
      (try dsimp only [List.getElem_toArray, List.getElem_cons_zero, List.getElem_cons_succ])
      try simp only [Act.put, List.setIfInBounds_toArray, List.set_cons_zero, List.set_cons_succ]
      obtain ⟨wd, hwd⟩ : ∃ wd, wb.alloc (.cells #[.int .i64 m.id, .int .i64 m.k, .int .i64 m.o, .bool m.a, .bool m.b, .int .i64 m.y] 46) = wd := ⟨_, rfl⟩
      rw [hwd] at HX_wd HB_wd HR_wd HO_wd HS_wd
      (try rw [hwd])
      clear hwd
      (try rw [hEb])
      refine wpAnyH_ready (rs := [5]) (by kernel_rfl) (by simp) ?_
      refine AllReadyH.cons rfl (fun K' hK => ?_) AllReadyH.nil
      refine step_pour rfl (.tmp 35) (.tmp 37) 26 rfl (v + 1) 46 6 info46 rfl (by decide) Try.underlying26 (.slice B n c') n (cells6 l) (by rfl) HO_wd.out (some ⟨Eb, 0, none⟩) 1 1 (row6 m) (by rfl) rfl (by simp) (fun j u hu => ⟨_, _, rfl, row_cells HS_wd.out j u hu⟩) (row6_one m) (by unfold maxLen; omega) (by omega) (by have := HX_wd.out.lt; omega) ?_
      intro B2 c2 we ho hg hat
      have HO_we := hide ho
      have HX_we := hide (HX_wd.out.grown hg (fun h => by have := (HO_wd.out.lt v h.symm).1; omega))
      have HB_we : Hid (Below w.heap.size w we) := hide ⟨hg.os.trans HB_wd.out.os, hg.tape.trans HB_wd.out.tape, hg.output.trans HB_wd.out.output, Nat.le_trans HB_wd.out.size hg.size, fun i hi => (hg.block i (Nat.lt_of_lt_of_le hi HB_wd.out.size) (fun h => by have := (HO_wd.out.lt i h.symm).1; omega)).trans (HB_wd.out.block i hi)⟩
      clear ho hg hat
      refine hK.out _ _ ⟨row_cells HX_we.out, trivial⟩ (fun hHeld => ?_)
      clear hK
      (try dsimp only [List.getElem_toArray, List.getElem_cons_zero, List.getElem_cons_succ])
      try simp only [Act.put, List.setIfInBounds_toArray, List.set_cons_zero, List.set_cons_succ]
      refine wpAnyH_take (i := 6) (v := ?_) rfl (by kernel_rfl) (by kernel_rfl) (by kernel_rfl) (fun _ _ _ h => h) (Or.inl ⟨by rfl, ?hy⟩) (by assumption) ?_
      case hy => intro w hSw; obtain ⟨hR, hS1⟩ := hSw; (try clear hR); (try dsimp only at *); go_simp; (try with_reducible rfl)
      (try dsimp only [List.getElem_toArray, List.getElem_cons_zero, List.getElem_cons_succ])
      try simp only [Act.put, List.setIfInBounds_toArray, List.set_cons_zero, List.set_cons_succ]
      refine wpAnyH_take (i := 7) (v := ?_) rfl (by kernel_rfl) (by kernel_rfl) (by kernel_rfl) (fun _ _ _ h => h) (Or.inl ⟨by rfl, ?hy⟩) (by assumption) ?_
      case hy => intro w hSw; obtain ⟨hR, hS1⟩ := hSw; (try clear hR); (try dsimp only at *); go_simp; (try with_reducible rfl)
      (try dsimp only [List.getElem_toArray, List.getElem_cons_zero, List.getElem_cons_succ])
      try simp only [Act.put, List.setIfInBounds_toArray, List.set_cons_zero, List.set_cons_succ]
      refine wpAnyH_done (by kernel_rfl) ?_ _
      try refine NoPanic.normal ?_
      go_wp2_with fail
      go_ret2
      refine ⟨B2, n + 1, c2, rfl, ⟨by rw [List.length_append, HLN.out]; rfl, ?_⟩, HB_we.out⟩
      have h5 := own_sl HO_we.out
      rw [show cells6 l ++ row6 m = cells6 (l ++ [m]) by unfold cells6; rw [List.flatMap_append]; simp] at h5
      exact h5.mono (fun b _ hb => .inr (by omega))
    · go_simp
      have HX_wb : Hid (Blk (wa.alloc (.cells #[.int .i64 m.id, .int .i64 m.k, .int .i64 m.o, .bool m.a, .bool m.b, .int .i64 m.y] 46)) v 46 #[.int .i64 m.id, .int .i64 m.k, .int .i64 m.o, .bool m.a, .bool m.b, .int .i64 m.y]) := hide ((HX_wa.out.alloc _))
      have HB_wb : Hid (Below w.heap.size w (wa.alloc (.cells #[.int .i64 m.id, .int .i64 m.k, .int .i64 m.o, .bool m.a, .bool m.b, .int .i64 m.y] 46))) := hide (HB_wa.out.alloc HB_wa.out.size _)
      have HR_wb := hide (HR.out.kept HB_wb.out)
      obtain ⟨Eb, hEb⟩ : ∃ Eb, wa.heap.size = Eb := ⟨_, rfl⟩
      have HS_wb : Hid (Blk (wa.alloc (.cells #[.int .i64 m.id, .int .i64 m.k, .int .i64 m.o, .bool m.a, .bool m.b, .int .i64 m.y] 46)) Eb 46 #[.int .i64 m.id, .int .i64 m.k, .int .i64 m.o, .bool m.a, .bool m.b, .int .i64 m.y]) := hide (by rw [← hEb]; exact (Blk.born wa 46 _))
      have HO_wb : Hid ((wa.alloc (.cells #[.int .i64 m.id, .int .i64 m.k, .int .i64 m.o, .bool m.a, .bool m.b, .int .i64 m.y] 46)).ownsRow (v + 1) 46 6 (.slice (some ⟨E, 0, none⟩) 0 0) 0 []) := hide (HO_wa.out.alloc _)
      have HNE : Hid (∀ r, (Value.slice (some ⟨E, 0, none⟩) 0 0).ownBlock = some r → r ≠ Eb) := hide (fun r hr => by have e : E = r := Option.some.inj hr; have := HEl.out; omega)
      refine hK.out _ _ ⟨row_cells HX_wb.out, trivial⟩ (fun hHeld => ?_)
      clear hK hHeld
      (try dsimp only [List.getElem_toArray, List.getElem_cons_zero, List.getElem_cons_succ])
      try simp only [Act.put, List.setIfInBounds_toArray, List.set_cons_zero, List.set_cons_succ]
      obtain ⟨wb, hwb⟩ : ∃ wb, wa.alloc (.cells #[.int .i64 m.id, .int .i64 m.k, .int .i64 m.o, .bool m.a, .bool m.b, .int .i64 m.y] 46) = wb := ⟨_, rfl⟩
      rw [hwb] at HX_wb HB_wb HR_wb HO_wb HS_wb
      (try rw [hwb])
      clear hwb
      (try rw [hEb])
      refine wpAnyH_ready (rs := [2]) (by kernel_rfl) (by simp) ?_
      refine AllReadyH.cons rfl (fun K' hK => ?_) AllReadyH.nil
      refine step_pour rfl (.tmp 33) (.tmp 34) 26 rfl (v + 1) 46 6 info46 rfl (by decide) Try.underlying26 (.slice (some ⟨E, 0, none⟩) 0 0) 0 [] (by rfl) HO_wb.out A n c (cells6 l) (by rfl) HCL.out HR.out.sl.nn HR_wb.out.sl.sees.sees (flat_one row6_one) (by unfold maxLen; omega) (by omega) (by have := HX_wb.out.lt; omega) ?_
      intro B c' wd ho hg hat
      rw [Nat.zero_add, List.nil_append] at ho
      rw [Nat.zero_add] at hat
      have HO_wd := hide ho
      have hEv : E ≠ v := by have := (HO_wb.out.lt E rfl).1; omega
      have HX_wd := hide (HX_wb.out.grown hg (fun h => hEv (Option.some.inj h).symm))
      have HB_wd : Hid (Below w.heap.size w wd) := hide ⟨hg.os.trans HB_wb.out.os, hg.tape.trans HB_wb.out.tape, hg.output.trans HB_wb.out.output, Nat.le_trans HB_wb.out.size hg.size, fun i hi => (hg.block i (Nat.lt_of_lt_of_le hi HB_wb.out.size) (fun h => by have e : i = E := Option.some.inj h; have := (HO_wb.out.lt E rfl).1; omega)).trans (HB_wb.out.block i hi)⟩
      have HR_wd := hide (HR.out.kept HB_wd.out)
      have HS_wd := hide (HS_wb.out.grown hg (fun h => HNE.out E rfl (Option.some.inj h).symm))
      have HNE2 : Hid (∀ r, (Value.slice B n c').ownBlock = some r → r ≠ Eb) := hide (fun r hr => by
        rcases hat with e | e
        · exact HNE.out r (e.symm.trans hr)
        · rw [hr] at e
          have e2 := Option.some.inj e
          have := HS_wb.out.lt
          omega)
      clear ho hg hat
      refine hK.out _ _ ⟨row_cells HX_wd.out, trivial⟩ (fun hHeld => ?_)
      clear hK hHeld
      (try dsimp only [List.getElem_toArray, List.getElem_cons_zero, List.getElem_cons_succ])
      try simp only [Act.put, List.setIfInBounds_toArray, List.set_cons_zero, List.set_cons_succ]
      try simp only [Nat.zero_add]
      refine wpAnyH_ready (rs := [5]) (by kernel_rfl) (by simp) ?_
      refine AllReadyH.cons rfl (fun K' hK => ?_) AllReadyH.nil
      refine step_pour rfl (.tmp 35) (.tmp 37) 26 rfl (v + 1) 46 6 info46 rfl (by decide) Try.underlying26 (.slice B n c') n (cells6 l) (by rfl) HO_wd.out (some ⟨Eb, 0, none⟩) 1 1 (row6 m) (by rfl) rfl (by simp) (fun j u hu => ⟨_, _, rfl, row_cells HS_wd.out j u hu⟩) (row6_one m) (by unfold maxLen; omega) (by omega) (by have := HX_wd.out.lt; omega) ?_
      intro B2 c2 we ho hg hat
      have HO_we := hide ho
      have HX_we := hide (HX_wd.out.grown hg (fun h => by have := (HO_wd.out.lt v h.symm).1; omega))
      have HB_we : Hid (Below w.heap.size w we) := hide ⟨hg.os.trans HB_wd.out.os, hg.tape.trans HB_wd.out.tape, hg.output.trans HB_wd.out.output, Nat.le_trans HB_wd.out.size hg.size, fun i hi => (hg.block i (Nat.lt_of_lt_of_le hi HB_wd.out.size) (fun h => by have := (HO_wd.out.lt i h.symm).1; omega)).trans (HB_wd.out.block i hi)⟩
      clear ho hg hat
      refine hK.out _ _ ⟨row_cells HX_we.out, trivial⟩ (fun hHeld => ?_)
      clear hK
      (try dsimp only [List.getElem_toArray, List.getElem_cons_zero, List.getElem_cons_succ])
      try simp only [Act.put, List.setIfInBounds_toArray, List.set_cons_zero, List.set_cons_succ]
      refine wpAnyH_take (i := 6) (v := ?_) rfl (by kernel_rfl) (by kernel_rfl) (by kernel_rfl) (fun _ _ _ h => h) (Or.inl ⟨by rfl, ?hy⟩) (by assumption) ?_
      case hy => intro w hSw; obtain ⟨hR, hS1⟩ := hSw; (try clear hR); (try dsimp only at *); go_simp; (try with_reducible rfl)
      (try dsimp only [List.getElem_toArray, List.getElem_cons_zero, List.getElem_cons_succ])
      try simp only [Act.put, List.setIfInBounds_toArray, List.set_cons_zero, List.set_cons_succ]
      refine wpAnyH_take (i := 7) (v := ?_) rfl (by kernel_rfl) (by kernel_rfl) (by kernel_rfl) (fun _ _ _ h => h) (Or.inl ⟨by rfl, ?hy⟩) (by assumption) ?_
      case hy => intro w hSw; obtain ⟨hR, hS1⟩ := hSw; (try clear hR); (try dsimp only at *); go_simp; (try with_reducible rfl)
      (try dsimp only [List.getElem_toArray, List.getElem_cons_zero, List.getElem_cons_succ])
      try simp only [Act.put, List.setIfInBounds_toArray, List.set_cons_zero, List.set_cons_succ]
      refine wpAnyH_done (by kernel_rfl) ?_ _
      try refine NoPanic.normal ?_
      go_wp2_with fail
      go_ret2
      refine ⟨B2, n + 1, c2, rfl, ⟨by rw [List.length_append, HLN.out]; rfl, ?_⟩, HB_we.out⟩
      have h5 := own_sl HO_we.out
      rw [show cells6 l ++ row6 m = cells6 (l ++ [m]) by unfold cells6; rw [List.flatMap_append]; simp] at h5
      exact h5.mono (fun b _ hb => .inr (by omega))
  · go_simp
    have HX_wa : Hid (Blk ((w2.alloc (.cells #[.int .i64 m.id, .int .i64 m.k, .int .i64 m.o, .bool m.a, .bool m.b, .int .i64 m.y] 46)).drew) v 46 #[.int .i64 m.id, .int .i64 m.k, .int .i64 m.o, .bool m.a, .bool m.b, .int .i64 m.y]) := hide ((HX_w2.out.alloc _).drewN 1)
    have HB_wa : Hid (Below w.heap.size w ((w2.alloc (.cells #[.int .i64 m.id, .int .i64 m.k, .int .i64 m.o, .bool m.a, .bool m.b, .int .i64 m.y] 46)).drew)) := hide (below_drewN (HB_w2.out.alloc HB_w2.out.size _) 1)
    have HR_wa := hide (HR.out.kept HB_wa.out)
    obtain ⟨Eb, hEb⟩ : ∃ Eb, w2.heap.size = Eb := ⟨_, rfl⟩
    have HS_wa : Hid (Blk ((w2.alloc (.cells #[.int .i64 m.id, .int .i64 m.k, .int .i64 m.o, .bool m.a, .bool m.b, .int .i64 m.y] 46)).drew) Eb 46 #[.int .i64 m.id, .int .i64 m.k, .int .i64 m.o, .bool m.a, .bool m.b, .int .i64 m.y]) := hide (by rw [← hEb]; exact (Blk.born w2 46 _).drewN 1)
    refine hK.out _ _ ⟨row_cells HX_wa.out, trivial⟩ (fun hHeld => ?_)
    clear hK hHeld
    (try dsimp only [List.getElem_toArray, List.getElem_cons_zero, List.getElem_cons_succ])
    try simp only [Act.put, List.setIfInBounds_toArray, List.set_cons_zero, List.set_cons_succ]
    obtain ⟨wa, hwa⟩ : ∃ wa, (w2.alloc (.cells #[.int .i64 m.id, .int .i64 m.k, .int .i64 m.o, .bool m.a, .bool m.b, .int .i64 m.y] 46)).drew = wa := ⟨_, rfl⟩
    rw [hwa] at HX_wa HB_wa HR_wa HS_wa
    (try rw [hwa])
    clear hwa
    (try rw [hEb])
    refine wpAnyH_ready (rs := [0]) (by kernel_rfl) (by simp) ?_
    refine AllReadyH.cons rfl (fun K' hK => ?_) AllReadyH.nil
    go_simp
    have HX_wb : Hid (Blk (wa.alloc (.cells #[] 46)) v 46 #[.int .i64 m.id, .int .i64 m.k, .int .i64 m.o, .bool m.a, .bool m.b, .int .i64 m.y]) := hide ((HX_wa.out.alloc _))
    have HB_wb : Hid (Below w.heap.size w (wa.alloc (.cells #[] 46))) := hide (HB_wa.out.alloc HB_wa.out.size _)
    have HR_wb := hide (HR.out.kept HB_wb.out)
    obtain ⟨E, hE⟩ : ∃ E, wa.heap.size = E := ⟨_, rfl⟩
    have HO_wb : Hid ((wa.alloc (.cells #[] 46)).ownsRow (v + 1) 46 6 (.slice (some ⟨E, 0, none⟩) 0 0) 0 []) := hide (by rw [← hE]; exact own_none (w := wa) (v + 1) 46 6 (by have := HX_wa.out.lt; omega))
    have HEl : Hid (E < (wa.alloc (.cells #[] 46)).heap.size) := hide (by have hs : (wa.alloc (.cells #[] 46)).heap.size = wa.heap.size + 1 := (by simp); omega)
    have HS_wb : Hid (Blk (wa.alloc (.cells #[] 46)) Eb 46 #[.int .i64 m.id, .int .i64 m.k, .int .i64 m.o, .bool m.a, .bool m.b, .int .i64 m.y]) := hide ((HS_wa.out.alloc _))
    have HNE : Hid (∀ r, (Value.slice (some ⟨E, 0, none⟩) 0 0).ownBlock = some r → r ≠ Eb) := hide (fun r hr => by have e : E = r := Option.some.inj hr; have := HS_wa.out.lt; omega)
    refine hK.out _ _ ⟨row_cells HX_wb.out, trivial⟩ (fun hHeld => ?_)
    clear hK hHeld
    (try dsimp only [List.getElem_toArray, List.getElem_cons_zero, List.getElem_cons_succ])
    try simp only [Act.put, List.setIfInBounds_toArray, List.set_cons_zero, List.set_cons_succ]
    obtain ⟨wb, hwb⟩ : ∃ wb, wa.alloc (.cells #[] 46) = wb := ⟨_, rfl⟩
    rw [hwb] at HX_wb HB_wb HR_wb HO_wb HS_wb HEl
    (try rw [hwb])
    clear hwb
    (try rw [hE])
    refine wpAnyH_ready (rs := [2]) (by kernel_rfl) (by simp) ?_
    refine AllReadyH.cons rfl (fun K' hK => ?_) AllReadyH.nil
    refine step_pour rfl (.tmp 33) (.tmp 34) 26 rfl (v + 1) 46 6 info46 rfl (by decide) Try.underlying26 (.slice (some ⟨E, 0, none⟩) 0 0) 0 [] (by rfl) HO_wb.out A n c (cells6 l) (by rfl) HCL.out HR.out.sl.nn HR_wb.out.sl.sees.sees (flat_one row6_one) (by unfold maxLen; omega) (by omega) (by have := HX_wb.out.lt; omega) ?_
    intro B c' wd ho hg hat
    rw [Nat.zero_add, List.nil_append] at ho
    rw [Nat.zero_add] at hat
    have HO_wd := hide ho
    have hEv : E ≠ v := by have := (HO_wb.out.lt E rfl).1; omega
    have HX_wd := hide (HX_wb.out.grown hg (fun h => hEv (Option.some.inj h).symm))
    have HB_wd : Hid (Below w.heap.size w wd) := hide ⟨hg.os.trans HB_wb.out.os, hg.tape.trans HB_wb.out.tape, hg.output.trans HB_wb.out.output, Nat.le_trans HB_wb.out.size hg.size, fun i hi => (hg.block i (Nat.lt_of_lt_of_le hi HB_wb.out.size) (fun h => by have e : i = E := Option.some.inj h; have := (HO_wb.out.lt E rfl).1; omega)).trans (HB_wb.out.block i hi)⟩
    have HR_wd := hide (HR.out.kept HB_wd.out)
    have HS_wd := hide (HS_wb.out.grown hg (fun h => HNE.out E rfl (Option.some.inj h).symm))
    have HNE2 : Hid (∀ r, (Value.slice B n c').ownBlock = some r → r ≠ Eb) := hide (fun r hr => by
      rcases hat with e | e
      · exact HNE.out r (e.symm.trans hr)
      · rw [hr] at e
        have e2 := Option.some.inj e
        have := HS_wb.out.lt
        omega)
    clear ho hg hat
    refine hK.out _ _ ⟨row_cells HX_wd.out, trivial⟩ (fun hHeld => ?_)
    clear hK hHeld
    (try dsimp only [List.getElem_toArray, List.getElem_cons_zero, List.getElem_cons_succ])
    try simp only [Act.put, List.setIfInBounds_toArray, List.set_cons_zero, List.set_cons_succ]
    try simp only [Nat.zero_add]
    refine wpAnyH_ready (rs := [5]) (by kernel_rfl) (by simp) ?_
    refine AllReadyH.cons rfl (fun K' hK => ?_) AllReadyH.nil
    refine step_pour rfl (.tmp 35) (.tmp 37) 26 rfl (v + 1) 46 6 info46 rfl (by decide) Try.underlying26 (.slice B n c') n (cells6 l) (by rfl) HO_wd.out (some ⟨Eb, 0, none⟩) 1 1 (row6 m) (by rfl) rfl (by simp) (fun j u hu => ⟨_, _, rfl, row_cells HS_wd.out j u hu⟩) (row6_one m) (by unfold maxLen; omega) (by omega) (by have := HX_wd.out.lt; omega) ?_
    intro B2 c2 we ho hg hat
    have HO_we := hide ho
    have HX_we := hide (HX_wd.out.grown hg (fun h => by have := (HO_wd.out.lt v h.symm).1; omega))
    have HB_we : Hid (Below w.heap.size w we) := hide ⟨hg.os.trans HB_wd.out.os, hg.tape.trans HB_wd.out.tape, hg.output.trans HB_wd.out.output, Nat.le_trans HB_wd.out.size hg.size, fun i hi => (hg.block i (Nat.lt_of_lt_of_le hi HB_wd.out.size) (fun h => by have := (HO_wd.out.lt i h.symm).1; omega)).trans (HB_wd.out.block i hi)⟩
    clear ho hg hat
    refine hK.out _ _ ⟨row_cells HX_we.out, trivial⟩ (fun hHeld => ?_)
    clear hK
    (try dsimp only [List.getElem_toArray, List.getElem_cons_zero, List.getElem_cons_succ])
    try simp only [Act.put, List.setIfInBounds_toArray, List.set_cons_zero, List.set_cons_succ]
    refine wpAnyH_take (i := 6) (v := ?_) rfl (by kernel_rfl) (by kernel_rfl) (by kernel_rfl) (fun _ _ _ h => h) (Or.inl ⟨by rfl, ?hy⟩) (by assumption) ?_
    case hy => intro w hSw; obtain ⟨hR, hS1⟩ := hSw; (try clear hR); (try dsimp only at *); go_simp; (try with_reducible rfl)
    (try dsimp only [List.getElem_toArray, List.getElem_cons_zero, List.getElem_cons_succ])
    try simp only [Act.put, List.setIfInBounds_toArray, List.set_cons_zero, List.set_cons_succ]
    refine wpAnyH_take (i := 7) (v := ?_) rfl (by kernel_rfl) (by kernel_rfl) (by kernel_rfl) (fun _ _ _ h => h) (Or.inl ⟨by rfl, ?hy⟩) (by assumption) ?_
    case hy => intro w hSw; obtain ⟨hR, hS1⟩ := hSw; (try clear hR); (try dsimp only at *); go_simp; (try with_reducible rfl)
    (try dsimp only [List.getElem_toArray, List.getElem_cons_zero, List.getElem_cons_succ])
    try simp only [Act.put, List.setIfInBounds_toArray, List.set_cons_zero, List.set_cons_succ]
    refine wpAnyH_done (by kernel_rfl) ?_ _
    try refine NoPanic.normal ?_
    go_wp2_with fail
    go_ret2
    refine ⟨B2, n + 1, c2, rfl, ⟨by rw [List.length_append, HLN.out]; rfl, ?_⟩, HB_we.out⟩
    have h5 := own_sl HO_we.out
    rw [show cells6 l ++ row6 m = cells6 (l ++ [m]) by unfold cells6; rw [List.flatMap_append]; simp] at h5
    exact h5.mono (fun b _ hb => .inr (by omega))

end Go.Proofs.Ytngligcjcdpnhaa
