/- Contract: Begin of a roster, taken: the walks. -/
import Derived.Test.YtngligcjcdpnhaaV
namespace Go.Proofs.Ytngligcjcdpnhaa
open Go.RowKit Go.Maps
set_option linter.unusedSimpArgs false
set_option linter.unusedVariables false

set_option maxHeartbeats 4000000 in
theorem beg_yes0 {M : Int} {l : List Sm} {F : List Nat} (g : Nat) (m : Sm) (z : Int) (w : World) (hn1 : Hid (l.length ≤ 1000)) (H : Hid (Ro w g M l F)) (hx : Hid ((Lit.int .i64 m.id).wf = true)) (hc : Hid (canB l m = true)) (hm : Hid (mayS m = true)) (HMO : Hid (m.o = 0)) (HZ : Hid (lastL l 0 = z)) (hle : ¬ m.id ≤ z) (hf : Hid ((l.length : Int) < M)) :
    Calls Try.prog 11 #[.pointer (some ⟨g, 0, none⟩), .agg #[.int .i64 m.id, .int .i64 m.k, .int .i64 m.o, .bool m.a, .bool m.b, .int .i64 m.y, .complex .f64 m.cx m.cy, .bool false, .string ByteArray.empty, .int .i64 0, .int .i64 0, .int .i64 0, .bool false, .string ByteArray.empty, .int .i64 0, .int .i64 0, .int .i64 0]] w (BPost g M l m F w) := by
  obtain ⟨A, n, c, am, H0⟩ := H.out
  have HI := hide H0
  have hnn : n ≤ 1000 := by rw [← H0.num]; exact hn1.out
  clear H0
  obtain ⟨v, hv⟩ : ∃ v, w.heap.size = v := ⟨_, rfl⟩
  obtain ⟨W1, hW1⟩ : ∃ W1, w.alloc (.cells #[.int .i64 m.id, .int .i64 m.k, .int .i64 m.o, .bool m.a, .bool m.b, .int .i64 m.y, .complex .f64 m.cx m.cy, .bool false, .string ByteArray.empty, .int .i64 0, .int .i64 0, .int .i64 0, .bool false, .string ByteArray.empty, .int .i64 0, .int .i64 0, .int .i64 0] 41) = W1 := ⟨_, rfl⟩
  have HW1 : Hid (Below w.heap.size w W1) := hide (by rw [← hW1]; exact st_alloc1 w _)
  have HC : Hid (Blk W1 v 41 #[.int .i64 m.id, .int .i64 m.k, .int .i64 m.o, .bool m.a, .bool m.b, .int .i64 m.y, .complex .f64 m.cx m.cy, .bool false, .string ByteArray.empty, .int .i64 0, .int .i64 0, .int .i64 0, .bool false, .string ByteArray.empty, .int .i64 0, .int .i64 0, .int .i64 0]) := hide (by rw [← hW1, ← hv]; exact Blk.born w 41 _)
  have HRG : Hid (W1.rangeAt v 0 (row17 m)) := hide (row_cells HC.out)
  have HMM := hide (may_any m W1.drew true hm.out)
  have x0 : W1.cell? ⟨v, 0, none⟩ = some (.int .i64 m.id) := HC.out.cell 0
  have x2 : W1.cell? ⟨v, 2, none⟩ = some (.int .i64 0) := (HC.out.cell 2).trans (by show some (Value.int .i64 m.o) = _; rw [HMO.out])
  have H1 := hide (HI.out.kept HW1.out)
  have c3 : W1.cell? ⟨g, 3, none⟩ = some (.int .i64 z) := (H1.out.blk.cell 3).trans (by show some (Value.int .i64 (lastL l 0)) = _; rw [HZ.out])
  go_enter Try.func11, Try.ntmps11
  go_wp2_with fail
  refine wp_region_held_drew (S := fun w' => w'.rangeAt v 0 (row17 m) ∧ w'.cell? ⟨v, 0, none⟩ = some (.int .i64 m.id) ∧ w'.cell? ⟨v, 2, none⟩ = some (.int .i64 0) ∧ w'.cell? ⟨g, 3, none⟩ = some (.int .i64 z)) (by kernel_rfl) (⟨HRG.out, x0, x2, c3⟩) (fun hHeld => ?_)
  refine wpAnyH_take (i := 0) (v := .agg #[.int .i64 m.id, .int .i64 m.k, .int .i64 m.o, .bool m.a, .bool m.b, .int .i64 m.y, .complex .f64 m.cx m.cy, .bool false, .string ByteArray.empty, .int .i64 0, .int .i64 0, .int .i64 0, .bool false, .string ByteArray.empty, .int .i64 0, .int .i64 0, .int .i64 0]) rfl (by kernel_rfl) (by kernel_rfl) (by kernel_rfl) (fun _ _ _ h => h) ?hz (by assumption) ?_
  case hz => exact yieldsIf_load_mid (by rfl) 41 (.tmp 3) rfl v 0 (by rfl) (row17 m) _ (fun _ h => h.1) Try.underlying41 rfl size41
  (try dsimp only [List.getElem_toArray, List.getElem_cons_zero, List.getElem_cons_succ])
  try simp only [Act.put, List.setIfInBounds_toArray, List.set_cons_zero, List.set_cons_succ]
  refine wpAnyH_ready (rs := [1]) (by kernel_rfl) (by simp) ?_
  refine AllReadyH.cons rfl (fun K' hK => ?_) AllReadyH.nil
  go_simp
  go_at_call 25
  refine HMM.out.mono ?_
  rintro e w2 ⟨rfl, hb⟩
  have HB2 : Hid (Below w.heap.size w w2) := hide (below_nextB (below_drewN HW1.out 1) (by exact HW1.out.size) hb)
  have HD : Hid (Below W1.heap.size W1 w2) := hide (below_undrew hb)
  have HC2 := hide (Blk.kept HC.out HD.out)
  have HRG2 : Hid (w2.rangeAt v 0 (row17 m)) := hide (row_cells HC2.out)
  have y0 : w2.cell? ⟨v, 0, none⟩ = some (.int .i64 m.id) := HC2.out.cell 0
  have y2 : w2.cell? ⟨v, 2, none⟩ = some (.int .i64 0) := (HC2.out.cell 2).trans (by show some (Value.int .i64 m.o) = _; rw [HMO.out])
  have H2 := hide (HI.out.kept HB2.out)
  have d3 : w2.cell? ⟨g, 3, none⟩ = some (.int .i64 z) := (H2.out.blk.cell 3).trans (by show some (Value.int .i64 (lastL l 0)) = _; rw [HZ.out])
  clear x0 x2 c3
  clear hb HMM
  go_wp2_with fail
  refine hK.out _ _ ⟨HRG2.out, y0, y2, d3⟩ (fun hHeld => ?_)
  clear hK
  (try dsimp only [List.getElem_toArray, List.getElem_cons_zero, List.getElem_cons_succ])
  try simp only [Act.put, List.setIfInBounds_toArray, List.set_cons_zero, List.set_cons_succ]
  refine wpAnyH_take (i := 2) (v := ?_) rfl (by kernel_rfl) (by kernel_rfl) (by kernel_rfl) (fun _ _ _ h => h) (Or.inl ⟨by rfl, ?hy⟩) (by assumption) ?_
  case hy => intro w hSw; obtain ⟨hR, hS1, hS2, hS3⟩ := hSw; (try clear hR); (try dsimp only at *); go_simp; (try with_reducible rfl)
  (try dsimp only [List.getElem_toArray, List.getElem_cons_zero, List.getElem_cons_succ])
  try simp only [Act.put, List.setIfInBounds_toArray, List.set_cons_zero, List.set_cons_succ]
  refine wpAnyH_take (i := 3) (v := ?_) rfl (by kernel_rfl) (by kernel_rfl) (by kernel_rfl) (fun _ _ _ h => h) (Or.inl ⟨by rfl, ?hy⟩) (by assumption) ?_
  case hy => intro w hSw; obtain ⟨hR, hS1, hS2, hS3⟩ := hSw; (try clear hR); (try dsimp only at *); go_simp; (try with_reducible rfl)
  (try dsimp only [List.getElem_toArray, List.getElem_cons_zero, List.getElem_cons_succ])
  try simp only [Act.put, List.setIfInBounds_toArray, List.set_cons_zero, List.set_cons_succ]
  refine wpAnyH_take (i := 4) (v := ?_) rfl (by kernel_rfl) (by kernel_rfl) (by kernel_rfl) (fun _ _ _ h => h) (Or.inl ⟨by rfl, ?hy⟩) (by assumption) ?_
  case hy => intro w hSw; obtain ⟨hR, hS1, hS2, hS3⟩ := hSw; (try clear hR); (try dsimp only at *); go_simp; (try with_reducible rfl)
  (try dsimp only [List.getElem_toArray, List.getElem_cons_zero, List.getElem_cons_succ])
  try simp only [Act.put, List.setIfInBounds_toArray, List.set_cons_zero, List.set_cons_succ]
  refine wpAnyH_take (i := 5) (v := ?_) rfl (by kernel_rfl) (by kernel_rfl) (by kernel_rfl) (fun _ _ _ h => h) (Or.inl ⟨by rfl, ?hy⟩) (by assumption) ?_
  case hy => intro w hSw; obtain ⟨hR, hS1, hS2, hS3⟩ := hSw; (try clear hR); (try dsimp only at *); go_simp; (try with_reducible rfl)
  (try dsimp only [List.getElem_toArray, List.getElem_cons_zero, List.getElem_cons_succ])
  try simp only [Act.put, List.setIfInBounds_toArray, List.set_cons_zero, List.set_cons_succ]
  refine wpAnyH_take (i := 6) (v := ?_) rfl (by kernel_rfl) (by kernel_rfl) (by kernel_rfl) (fun _ _ _ h => h) (Or.inl ⟨by rfl, ?hy⟩) (by assumption) ?_
  case hy => intro w hSw; obtain ⟨hR, hS1, hS2, hS3⟩ := hSw; (try clear hR); (try dsimp only at *); go_simp; (try with_reducible rfl)
  (try dsimp only [List.getElem_toArray, List.getElem_cons_zero, List.getElem_cons_succ])
  try simp only [Act.put, List.setIfInBounds_toArray, List.set_cons_zero, List.set_cons_succ]
  refine wpAnyH_take (i := 7) (v := ?_) rfl (by kernel_rfl) (by kernel_rfl) (by kernel_rfl) (fun _ _ _ h => h) (Or.inl ⟨by rfl, ?hy⟩) (by assumption) ?_
  case hy => intro w hSw; obtain ⟨hR, hS1, hS2, hS3⟩ := hSw; (try clear hR); (try dsimp only at *); go_simp; (try with_reducible rfl)
  (try dsimp only [List.getElem_toArray, List.getElem_cons_zero, List.getElem_cons_succ])
  try simp only [Act.put, List.setIfInBounds_toArray, List.set_cons_zero, List.set_cons_succ]
  refine wpAnyH_take (i := 8) (v := ?_) rfl (by kernel_rfl) (by kernel_rfl) (by kernel_rfl) (fun _ _ _ h => h) (Or.inl ⟨by rfl, ?hy⟩) (by assumption) ?_
  case hy => intro w hSw; obtain ⟨hR, hS1, hS2, hS3⟩ := hSw; (try clear hR); (try dsimp only at *); go_simp; (try with_reducible rfl)
  (try dsimp only [List.getElem_toArray, List.getElem_cons_zero, List.getElem_cons_succ])
  try simp only [Act.put, List.setIfInBounds_toArray, List.set_cons_zero, List.set_cons_succ]
  refine wpAnyH_take (i := 9) (v := ?_) rfl (by kernel_rfl) (by kernel_rfl) (by kernel_rfl) (fun _ _ _ h => h) (Or.inl ⟨by rfl, ?hy⟩) (by assumption) ?_
  case hy => intro w hSw; obtain ⟨hR, hS1, hS2, hS3⟩ := hSw; (try clear hR); (try dsimp only at *); go_simp; (try with_reducible rfl)
  (try dsimp only [List.getElem_toArray, List.getElem_cons_zero, List.getElem_cons_succ])
  try simp only [Act.put, List.setIfInBounds_toArray, List.set_cons_zero, List.set_cons_succ]
  refine wpAnyH_take (i := 10) (v := ?_) rfl (by kernel_rfl) (by kernel_rfl) (by kernel_rfl) (fun _ _ _ h => h) (Or.inl ⟨by rfl, ?hy⟩) (by assumption) ?_
  case hy => intro w hSw; obtain ⟨hR, hS1, hS2, hS3⟩ := hSw; (try clear hR); (try dsimp only at *); go_simp; (try with_reducible rfl)
  (try dsimp only [List.getElem_toArray, List.getElem_cons_zero, List.getElem_cons_succ])
  try simp only [Act.put, List.setIfInBounds_toArray, List.set_cons_zero, List.set_cons_succ]
  refine wpAnyH_take (i := 11) (v := ?_) rfl (by kernel_rfl) (by kernel_rfl) (by kernel_rfl) (fun _ _ _ h => h) (Or.inl ⟨by rfl, ?hy⟩) (by assumption) ?_
  case hy => intro w hSw; obtain ⟨hR, hS1, hS2, hS3⟩ := hSw; (try clear hR); (try dsimp only at *); go_simp; (try with_reducible rfl)
  (try dsimp only [List.getElem_toArray, List.getElem_cons_zero, List.getElem_cons_succ])
  try simp only [Act.put, List.setIfInBounds_toArray, List.set_cons_zero, List.set_cons_succ]
  refine wpAnyH_take (i := 12) (v := ?_) rfl (by kernel_rfl) (by kernel_rfl) (by kernel_rfl) (fun _ _ _ h => h) (Or.inl ⟨by rfl, ?hy⟩) (by assumption) ?_
  case hy => intro w hSw; obtain ⟨hR, hS1, hS2, hS3⟩ := hSw; (try clear hR); (try dsimp only at *); go_simp; (try with_reducible rfl)
  (try dsimp only [List.getElem_toArray, List.getElem_cons_zero, List.getElem_cons_succ])
  try simp only [Act.put, List.setIfInBounds_toArray, List.set_cons_zero, List.set_cons_succ]
  refine wpAnyH_take (i := 13) (v := ?_) rfl (by kernel_rfl) (by kernel_rfl) (by kernel_rfl) (fun _ _ _ h => h) (Or.inl ⟨by rfl, ?hy⟩) (by assumption) ?_
  case hy => intro w hSw; obtain ⟨hR, hS1, hS2, hS3⟩ := hSw; (try clear hR); (try dsimp only at *); go_simp; (try with_reducible rfl)
  (try dsimp only [List.getElem_toArray, List.getElem_cons_zero, List.getElem_cons_succ])
  try simp only [Act.put, List.setIfInBounds_toArray, List.set_cons_zero, List.set_cons_succ]
  refine wpAnyH_take (i := 14) (v := ?_) rfl (by kernel_rfl) (by kernel_rfl) (by kernel_rfl) (fun _ _ _ h => h) (Or.inl ⟨by rfl, ?hy⟩) (by assumption) ?_
  case hy => intro w hSw; obtain ⟨hR, hS1, hS2, hS3⟩ := hSw; (try clear hR); (try dsimp only at *); go_simp; (try with_reducible rfl)
  (try dsimp only [List.getElem_toArray, List.getElem_cons_zero, List.getElem_cons_succ])
  try simp only [Act.put, List.setIfInBounds_toArray, List.set_cons_zero, List.set_cons_succ]
  refine wpAnyH_take (i := 15) (v := ?_) rfl (by kernel_rfl) (by kernel_rfl) (by kernel_rfl) (fun _ _ _ h => h) (Or.inl ⟨by rfl, ?hy⟩) (by assumption) ?_
  case hy => intro w hSw; obtain ⟨hR, hS1, hS2, hS3⟩ := hSw; (try clear hR); (try dsimp only at *); go_simp; (try with_reducible rfl)
  (try dsimp only [List.getElem_toArray, List.getElem_cons_zero, List.getElem_cons_succ])
  try simp only [Act.put, List.setIfInBounds_toArray, List.set_cons_zero, List.set_cons_succ]
  refine wpAnyH_take (i := 16) (v := ?_) rfl (by kernel_rfl) (by kernel_rfl) (by kernel_rfl) (fun _ _ _ h => h) (Or.inl ⟨by rfl, ?hy⟩) (by assumption) ?_
  case hy => intro w hSw; obtain ⟨hR, hS1, hS2, hS3⟩ := hSw; (try clear hR); (try dsimp only at *); go_simp; (try with_reducible rfl)
  (try dsimp only [List.getElem_toArray, List.getElem_cons_zero, List.getElem_cons_succ])
  try simp only [Act.put, List.setIfInBounds_toArray, List.set_cons_zero, List.set_cons_succ]
  refine wpAnyH_done (by kernel_rfl) ?_ _
  try refine NoPanic.normal ?_

  have hf2 : ¬ (n : Int) ≥ M := by have := hf.out; rw [HI.out.num] at this; omega
  have d0 : w2.cell? ⟨g, 0, none⟩ = some (.int .i64 M) := H2.out.blk.cell 0
  have d1 : w2.cell? ⟨g, 1, none⟩ = some (.slice A n c) := H2.out.blk.cell 1
  clear HRG2 HRG HC HW1 H1 hHeld y0 y2 d3
  go_wp2_with fail
  go_quiet (fail)

  obtain ⟨w3, hw3⟩ : ∃ w3, w2.drewN nq = w3 := ⟨_, rfl⟩
  have HB3 : Hid (Below w.heap.size w w3) := hide (by rw [← hw3]; exact below_drewN HB2.out nq)
  have HC3 : Hid (Blk w3 v 41 #[.int .i64 m.id, .int .i64 m.k, .int .i64 m.o, .bool m.a, .bool m.b, .int .i64 m.y, .complex .f64 m.cx m.cy, .bool false, .string ByteArray.empty, .int .i64 0, .int .i64 0, .int .i64 0, .bool false, .string ByteArray.empty, .int .i64 0, .int .i64 0, .int .i64 0]) := hide (by rw [← hw3]; exact HC2.out.drewN nq)
  have H3 := hide (HI.out.kept HB3.out)
  rw [hw3]
  clear hw3 HB2 HC2 H2 d0 d1
  have hvv : w.heap.size = v := hv
  have HV := hide hvv
  have hgv : v ≠ g := by have := HI.out.blk.lt; omega
  rcases HI.out.mp with ⟨rfl, hnil⟩ | ⟨b, rfl, hbF, _⟩
  · have HNI := hide hnil
    obtain ⟨b, hb⟩ : ∃ b, w3.heap.size = b := ⟨_, rfl⟩
    obtain ⟨W, hW⟩ : ∃ W, (w3.setCell ⟨g, 2, none⟩ (.map (some b))).alloc (.map #[] 0) = W := ⟨_, rfl⟩
    have hbv : v < b := by have := HC3.out.lt; omega
    have hgb : g < b := by have := H3.out.blk.lt; omega
    have hn0 : n = 0 := by rw [← HI.out.num, hnil]; rfl
    have OG : Only [g] w3 W := by rw [← hW]; exact (Only.store (F := [g]) (p := ⟨g, 2, none⟩) w3 (List.mem_singleton.2 rfl) _).next (Only.alloc (F := []) _ _) (by simp)
    have HM : Hid (Mem W g v b M m A n c (cells17 l) n (atI (ids l)) (lastL l 0) (lastL l 1)) := hide (by
      have hX : (w3.setCell ⟨g, 2, none⟩ (.map (some b))).heap.size = b := by rw [← hb]; simp
      have m1 := MapI.made (w3.setCell ⟨g, 2, none⟩ (.map (some b)))
      rw [hX, hW] at m1
      refine ⟨?_, own_only H3.out.own OG (fun r hr => by simpa using (H3.out.row r hr).2), ?_, ?_, ?_, by omega, by omega, hgv⟩
      · rw [← hW]; exact (H3.out.blk.store 2 _).alloc _
      · rw [hn0, HNI.out]; exact m1.ext' (fun _ => rfl)
      · exact HC3.out.only OG (by simpa using hgv)
      · intro r hr
        have h1 := H3.out.row r hr
        have h2 := HI.out.lt r h1.1
        have h3 := H3.out.lt r h1.1
        exact ⟨h1.2, by omega, by omega⟩)
    obtain ⟨F0, hF0⟩ : ∃ F0, b :: F = F0 := ⟨_, rfl⟩
    have HFF : Hid (g ∈ F0 ∧ b ∈ F0 ∧ (∀ r, (Value.slice A n c).ownBlock = some r → r ∈ F0) ∧ (∀ x ∈ F0, x < W.heap.size) ∧ ∀ x ∈ F0, x ∈ F ∨ w.heap.size ≤ x) := hide (by
      rw [← hF0]
      refine ⟨List.mem_cons_of_mem _ HI.out.mem, List.mem_cons_self, fun r hr => List.mem_cons_of_mem _ (HI.out.row r hr).1, fun x hx => ?_, fun x hx => ?_⟩
      · have hWs : W.heap.size = b + 1 := by rw [← hW, ← hb]; simp
        rcases List.mem_cons.1 hx with h | h
        · omega
        · have := H3.out.lt x h; omega
      · rcases List.mem_cons.1 hx with h | h
        · exact .inr (by omega)
        · exact .inl h)
    have HOW : Hid (Only F w W) := hide ((Only.of_below HB3.out).next OG (fun x hx => .inl (by rw [List.mem_singleton.1 hx]; exact HI.out.mem)))
    have he := fun w => run_eql_map_nil (P := Try.prog) w 56 3 3 none Try.underlying56
    have hmm := @run_makeMap Try.prog
    have e2 : w3.cell? ⟨g, 2, none⟩ = some (.map none) := H3.out.blk.cell 2
    have g2 : w3.frozen? ⟨g, 2, none⟩ = false := H3.out.blk.free 2
    have hgn : ¬ g = w3.heap.size := by omega
    have hgb2 : ¬ g = b := by omega
    clear OG hF0 hnil hn0
    go_wp2_with fail
    try rw [hW]
    clear e2 g2 he hmm
    have t1 : W.cell? ⟨g, 1, none⟩ = some (.slice A n c) := HM.out.blk.cell 1
    have t2 : W.cell? ⟨g, 2, none⟩ = some (.map (some b)) := HM.out.blk.cell 2
    have u0 : W.cell? ⟨v, 0, none⟩ = some (.int .i64 m.id) := HM.out.box.cell 0
    go_still_tail 11, (by kernel_rfl)
    go_wp2_with (at_mapUpdate; go_loud (refine wpList_put rfl (.tmp 48) (.tmp 50) (.tmp 55) rfl (HM.out.mp.only (F := []) (Only.drew _) (by simp)) (by unfold maxLen; omega) rfl m.id (n : Nat) rfl rfl hx.out (WalkArith.wf_i64 (by omega)) ?_))
    intro w4 hM4 hg4
    have HP4 := hide (HM.out.put hM4 hg4)
    clear hM4 hg4 t1 t2 u0
    have t1 : w4.cell? ⟨g, 1, none⟩ = some (.slice A n c) := HP4.out.1.blk.cell 1
    have t1b : (w4.alloc (.cells #[.int .i64 m.id, .int .i64 m.k, .int .i64 m.o, .bool m.a, .bool m.b, .int .i64 m.y, .complex .f64 m.cx m.cy, .bool false, .string ByteArray.empty, .int .i64 0, .int .i64 0, .int .i64 0, .bool false, .string ByteArray.empty, .int .i64 0, .int .i64 0, .int .i64 0] 41)).cell? ⟨g, 1, none⟩ = some (.slice A n c) := (HP4.out.1.blk.alloc _).cell 1
    have HR4 : Hid (w4.rangeAt v 0 (row17 m)) := hide (row_cells HP4.out.1.box)
    have HR4a : Hid ((w4.alloc (.cells #[.int .i64 m.id, .int .i64 m.k, .int .i64 m.o, .bool m.a, .bool m.b, .int .i64 m.y, .complex .f64 m.cx m.cy, .bool false, .string ByteArray.empty, .int .i64 0, .int .i64 0, .int .i64 0, .bool false, .string ByteArray.empty, .int .i64 0, .int .i64 0, .int .i64 0] 41)).drew.rangeAt v 0 (row17 m)) := hide (row_cells ((HP4.out.1.box.alloc _).drewN 1))
    have HSE : Hid (Sees (w4.alloc (.cells #[.int .i64 m.id, .int .i64 m.k, .int .i64 m.o, .bool m.a, .bool m.b, .int .i64 m.y, .complex .f64 m.cx m.cy, .bool false, .string ByteArray.empty, .int .i64 0, .int .i64 0, .int .i64 0, .bool false, .string ByteArray.empty, .int .i64 0, .int .i64 0, .int .i64 0] 41)).drew (some ⟨w4.heap.size, 0, none⟩) (row17 m)) := hide (fun j u hu => ⟨_, _, rfl, row_cells (cs := row17 m) ((Blk.born w4 41 _).drewN 1) j u hu⟩)
    go_wp2_with fail
    refine wp_region_held_drew (S := fun w' => w'.rangeAt v 0 (row17 m) ∧ True) (by kernel_rfl) (⟨HR4.out, trivial⟩) (fun hHeld => ?_)
    refine wpAnyH_take (i := 0) (v := ?_) rfl (by kernel_rfl) (by kernel_rfl) (by kernel_rfl) (fun _ _ _ h => h) (Or.inl ⟨by rfl, ?hy⟩) (by assumption) ?_
    case hy => intro w hSw; obtain ⟨hR, hS1⟩ := hSw; (try clear hR); (try dsimp only at *); go_simp; (try with_reducible rfl)
    (try dsimp only [List.getElem_toArray, List.getElem_cons_zero, List.getElem_cons_succ])
    try simp only [Act.put, List.setIfInBounds_toArray, List.set_cons_zero, List.set_cons_succ]
    refine wpAnyH_take (i := 1) (v := ?_) rfl (by kernel_rfl) (by kernel_rfl) (by kernel_rfl) (fun _ _ _ h => h) (Or.inl ⟨by rfl, ?hy⟩) (by assumption) ?_
    case hy => intro w hSw; obtain ⟨hR, hS1⟩ := hSw; (try clear hR); (try dsimp only at *); go_simp; (try with_reducible rfl)
    (try dsimp only [List.getElem_toArray, List.getElem_cons_zero, List.getElem_cons_succ])
    try simp only [Act.put, List.setIfInBounds_toArray, List.set_cons_zero, List.set_cons_succ]
    refine wpAnyH_take (i := 2) (v := ?_) rfl (by kernel_rfl) (by kernel_rfl) (by kernel_rfl) (fun _ _ _ h => h) (Or.inl ⟨by rfl, ?hy⟩) (by assumption) ?_
    case hy => intro w hSw; obtain ⟨hR, hS1⟩ := hSw; (try clear hR); (try dsimp only at *); go_simp; (try with_reducible rfl)
    (try dsimp only [List.getElem_toArray, List.getElem_cons_zero, List.getElem_cons_succ])
    try simp only [Act.put, List.setIfInBounds_toArray, List.set_cons_zero, List.set_cons_succ]
    refine wpAnyH_take (i := 3) (v := ?_) rfl (by kernel_rfl) (by kernel_rfl) (by kernel_rfl) (fun _ _ _ h => h) (Or.inl ⟨by rfl, ?hy⟩) (by assumption) ?_
    case hy => intro w hSw; obtain ⟨hR, hS1⟩ := hSw; (try clear hR); (try dsimp only at *); go_simp; (try with_reducible rfl)
    (try dsimp only [List.getElem_toArray, List.getElem_cons_zero, List.getElem_cons_succ])
    try simp only [Act.put, List.setIfInBounds_toArray, List.set_cons_zero, List.set_cons_succ]
    refine wpAnyH_take (i := 5) (v := .agg #[.int .i64 m.id, .int .i64 m.k, .int .i64 m.o, .bool m.a, .bool m.b, .int .i64 m.y, .complex .f64 m.cx m.cy, .bool false, .string ByteArray.empty, .int .i64 0, .int .i64 0, .int .i64 0, .bool false, .string ByteArray.empty, .int .i64 0, .int .i64 0, .int .i64 0]) rfl (by kernel_rfl) (by kernel_rfl) (by kernel_rfl) (fun _ _ _ h => h) ?hz (by assumption) ?_
    case hz => exact yieldsIf_load_mid (by rfl) 41 (.tmp 3) rfl v 0 (by rfl) (row17 m) _ (fun _ h => h.1) Try.underlying41 rfl size41
    (try dsimp only [List.getElem_toArray, List.getElem_cons_zero, List.getElem_cons_succ])
    try simp only [Act.put, List.setIfInBounds_toArray, List.set_cons_zero, List.set_cons_succ]
    refine wpAnyH_ready (rs := [4, 6]) (by kernel_rfl) (by simp) ?_
    refine AllReadyH.cons rfl (fun K' hK => ?_) (AllReadyH.cons rfl (fun K' hK => ?_) AllReadyH.nil)
    · go_simp
      refine hK.out _ _ ⟨HR4.out, trivial⟩ (fun hHeld => ?_)
      clear hK hHeld
      (try dsimp only [List.getElem_toArray, List.getElem_cons_zero, List.getElem_cons_succ])
      try simp only [Act.put, List.setIfInBounds_toArray, List.set_cons_zero, List.set_cons_succ]
      refine wpAnyH_ready (rs := [6]) (by kernel_rfl) (by simp) ?_
      refine AllReadyH.cons rfl (fun K' hK => ?_) AllReadyH.nil
      go_simp
      refine hK.out _ _ ⟨HR4a.out, trivial⟩ (fun hHeld => ?_)
      clear hK hHeld
      (try dsimp only [List.getElem_toArray, List.getElem_cons_zero, List.getElem_cons_succ])
      try simp only [Act.put, List.setIfInBounds_toArray, List.set_cons_zero, List.set_cons_succ]
      refine wpAnyH_ready (rs := [7]) (by kernel_rfl) (by simp) ?_
      refine AllReadyH.cons rfl (fun K' hK => ?_) AllReadyH.nil
      refine step_pour rfl (.tmp 60) (.tmp 62) 55 rfl 0 41 17 info41 rfl (by decide) Try.underlying55 (.slice A n c) n (cells17 l) (by rfl) (HP4.out.1.own.alloc _) (some ⟨w4.heap.size, 0, none⟩) 1 1 (row17 m) (by rfl) rfl (by simp) HSE.out (row17_one m) (by unfold maxLen; omega) (by omega) (Nat.zero_le _) ?_
      intro B c' w5 ho hg hloc
      have HP5 := hide (HP4.out.1.push _ ho hg hloc)
      have HLO := hide hloc
      clear ho hg hloc
      have t5 : w5.cell? ⟨g, 1, none⟩ = some (.slice A n c) := HP5.out.2.2.1.cell 1
      have z5 : w5.frozen? ⟨g, 1, none⟩ = false := HP5.out.2.2.1.free 1
      have HR5 : Hid (w5.rangeAt v 0 (row17 m)) := hide (row_cells HP5.out.2.2.2)
      have HR6 : Hid ((w5.setCell ⟨g, 1, none⟩ (.slice B (n + 1) c')).rangeAt v 0 (row17 m)) := hide (row_cells HP5.out.1.box)
      refine hK.out _ _ ⟨HR5.out, trivial⟩ (fun hHeld => ?_)
      clear hK
      (try dsimp only [List.getElem_toArray, List.getElem_cons_zero, List.getElem_cons_succ])
      try simp only [Act.put, List.setIfInBounds_toArray, List.set_cons_zero, List.set_cons_succ]
      refine wpAnyH_take (i := 8) (v := ?_) rfl (by kernel_rfl) (by kernel_rfl) (by kernel_rfl) (fun _ _ _ h => h) (Or.inl ⟨by rfl, ?hy⟩) (by assumption) ?_
      case hy => intro w hSw; obtain ⟨hR, hS1⟩ := hSw; (try clear hR); (try dsimp only at *); go_simp; (try with_reducible rfl)
      (try dsimp only [List.getElem_toArray, List.getElem_cons_zero, List.getElem_cons_succ])
      try simp only [Act.put, List.setIfInBounds_toArray, List.set_cons_zero, List.set_cons_succ]
      refine wpAnyH_take (i := 9) (v := ?_) rfl (by kernel_rfl) (by kernel_rfl) (by kernel_rfl) (fun _ _ _ h => h) (Or.inl ⟨by rfl, ?hy⟩) (by assumption) ?_
      case hy => intro w hSw; obtain ⟨hR, hS1⟩ := hSw; (try clear hR); (try dsimp only at *); go_simp; (try with_reducible rfl)
      (try dsimp only [List.getElem_toArray, List.getElem_cons_zero, List.getElem_cons_succ])
      try simp only [Act.put, List.setIfInBounds_toArray, List.set_cons_zero, List.set_cons_succ]
      refine wpAnyH_ready (rs := [10]) (by kernel_rfl) (by simp) ?_
      refine AllReadyH.cons rfl (fun K' hK => ?_) AllReadyH.nil
      go_simp
      refine hK.out _ _ ⟨HR6.out, trivial⟩ (fun hHeld => ?_)
      clear hK hHeld
      (try dsimp only [List.getElem_toArray, List.getElem_cons_zero, List.getElem_cons_succ])
      try simp only [Act.put, List.setIfInBounds_toArray, List.set_cons_zero, List.set_cons_succ]
      refine wpAnyH_done (by kernel_rfl) ?_ _
      try refine NoPanic.normal ?_
      obtain ⟨w6, hw6⟩ : ∃ w6, w5.setCell ⟨g, 1, none⟩ (.slice B (n + 1) c') = w6 := ⟨_, rfl⟩
      rw [hw6] at HP5
      rw [hw6]
      clear hw6 t5 z5 t1 t1b
      have u0 : w6.cell? ⟨v, 0, none⟩ = some (.int .i64 m.id) := HP5.out.1.box.cell 0
      have u2 : w6.cell? ⟨v, 2, none⟩ = some (.int .i64 0) := (HP5.out.1.box.cell 2).trans (by show some (Value.int .i64 m.o) = _; rw [HMO.out])
      have t3 : w6.cell? ⟨g, 3, none⟩ = some (.int .i64 (lastL l 0)) := HP5.out.1.blk.cell 3
      have z3 : w6.frozen? ⟨g, 3, none⟩ = false := HP5.out.1.blk.free 3
      have O6 : Only F0 W w6 := (HP4.out.2.mono (fun x hx => .inl (by rw [List.mem_singleton.1 hx]; exact HFF.out.2.1))).next (HP5.out.2.1 F0 HFF.out.1 HFF.out.2.2.1) (fun x hx => .inl hx)
      have HEND := hide (beg_fin0 HP5.out.1 HI.out.num hc.out HMO.out HOW.out O6 HFF.out.2.2.2.2 HFF.out.1 HFF.out.2.1 (fun x hx => Nat.lt_of_lt_of_le (HFF.out.2.2.2.1 x hx) O6.size) (fun r hr => by
        rcases HLO.out with e | e
        · exact .inl (HFF.out.2.2.1 r (e.symm.trans hr))
        · rw [hr] at e
          have e2 := Option.some.inj e
          have h5 : (w4.alloc (.cells #[.int .i64 m.id, .int .i64 m.k, .int .i64 m.o, .bool m.a, .bool m.b, .int .i64 m.y, .complex .f64 m.cx m.cy, .bool false, .string ByteArray.empty, .int .i64 0, .int .i64 0, .int .i64 0, .bool false, .string ByteArray.empty, .int .i64 0, .int .i64 0, .int .i64 0] 41)).drew.heap.size = w4.heap.size + 1 := by simp
          have h6 := HOW.out.size
          have h7 := HP4.out.2.size
          exact .inr (by omega)) HI.out.mem)
      clear O6
      go_wp2_with fail
      go_still_tail 9, (by kernel_rfl)
      go_wp2_with fail
      go_ret
      exact HEND.out
    · go_simp
      refine hK.out _ _ ⟨HR4a.out, trivial⟩ (fun hHeld => ?_)
      clear hK hHeld
      (try dsimp only [List.getElem_toArray, List.getElem_cons_zero, List.getElem_cons_succ])
      try simp only [Act.put, List.setIfInBounds_toArray, List.set_cons_zero, List.set_cons_succ]
      refine wpAnyH_ready (rs := [4]) (by kernel_rfl) (by simp) ?_
      refine AllReadyH.cons rfl (fun K' hK => ?_) AllReadyH.nil
      go_simp
      refine hK.out _ _ ⟨HR4a.out, trivial⟩ (fun hHeld => ?_)
      clear hK hHeld
      (try dsimp only [List.getElem_toArray, List.getElem_cons_zero, List.getElem_cons_succ])
      try simp only [Act.put, List.setIfInBounds_toArray, List.set_cons_zero, List.set_cons_succ]
      refine wpAnyH_ready (rs := [7]) (by kernel_rfl) (by simp) ?_
      refine AllReadyH.cons rfl (fun K' hK => ?_) AllReadyH.nil
      refine step_pour rfl (.tmp 60) (.tmp 62) 55 rfl 0 41 17 info41 rfl (by decide) Try.underlying55 (.slice A n c) n (cells17 l) (by rfl) (HP4.out.1.own.alloc _) (some ⟨w4.heap.size, 0, none⟩) 1 1 (row17 m) (by rfl) rfl (by simp) HSE.out (row17_one m) (by unfold maxLen; omega) (by omega) (Nat.zero_le _) ?_
      intro B c' w5 ho hg hloc
      have HP5 := hide (HP4.out.1.push _ ho hg hloc)
      have HLO := hide hloc
      clear ho hg hloc
      have t5 : w5.cell? ⟨g, 1, none⟩ = some (.slice A n c) := HP5.out.2.2.1.cell 1
      have z5 : w5.frozen? ⟨g, 1, none⟩ = false := HP5.out.2.2.1.free 1
      have HR5 : Hid (w5.rangeAt v 0 (row17 m)) := hide (row_cells HP5.out.2.2.2)
      have HR6 : Hid ((w5.setCell ⟨g, 1, none⟩ (.slice B (n + 1) c')).rangeAt v 0 (row17 m)) := hide (row_cells HP5.out.1.box)
      refine hK.out _ _ ⟨HR5.out, trivial⟩ (fun hHeld => ?_)
      clear hK
      (try dsimp only [List.getElem_toArray, List.getElem_cons_zero, List.getElem_cons_succ])
      try simp only [Act.put, List.setIfInBounds_toArray, List.set_cons_zero, List.set_cons_succ]
      refine wpAnyH_take (i := 8) (v := ?_) rfl (by kernel_rfl) (by kernel_rfl) (by kernel_rfl) (fun _ _ _ h => h) (Or.inl ⟨by rfl, ?hy⟩) (by assumption) ?_
      case hy => intro w hSw; obtain ⟨hR, hS1⟩ := hSw; (try clear hR); (try dsimp only at *); go_simp; (try with_reducible rfl)
      (try dsimp only [List.getElem_toArray, List.getElem_cons_zero, List.getElem_cons_succ])
      try simp only [Act.put, List.setIfInBounds_toArray, List.set_cons_zero, List.set_cons_succ]
      refine wpAnyH_take (i := 9) (v := ?_) rfl (by kernel_rfl) (by kernel_rfl) (by kernel_rfl) (fun _ _ _ h => h) (Or.inl ⟨by rfl, ?hy⟩) (by assumption) ?_
      case hy => intro w hSw; obtain ⟨hR, hS1⟩ := hSw; (try clear hR); (try dsimp only at *); go_simp; (try with_reducible rfl)
      (try dsimp only [List.getElem_toArray, List.getElem_cons_zero, List.getElem_cons_succ])
      try simp only [Act.put, List.setIfInBounds_toArray, List.set_cons_zero, List.set_cons_succ]
      refine wpAnyH_ready (rs := [10]) (by kernel_rfl) (by simp) ?_
      refine AllReadyH.cons rfl (fun K' hK => ?_) AllReadyH.nil
      go_simp
      refine hK.out _ _ ⟨HR6.out, trivial⟩ (fun hHeld => ?_)
      clear hK hHeld
      (try dsimp only [List.getElem_toArray, List.getElem_cons_zero, List.getElem_cons_succ])
      try simp only [Act.put, List.setIfInBounds_toArray, List.set_cons_zero, List.set_cons_succ]
      refine wpAnyH_done (by kernel_rfl) ?_ _
      try refine NoPanic.normal ?_
      obtain ⟨w6, hw6⟩ : ∃ w6, w5.setCell ⟨g, 1, none⟩ (.slice B (n + 1) c') = w6 := ⟨_, rfl⟩
      rw [hw6] at HP5
      rw [hw6]
      clear hw6 t5 z5 t1 t1b
      have u0 : w6.cell? ⟨v, 0, none⟩ = some (.int .i64 m.id) := HP5.out.1.box.cell 0
      have u2 : w6.cell? ⟨v, 2, none⟩ = some (.int .i64 0) := (HP5.out.1.box.cell 2).trans (by show some (Value.int .i64 m.o) = _; rw [HMO.out])
      have t3 : w6.cell? ⟨g, 3, none⟩ = some (.int .i64 (lastL l 0)) := HP5.out.1.blk.cell 3
      have z3 : w6.frozen? ⟨g, 3, none⟩ = false := HP5.out.1.blk.free 3
      have O6 : Only F0 W w6 := (HP4.out.2.mono (fun x hx => .inl (by rw [List.mem_singleton.1 hx]; exact HFF.out.2.1))).next (HP5.out.2.1 F0 HFF.out.1 HFF.out.2.2.1) (fun x hx => .inl hx)
      have HEND := hide (beg_fin0 HP5.out.1 HI.out.num hc.out HMO.out HOW.out O6 HFF.out.2.2.2.2 HFF.out.1 HFF.out.2.1 (fun x hx => Nat.lt_of_lt_of_le (HFF.out.2.2.2.1 x hx) O6.size) (fun r hr => by
        rcases HLO.out with e | e
        · exact .inl (HFF.out.2.2.1 r (e.symm.trans hr))
        · rw [hr] at e
          have e2 := Option.some.inj e
          have h5 : (w4.alloc (.cells #[.int .i64 m.id, .int .i64 m.k, .int .i64 m.o, .bool m.a, .bool m.b, .int .i64 m.y, .complex .f64 m.cx m.cy, .bool false, .string ByteArray.empty, .int .i64 0, .int .i64 0, .int .i64 0, .bool false, .string ByteArray.empty, .int .i64 0, .int .i64 0, .int .i64 0] 41)).drew.heap.size = w4.heap.size + 1 := by simp
          have h6 := HOW.out.size
          have h7 := HP4.out.2.size
          exact .inr (by omega)) HI.out.mem)
      clear O6
      go_wp2_with fail
      go_still_tail 9, (by kernel_rfl)
      go_wp2_with fail
      go_ret
      exact HEND.out

  · have HBF := hide hbF
    have HM : Hid (Mem w3 g v b M m A n c (cells17 l) n (atI (ids l)) (lastL l 0) (lastL l 1)) := hide (by
      have hmp : MapI w3 b n (atI (ids l)) := by
        rcases H3.out.mp with ⟨h, _⟩ | ⟨b', h, _, h3⟩
        · cases h
        · injection h with h; subst h; exact h3
      have hbl := HI.out.lt b HBF.out
      refine ⟨H3.out.blk, H3.out.own, hmp, HC3.out, fun r hr => ⟨(H3.out.row r hr).2, ?_, own_ne_map H3.out.own hmp r hr⟩, hmp.ne H3.out.blk, ?_, hgv⟩
      · have := HI.out.lt r (HI.out.row r hr).1; omega
      · omega)
    obtain ⟨F0, hF0⟩ : ∃ F0, F = F0 := ⟨_, rfl⟩
    have HFF : Hid (g ∈ F0 ∧ b ∈ F0 ∧ (∀ r, (Value.slice A n c).ownBlock = some r → r ∈ F0) ∧ (∀ x ∈ F0, x < w3.heap.size) ∧ ∀ x ∈ F0, x ∈ F ∨ w.heap.size ≤ x) := hide (by
      rw [← hF0]
      exact ⟨HI.out.mem, HBF.out, fun r hr => (HI.out.row r hr).1, H3.out.lt, fun x hx => .inl hx⟩)
    have HOW : Hid (Only F w w3) := hide (Only.of_below HB3.out)
    have he := fun w => run_eql_map_nil (P := Try.prog) w 56 3 3 (some b) Try.underlying56
    have e2 : w3.cell? ⟨g, 2, none⟩ = some (.map (some b)) := H3.out.blk.cell 2
    clear hF0 hbF
    go_wp2_with fail
    clear e2 he
    have t1 : w3.cell? ⟨g, 1, none⟩ = some (.slice A n c) := HM.out.blk.cell 1
    have t2 : w3.cell? ⟨g, 2, none⟩ = some (.map (some b)) := HM.out.blk.cell 2
    have u0 : w3.cell? ⟨v, 0, none⟩ = some (.int .i64 m.id) := HM.out.box.cell 0
    go_still_tail 11, (by kernel_rfl)
    go_wp2_with (at_mapUpdate; go_loud (refine wpList_put rfl (.tmp 48) (.tmp 50) (.tmp 55) rfl (HM.out.mp.only (F := []) (Only.drew _) (by simp)) (by unfold maxLen; omega) rfl m.id (n : Nat) rfl rfl hx.out (WalkArith.wf_i64 (by omega)) ?_))
    intro w4 hM4 hg4
    have HP4 := hide (HM.out.put hM4 hg4)
    clear hM4 hg4 t1 t2 u0
    have t1 : w4.cell? ⟨g, 1, none⟩ = some (.slice A n c) := HP4.out.1.blk.cell 1
    have t1b : (w4.alloc (.cells #[.int .i64 m.id, .int .i64 m.k, .int .i64 m.o, .bool m.a, .bool m.b, .int .i64 m.y, .complex .f64 m.cx m.cy, .bool false, .string ByteArray.empty, .int .i64 0, .int .i64 0, .int .i64 0, .bool false, .string ByteArray.empty, .int .i64 0, .int .i64 0, .int .i64 0] 41)).cell? ⟨g, 1, none⟩ = some (.slice A n c) := (HP4.out.1.blk.alloc _).cell 1
    have HR4 : Hid (w4.rangeAt v 0 (row17 m)) := hide (row_cells HP4.out.1.box)
    have HR4a : Hid ((w4.alloc (.cells #[.int .i64 m.id, .int .i64 m.k, .int .i64 m.o, .bool m.a, .bool m.b, .int .i64 m.y, .complex .f64 m.cx m.cy, .bool false, .string ByteArray.empty, .int .i64 0, .int .i64 0, .int .i64 0, .bool false, .string ByteArray.empty, .int .i64 0, .int .i64 0, .int .i64 0] 41)).drew.rangeAt v 0 (row17 m)) := hide (row_cells ((HP4.out.1.box.alloc _).drewN 1))
    have HSE : Hid (Sees (w4.alloc (.cells #[.int .i64 m.id, .int .i64 m.k, .int .i64 m.o, .bool m.a, .bool m.b, .int .i64 m.y, .complex .f64 m.cx m.cy, .bool false, .string ByteArray.empty, .int .i64 0, .int .i64 0, .int .i64 0, .bool false, .string ByteArray.empty, .int .i64 0, .int .i64 0, .int .i64 0] 41)).drew (some ⟨w4.heap.size, 0, none⟩) (row17 m)) := hide (fun j u hu => ⟨_, _, rfl, row_cells (cs := row17 m) ((Blk.born w4 41 _).drewN 1) j u hu⟩)
    go_wp2_with fail
    refine wp_region_held_drew (S := fun w' => w'.rangeAt v 0 (row17 m) ∧ True) (by kernel_rfl) (⟨HR4.out, trivial⟩) (fun hHeld => ?_)
    refine wpAnyH_take (i := 0) (v := ?_) rfl (by kernel_rfl) (by kernel_rfl) (by kernel_rfl) (fun _ _ _ h => h) (Or.inl ⟨by rfl, ?hy⟩) (by assumption) ?_
    case hy => intro w hSw; obtain ⟨hR, hS1⟩ := hSw; (try clear hR); (try dsimp only at *); go_simp; (try with_reducible rfl)
    (try dsimp only [List.getElem_toArray, List.getElem_cons_zero, List.getElem_cons_succ])
    try simp only [Act.put, List.setIfInBounds_toArray, List.set_cons_zero, List.set_cons_succ]
    refine wpAnyH_take (i := 1) (v := ?_) rfl (by kernel_rfl) (by kernel_rfl) (by kernel_rfl) (fun _ _ _ h => h) (Or.inl ⟨by rfl, ?hy⟩) (by assumption) ?_
    case hy => intro w hSw; obtain ⟨hR, hS1⟩ := hSw; (try clear hR); (try dsimp only at *); go_simp; (try with_reducible rfl)
    (try dsimp only [List.getElem_toArray, List.getElem_cons_zero, List.getElem_cons_succ])
    try simp only [Act.put, List.setIfInBounds_toArray, List.set_cons_zero, List.set_cons_succ]
    refine wpAnyH_take (i := 2) (v := ?_) rfl (by kernel_rfl) (by kernel_rfl) (by kernel_rfl) (fun _ _ _ h => h) (Or.inl ⟨by rfl, ?hy⟩) (by assumption) ?_
    case hy => intro w hSw; obtain ⟨hR, hS1⟩ := hSw; (try clear hR); (try dsimp only at *); go_simp; (try with_reducible rfl)
    (try dsimp only [List.getElem_toArray, List.getElem_cons_zero, List.getElem_cons_succ])
    try simp only [Act.put, List.setIfInBounds_toArray, List.set_cons_zero, List.set_cons_succ]
    refine wpAnyH_take (i := 3) (v := ?_) rfl (by kernel_rfl) (by kernel_rfl) (by kernel_rfl) (fun _ _ _ h => h) (Or.inl ⟨by rfl, ?hy⟩) (by assumption) ?_
    case hy => intro w hSw; obtain ⟨hR, hS1⟩ := hSw; (try clear hR); (try dsimp only at *); go_simp; (try with_reducible rfl)
    (try dsimp only [List.getElem_toArray, List.getElem_cons_zero, List.getElem_cons_succ])
    try simp only [Act.put, List.setIfInBounds_toArray, List.set_cons_zero, List.set_cons_succ]
    refine wpAnyH_take (i := 5) (v := .agg #[.int .i64 m.id, .int .i64 m.k, .int .i64 m.o, .bool m.a, .bool m.b, .int .i64 m.y, .complex .f64 m.cx m.cy, .bool false, .string ByteArray.empty, .int .i64 0, .int .i64 0, .int .i64 0, .bool false, .string ByteArray.empty, .int .i64 0, .int .i64 0, .int .i64 0]) rfl (by kernel_rfl) (by kernel_rfl) (by kernel_rfl) (fun _ _ _ h => h) ?hz (by assumption) ?_
    case hz => exact yieldsIf_load_mid (by rfl) 41 (.tmp 3) rfl v 0 (by rfl) (row17 m) _ (fun _ h => h.1) Try.underlying41 rfl size41
    (try dsimp only [List.getElem_toArray, List.getElem_cons_zero, List.getElem_cons_succ])
    try simp only [Act.put, List.setIfInBounds_toArray, List.set_cons_zero, List.set_cons_succ]
    refine wpAnyH_ready (rs := [4, 6]) (by kernel_rfl) (by simp) ?_
    refine AllReadyH.cons rfl (fun K' hK => ?_) (AllReadyH.cons rfl (fun K' hK => ?_) AllReadyH.nil)
    · go_simp
      refine hK.out _ _ ⟨HR4.out, trivial⟩ (fun hHeld => ?_)
      clear hK hHeld
      (try dsimp only [List.getElem_toArray, List.getElem_cons_zero, List.getElem_cons_succ])
      try simp only [Act.put, List.setIfInBounds_toArray, List.set_cons_zero, List.set_cons_succ]
      refine wpAnyH_ready (rs := [6]) (by kernel_rfl) (by simp) ?_
      refine AllReadyH.cons rfl (fun K' hK => ?_) AllReadyH.nil
      go_simp
      refine hK.out _ _ ⟨HR4a.out, trivial⟩ (fun hHeld => ?_)
      clear hK hHeld
      (try dsimp only [List.getElem_toArray, List.getElem_cons_zero, List.getElem_cons_succ])
      try simp only [Act.put, List.setIfInBounds_toArray, List.set_cons_zero, List.set_cons_succ]
      refine wpAnyH_ready (rs := [7]) (by kernel_rfl) (by simp) ?_
      refine AllReadyH.cons rfl (fun K' hK => ?_) AllReadyH.nil
      refine step_pour rfl (.tmp 60) (.tmp 62) 55 rfl 0 41 17 info41 rfl (by decide) Try.underlying55 (.slice A n c) n (cells17 l) (by rfl) (HP4.out.1.own.alloc _) (some ⟨w4.heap.size, 0, none⟩) 1 1 (row17 m) (by rfl) rfl (by simp) HSE.out (row17_one m) (by unfold maxLen; omega) (by omega) (Nat.zero_le _) ?_
      intro B c' w5 ho hg hloc
      have HP5 := hide (HP4.out.1.push _ ho hg hloc)
      have HLO := hide hloc
      clear ho hg hloc
      have t5 : w5.cell? ⟨g, 1, none⟩ = some (.slice A n c) := HP5.out.2.2.1.cell 1
      have z5 : w5.frozen? ⟨g, 1, none⟩ = false := HP5.out.2.2.1.free 1
      have HR5 : Hid (w5.rangeAt v 0 (row17 m)) := hide (row_cells HP5.out.2.2.2)
      have HR6 : Hid ((w5.setCell ⟨g, 1, none⟩ (.slice B (n + 1) c')).rangeAt v 0 (row17 m)) := hide (row_cells HP5.out.1.box)
      refine hK.out _ _ ⟨HR5.out, trivial⟩ (fun hHeld => ?_)
      clear hK
      (try dsimp only [List.getElem_toArray, List.getElem_cons_zero, List.getElem_cons_succ])
      try simp only [Act.put, List.setIfInBounds_toArray, List.set_cons_zero, List.set_cons_succ]
      refine wpAnyH_take (i := 8) (v := ?_) rfl (by kernel_rfl) (by kernel_rfl) (by kernel_rfl) (fun _ _ _ h => h) (Or.inl ⟨by rfl, ?hy⟩) (by assumption) ?_
      case hy => intro w hSw; obtain ⟨hR, hS1⟩ := hSw; (try clear hR); (try dsimp only at *); go_simp; (try with_reducible rfl)
      (try dsimp only [List.getElem_toArray, List.getElem_cons_zero, List.getElem_cons_succ])
      try simp only [Act.put, List.setIfInBounds_toArray, List.set_cons_zero, List.set_cons_succ]
      refine wpAnyH_take (i := 9) (v := ?_) rfl (by kernel_rfl) (by kernel_rfl) (by kernel_rfl) (fun _ _ _ h => h) (Or.inl ⟨by rfl, ?hy⟩) (by assumption) ?_
      case hy => intro w hSw; obtain ⟨hR, hS1⟩ := hSw; (try clear hR); (try dsimp only at *); go_simp; (try with_reducible rfl)
      (try dsimp only [List.getElem_toArray, List.getElem_cons_zero, List.getElem_cons_succ])
      try simp only [Act.put, List.setIfInBounds_toArray, List.set_cons_zero, List.set_cons_succ]
      refine wpAnyH_ready (rs := [10]) (by kernel_rfl) (by simp) ?_
      refine AllReadyH.cons rfl (fun K' hK => ?_) AllReadyH.nil
      go_simp
      refine hK.out _ _ ⟨HR6.out, trivial⟩ (fun hHeld => ?_)
      clear hK hHeld
      (try dsimp only [List.getElem_toArray, List.getElem_cons_zero, List.getElem_cons_succ])
      try simp only [Act.put, List.setIfInBounds_toArray, List.set_cons_zero, List.set_cons_succ]
      refine wpAnyH_done (by kernel_rfl) ?_ _
      try refine NoPanic.normal ?_
      obtain ⟨w6, hw6⟩ : ∃ w6, w5.setCell ⟨g, 1, none⟩ (.slice B (n + 1) c') = w6 := ⟨_, rfl⟩
      rw [hw6] at HP5
      rw [hw6]
      clear hw6 t5 z5 t1 t1b
      have u0 : w6.cell? ⟨v, 0, none⟩ = some (.int .i64 m.id) := HP5.out.1.box.cell 0
      have u2 : w6.cell? ⟨v, 2, none⟩ = some (.int .i64 0) := (HP5.out.1.box.cell 2).trans (by show some (Value.int .i64 m.o) = _; rw [HMO.out])
      have t3 : w6.cell? ⟨g, 3, none⟩ = some (.int .i64 (lastL l 0)) := HP5.out.1.blk.cell 3
      have z3 : w6.frozen? ⟨g, 3, none⟩ = false := HP5.out.1.blk.free 3
      have O6 : Only F0 w3 w6 := (HP4.out.2.mono (fun x hx => .inl (by rw [List.mem_singleton.1 hx]; exact HFF.out.2.1))).next (HP5.out.2.1 F0 HFF.out.1 HFF.out.2.2.1) (fun x hx => .inl hx)
      have HEND := hide (beg_fin0 HP5.out.1 HI.out.num hc.out HMO.out HOW.out O6 HFF.out.2.2.2.2 HFF.out.1 HFF.out.2.1 (fun x hx => Nat.lt_of_lt_of_le (HFF.out.2.2.2.1 x hx) O6.size) (fun r hr => by
        rcases HLO.out with e | e
        · exact .inl (HFF.out.2.2.1 r (e.symm.trans hr))
        · rw [hr] at e
          have e2 := Option.some.inj e
          have h5 : (w4.alloc (.cells #[.int .i64 m.id, .int .i64 m.k, .int .i64 m.o, .bool m.a, .bool m.b, .int .i64 m.y, .complex .f64 m.cx m.cy, .bool false, .string ByteArray.empty, .int .i64 0, .int .i64 0, .int .i64 0, .bool false, .string ByteArray.empty, .int .i64 0, .int .i64 0, .int .i64 0] 41)).drew.heap.size = w4.heap.size + 1 := by simp
          have h6 := HOW.out.size
          have h7 := HP4.out.2.size
          exact .inr (by omega)) HI.out.mem)
      clear O6
      go_wp2_with fail
      go_still_tail 9, (by kernel_rfl)
      go_wp2_with fail
      go_ret
      exact HEND.out
    · go_simp
      refine hK.out _ _ ⟨HR4a.out, trivial⟩ (fun hHeld => ?_)
      clear hK hHeld
      (try dsimp only [List.getElem_toArray, List.getElem_cons_zero, List.getElem_cons_succ])
      try simp only [Act.put, List.setIfInBounds_toArray, List.set_cons_zero, List.set_cons_succ]
      refine wpAnyH_ready (rs := [4]) (by kernel_rfl) (by simp) ?_
      refine AllReadyH.cons rfl (fun K' hK => ?_) AllReadyH.nil
      go_simp
      refine hK.out _ _ ⟨HR4a.out, trivial⟩ (fun hHeld => ?_)
      clear hK hHeld
      (try dsimp only [List.getElem_toArray, List.getElem_cons_zero, List.getElem_cons_succ])
      try simp only [Act.put, List.setIfInBounds_toArray, List.set_cons_zero, List.set_cons_succ]
      refine wpAnyH_ready (rs := [7]) (by kernel_rfl) (by simp) ?_
      refine AllReadyH.cons rfl (fun K' hK => ?_) AllReadyH.nil
      refine step_pour rfl (.tmp 60) (.tmp 62) 55 rfl 0 41 17 info41 rfl (by decide) Try.underlying55 (.slice A n c) n (cells17 l) (by rfl) (HP4.out.1.own.alloc _) (some ⟨w4.heap.size, 0, none⟩) 1 1 (row17 m) (by rfl) rfl (by simp) HSE.out (row17_one m) (by unfold maxLen; omega) (by omega) (Nat.zero_le _) ?_
      intro B c' w5 ho hg hloc
      have HP5 := hide (HP4.out.1.push _ ho hg hloc)
      have HLO := hide hloc
      clear ho hg hloc
      have t5 : w5.cell? ⟨g, 1, none⟩ = some (.slice A n c) := HP5.out.2.2.1.cell 1
      have z5 : w5.frozen? ⟨g, 1, none⟩ = false := HP5.out.2.2.1.free 1
      have HR5 : Hid (w5.rangeAt v 0 (row17 m)) := hide (row_cells HP5.out.2.2.2)
      have HR6 : Hid ((w5.setCell ⟨g, 1, none⟩ (.slice B (n + 1) c')).rangeAt v 0 (row17 m)) := hide (row_cells HP5.out.1.box)
      refine hK.out _ _ ⟨HR5.out, trivial⟩ (fun hHeld => ?_)
      clear hK
      (try dsimp only [List.getElem_toArray, List.getElem_cons_zero, List.getElem_cons_succ])
      try simp only [Act.put, List.setIfInBounds_toArray, List.set_cons_zero, List.set_cons_succ]
      refine wpAnyH_take (i := 8) (v := ?_) rfl (by kernel_rfl) (by kernel_rfl) (by kernel_rfl) (fun _ _ _ h => h) (Or.inl ⟨by rfl, ?hy⟩) (by assumption) ?_
      case hy => intro w hSw; obtain ⟨hR, hS1⟩ := hSw; (try clear hR); (try dsimp only at *); go_simp; (try with_reducible rfl)
      (try dsimp only [List.getElem_toArray, List.getElem_cons_zero, List.getElem_cons_succ])
      try simp only [Act.put, List.setIfInBounds_toArray, List.set_cons_zero, List.set_cons_succ]
      refine wpAnyH_take (i := 9) (v := ?_) rfl (by kernel_rfl) (by kernel_rfl) (by kernel_rfl) (fun _ _ _ h => h) (Or.inl ⟨by rfl, ?hy⟩) (by assumption) ?_
      case hy => intro w hSw; obtain ⟨hR, hS1⟩ := hSw; (try clear hR); (try dsimp only at *); go_simp; (try with_reducible rfl)
      (try dsimp only [List.getElem_toArray, List.getElem_cons_zero, List.getElem_cons_succ])
      try simp only [Act.put, List.setIfInBounds_toArray, List.set_cons_zero, List.set_cons_succ]
      refine wpAnyH_ready (rs := [10]) (by kernel_rfl) (by simp) ?_
      refine AllReadyH.cons rfl (fun K' hK => ?_) AllReadyH.nil
      go_simp
      refine hK.out _ _ ⟨HR6.out, trivial⟩ (fun hHeld => ?_)
      clear hK hHeld
      (try dsimp only [List.getElem_toArray, List.getElem_cons_zero, List.getElem_cons_succ])
      try simp only [Act.put, List.setIfInBounds_toArray, List.set_cons_zero, List.set_cons_succ]
      refine wpAnyH_done (by kernel_rfl) ?_ _
      try refine NoPanic.normal ?_
      obtain ⟨w6, hw6⟩ : ∃ w6, w5.setCell ⟨g, 1, none⟩ (.slice B (n + 1) c') = w6 := ⟨_, rfl⟩
      rw [hw6] at HP5
      rw [hw6]
      clear hw6 t5 z5 t1 t1b
      have u0 : w6.cell? ⟨v, 0, none⟩ = some (.int .i64 m.id) := HP5.out.1.box.cell 0
      have u2 : w6.cell? ⟨v, 2, none⟩ = some (.int .i64 0) := (HP5.out.1.box.cell 2).trans (by show some (Value.int .i64 m.o) = _; rw [HMO.out])
      have t3 : w6.cell? ⟨g, 3, none⟩ = some (.int .i64 (lastL l 0)) := HP5.out.1.blk.cell 3
      have z3 : w6.frozen? ⟨g, 3, none⟩ = false := HP5.out.1.blk.free 3
      have O6 : Only F0 w3 w6 := (HP4.out.2.mono (fun x hx => .inl (by rw [List.mem_singleton.1 hx]; exact HFF.out.2.1))).next (HP5.out.2.1 F0 HFF.out.1 HFF.out.2.2.1) (fun x hx => .inl hx)
      have HEND := hide (beg_fin0 HP5.out.1 HI.out.num hc.out HMO.out HOW.out O6 HFF.out.2.2.2.2 HFF.out.1 HFF.out.2.1 (fun x hx => Nat.lt_of_lt_of_le (HFF.out.2.2.2.1 x hx) O6.size) (fun r hr => by
        rcases HLO.out with e | e
        · exact .inl (HFF.out.2.2.1 r (e.symm.trans hr))
        · rw [hr] at e
          have e2 := Option.some.inj e
          have h5 : (w4.alloc (.cells #[.int .i64 m.id, .int .i64 m.k, .int .i64 m.o, .bool m.a, .bool m.b, .int .i64 m.y, .complex .f64 m.cx m.cy, .bool false, .string ByteArray.empty, .int .i64 0, .int .i64 0, .int .i64 0, .bool false, .string ByteArray.empty, .int .i64 0, .int .i64 0, .int .i64 0] 41)).drew.heap.size = w4.heap.size + 1 := by simp
          have h6 := HOW.out.size
          have h7 := HP4.out.2.size
          exact .inr (by omega)) HI.out.mem)
      clear O6
      go_wp2_with fail
      go_still_tail 9, (by kernel_rfl)
      go_wp2_with fail
      go_ret
      exact HEND.out


set_option maxHeartbeats 4000000 in
theorem beg_yes1 {M : Int} {l : List Sm} {F : List Nat} (g : Nat) (m : Sm) (z : Int) (w : World) (hn1 : Hid (l.length ≤ 1000)) (H : Hid (Ro w g M l F)) (hx : Hid ((Lit.int .i64 m.id).wf = true)) (hc : Hid (canB l m = true)) (hm : Hid (mayS m = true)) (HMO : Hid (m.o = 1)) (HZ : Hid (lastL l 1 = z)) (hle : ¬ m.id ≤ z) (hf : Hid ((l.length : Int) < M)) :
    Calls Try.prog 11 #[.pointer (some ⟨g, 0, none⟩), .agg #[.int .i64 m.id, .int .i64 m.k, .int .i64 m.o, .bool m.a, .bool m.b, .int .i64 m.y, .complex .f64 m.cx m.cy, .bool false, .string ByteArray.empty, .int .i64 0, .int .i64 0, .int .i64 0, .bool false, .string ByteArray.empty, .int .i64 0, .int .i64 0, .int .i64 0]] w (BPost g M l m F w) := by
  obtain ⟨A, n, c, am, H0⟩ := H.out
  have HI := hide H0
  have hnn : n ≤ 1000 := by rw [← H0.num]; exact hn1.out
  clear H0
  obtain ⟨v, hv⟩ : ∃ v, w.heap.size = v := ⟨_, rfl⟩
  obtain ⟨W1, hW1⟩ : ∃ W1, w.alloc (.cells #[.int .i64 m.id, .int .i64 m.k, .int .i64 m.o, .bool m.a, .bool m.b, .int .i64 m.y, .complex .f64 m.cx m.cy, .bool false, .string ByteArray.empty, .int .i64 0, .int .i64 0, .int .i64 0, .bool false, .string ByteArray.empty, .int .i64 0, .int .i64 0, .int .i64 0] 41) = W1 := ⟨_, rfl⟩
  have HW1 : Hid (Below w.heap.size w W1) := hide (by rw [← hW1]; exact st_alloc1 w _)
  have HC : Hid (Blk W1 v 41 #[.int .i64 m.id, .int .i64 m.k, .int .i64 m.o, .bool m.a, .bool m.b, .int .i64 m.y, .complex .f64 m.cx m.cy, .bool false, .string ByteArray.empty, .int .i64 0, .int .i64 0, .int .i64 0, .bool false, .string ByteArray.empty, .int .i64 0, .int .i64 0, .int .i64 0]) := hide (by rw [← hW1, ← hv]; exact Blk.born w 41 _)
  have HRG : Hid (W1.rangeAt v 0 (row17 m)) := hide (row_cells HC.out)
  have HMM := hide (may_any m W1.drew true hm.out)
  have x0 : W1.cell? ⟨v, 0, none⟩ = some (.int .i64 m.id) := HC.out.cell 0
  have x2 : W1.cell? ⟨v, 2, none⟩ = some (.int .i64 1) := (HC.out.cell 2).trans (by show some (Value.int .i64 m.o) = _; rw [HMO.out])
  have H1 := hide (HI.out.kept HW1.out)
  have c3 : W1.cell? ⟨g, 4, none⟩ = some (.int .i64 z) := (H1.out.blk.cell 4).trans (by show some (Value.int .i64 (lastL l 1)) = _; rw [HZ.out])
  go_enter Try.func11, Try.ntmps11
  go_wp2_with fail
  refine wp_region_held_drew (S := fun w' => w'.rangeAt v 0 (row17 m) ∧ w'.cell? ⟨v, 0, none⟩ = some (.int .i64 m.id) ∧ w'.cell? ⟨v, 2, none⟩ = some (.int .i64 1) ∧ w'.cell? ⟨g, 4, none⟩ = some (.int .i64 z)) (by kernel_rfl) (⟨HRG.out, x0, x2, c3⟩) (fun hHeld => ?_)
  refine wpAnyH_take (i := 0) (v := .agg #[.int .i64 m.id, .int .i64 m.k, .int .i64 m.o, .bool m.a, .bool m.b, .int .i64 m.y, .complex .f64 m.cx m.cy, .bool false, .string ByteArray.empty, .int .i64 0, .int .i64 0, .int .i64 0, .bool false, .string ByteArray.empty, .int .i64 0, .int .i64 0, .int .i64 0]) rfl (by kernel_rfl) (by kernel_rfl) (by kernel_rfl) (fun _ _ _ h => h) ?hz (by assumption) ?_
  case hz => exact yieldsIf_load_mid (by rfl) 41 (.tmp 3) rfl v 0 (by rfl) (row17 m) _ (fun _ h => h.1) Try.underlying41 rfl size41
  (try dsimp only [List.getElem_toArray, List.getElem_cons_zero, List.getElem_cons_succ])
  try simp only [Act.put, List.setIfInBounds_toArray, List.set_cons_zero, List.set_cons_succ]
  refine wpAnyH_ready (rs := [1]) (by kernel_rfl) (by simp) ?_
  refine AllReadyH.cons rfl (fun K' hK => ?_) AllReadyH.nil
  go_simp
  go_at_call 25
  refine HMM.out.mono ?_
  rintro e w2 ⟨rfl, hb⟩
  have HB2 : Hid (Below w.heap.size w w2) := hide (below_nextB (below_drewN HW1.out 1) (by exact HW1.out.size) hb)
  have HD : Hid (Below W1.heap.size W1 w2) := hide (below_undrew hb)
  have HC2 := hide (Blk.kept HC.out HD.out)
  have HRG2 : Hid (w2.rangeAt v 0 (row17 m)) := hide (row_cells HC2.out)
  have y0 : w2.cell? ⟨v, 0, none⟩ = some (.int .i64 m.id) := HC2.out.cell 0
  have y2 : w2.cell? ⟨v, 2, none⟩ = some (.int .i64 1) := (HC2.out.cell 2).trans (by show some (Value.int .i64 m.o) = _; rw [HMO.out])
  have H2 := hide (HI.out.kept HB2.out)
  have d3 : w2.cell? ⟨g, 4, none⟩ = some (.int .i64 z) := (H2.out.blk.cell 4).trans (by show some (Value.int .i64 (lastL l 1)) = _; rw [HZ.out])
  clear x0 x2 c3
  clear hb HMM
  go_wp2_with fail
  refine hK.out _ _ ⟨HRG2.out, y0, y2, d3⟩ (fun hHeld => ?_)
  clear hK
  (try dsimp only [List.getElem_toArray, List.getElem_cons_zero, List.getElem_cons_succ])
  try simp only [Act.put, List.setIfInBounds_toArray, List.set_cons_zero, List.set_cons_succ]
  refine wpAnyH_take (i := 2) (v := ?_) rfl (by kernel_rfl) (by kernel_rfl) (by kernel_rfl) (fun _ _ _ h => h) (Or.inl ⟨by rfl, ?hy⟩) (by assumption) ?_
  case hy => intro w hSw; obtain ⟨hR, hS1, hS2, hS3⟩ := hSw; (try clear hR); (try dsimp only at *); go_simp; (try with_reducible rfl)
  (try dsimp only [List.getElem_toArray, List.getElem_cons_zero, List.getElem_cons_succ])
  try simp only [Act.put, List.setIfInBounds_toArray, List.set_cons_zero, List.set_cons_succ]
  refine wpAnyH_take (i := 3) (v := ?_) rfl (by kernel_rfl) (by kernel_rfl) (by kernel_rfl) (fun _ _ _ h => h) (Or.inl ⟨by rfl, ?hy⟩) (by assumption) ?_
  case hy => intro w hSw; obtain ⟨hR, hS1, hS2, hS3⟩ := hSw; (try clear hR); (try dsimp only at *); go_simp; (try with_reducible rfl)
  (try dsimp only [List.getElem_toArray, List.getElem_cons_zero, List.getElem_cons_succ])
  try simp only [Act.put, List.setIfInBounds_toArray, List.set_cons_zero, List.set_cons_succ]
  refine wpAnyH_take (i := 4) (v := ?_) rfl (by kernel_rfl) (by kernel_rfl) (by kernel_rfl) (fun _ _ _ h => h) (Or.inl ⟨by rfl, ?hy⟩) (by assumption) ?_
  case hy => intro w hSw; obtain ⟨hR, hS1, hS2, hS3⟩ := hSw; (try clear hR); (try dsimp only at *); go_simp; (try with_reducible rfl)
  (try dsimp only [List.getElem_toArray, List.getElem_cons_zero, List.getElem_cons_succ])
  try simp only [Act.put, List.setIfInBounds_toArray, List.set_cons_zero, List.set_cons_succ]
  refine wpAnyH_take (i := 5) (v := ?_) rfl (by kernel_rfl) (by kernel_rfl) (by kernel_rfl) (fun _ _ _ h => h) (Or.inl ⟨by rfl, ?hy⟩) (by assumption) ?_
  case hy => intro w hSw; obtain ⟨hR, hS1, hS2, hS3⟩ := hSw; (try clear hR); (try dsimp only at *); go_simp; (try with_reducible rfl)
  (try dsimp only [List.getElem_toArray, List.getElem_cons_zero, List.getElem_cons_succ])
  try simp only [Act.put, List.setIfInBounds_toArray, List.set_cons_zero, List.set_cons_succ]
  refine wpAnyH_take (i := 6) (v := ?_) rfl (by kernel_rfl) (by kernel_rfl) (by kernel_rfl) (fun _ _ _ h => h) (Or.inl ⟨by rfl, ?hy⟩) (by assumption) ?_
  case hy => intro w hSw; obtain ⟨hR, hS1, hS2, hS3⟩ := hSw; (try clear hR); (try dsimp only at *); go_simp; (try with_reducible rfl)
  (try dsimp only [List.getElem_toArray, List.getElem_cons_zero, List.getElem_cons_succ])
  try simp only [Act.put, List.setIfInBounds_toArray, List.set_cons_zero, List.set_cons_succ]
  refine wpAnyH_take (i := 7) (v := ?_) rfl (by kernel_rfl) (by kernel_rfl) (by kernel_rfl) (fun _ _ _ h => h) (Or.inl ⟨by rfl, ?hy⟩) (by assumption) ?_
  case hy => intro w hSw; obtain ⟨hR, hS1, hS2, hS3⟩ := hSw; (try clear hR); (try dsimp only at *); go_simp; (try with_reducible rfl)
  (try dsimp only [List.getElem_toArray, List.getElem_cons_zero, List.getElem_cons_succ])
  try simp only [Act.put, List.setIfInBounds_toArray, List.set_cons_zero, List.set_cons_succ]
  refine wpAnyH_take (i := 8) (v := ?_) rfl (by kernel_rfl) (by kernel_rfl) (by kernel_rfl) (fun _ _ _ h => h) (Or.inl ⟨by rfl, ?hy⟩) (by assumption) ?_
  case hy => intro w hSw; obtain ⟨hR, hS1, hS2, hS3⟩ := hSw; (try clear hR); (try dsimp only at *); go_simp; (try with_reducible rfl)
  (try dsimp only [List.getElem_toArray, List.getElem_cons_zero, List.getElem_cons_succ])
  try simp only [Act.put, List.setIfInBounds_toArray, List.set_cons_zero, List.set_cons_succ]
  refine wpAnyH_take (i := 9) (v := ?_) rfl (by kernel_rfl) (by kernel_rfl) (by kernel_rfl) (fun _ _ _ h => h) (Or.inl ⟨by rfl, ?hy⟩) (by assumption) ?_
  case hy => intro w hSw; obtain ⟨hR, hS1, hS2, hS3⟩ := hSw; (try clear hR); (try dsimp only at *); go_simp; (try with_reducible rfl)
  (try dsimp only [List.getElem_toArray, List.getElem_cons_zero, List.getElem_cons_succ])
  try simp only [Act.put, List.setIfInBounds_toArray, List.set_cons_zero, List.set_cons_succ]
  refine wpAnyH_take (i := 10) (v := ?_) rfl (by kernel_rfl) (by kernel_rfl) (by kernel_rfl) (fun _ _ _ h => h) (Or.inl ⟨by rfl, ?hy⟩) (by assumption) ?_
  case hy => intro w hSw; obtain ⟨hR, hS1, hS2, hS3⟩ := hSw; (try clear hR); (try dsimp only at *); go_simp; (try with_reducible rfl)
  (try dsimp only [List.getElem_toArray, List.getElem_cons_zero, List.getElem_cons_succ])
  try simp only [Act.put, List.setIfInBounds_toArray, List.set_cons_zero, List.set_cons_succ]
  refine wpAnyH_take (i := 11) (v := ?_) rfl (by kernel_rfl) (by kernel_rfl) (by kernel_rfl) (fun _ _ _ h => h) (Or.inl ⟨by rfl, ?hy⟩) (by assumption) ?_
  case hy => intro w hSw; obtain ⟨hR, hS1, hS2, hS3⟩ := hSw; (try clear hR); (try dsimp only at *); go_simp; (try with_reducible rfl)
  (try dsimp only [List.getElem_toArray, List.getElem_cons_zero, List.getElem_cons_succ])
  try simp only [Act.put, List.setIfInBounds_toArray, List.set_cons_zero, List.set_cons_succ]
  refine wpAnyH_take (i := 12) (v := ?_) rfl (by kernel_rfl) (by kernel_rfl) (by kernel_rfl) (fun _ _ _ h => h) (Or.inl ⟨by rfl, ?hy⟩) (by assumption) ?_
  case hy => intro w hSw; obtain ⟨hR, hS1, hS2, hS3⟩ := hSw; (try clear hR); (try dsimp only at *); go_simp; (try with_reducible rfl)
  (try dsimp only [List.getElem_toArray, List.getElem_cons_zero, List.getElem_cons_succ])
  try simp only [Act.put, List.setIfInBounds_toArray, List.set_cons_zero, List.set_cons_succ]
  refine wpAnyH_take (i := 13) (v := ?_) rfl (by kernel_rfl) (by kernel_rfl) (by kernel_rfl) (fun _ _ _ h => h) (Or.inl ⟨by rfl, ?hy⟩) (by assumption) ?_
  case hy => intro w hSw; obtain ⟨hR, hS1, hS2, hS3⟩ := hSw; (try clear hR); (try dsimp only at *); go_simp; (try with_reducible rfl)
  (try dsimp only [List.getElem_toArray, List.getElem_cons_zero, List.getElem_cons_succ])
  try simp only [Act.put, List.setIfInBounds_toArray, List.set_cons_zero, List.set_cons_succ]
  refine wpAnyH_take (i := 14) (v := ?_) rfl (by kernel_rfl) (by kernel_rfl) (by kernel_rfl) (fun _ _ _ h => h) (Or.inl ⟨by rfl, ?hy⟩) (by assumption) ?_
  case hy => intro w hSw; obtain ⟨hR, hS1, hS2, hS3⟩ := hSw; (try clear hR); (try dsimp only at *); go_simp; (try with_reducible rfl)
  (try dsimp only [List.getElem_toArray, List.getElem_cons_zero, List.getElem_cons_succ])
  try simp only [Act.put, List.setIfInBounds_toArray, List.set_cons_zero, List.set_cons_succ]
  refine wpAnyH_take (i := 15) (v := ?_) rfl (by kernel_rfl) (by kernel_rfl) (by kernel_rfl) (fun _ _ _ h => h) (Or.inl ⟨by rfl, ?hy⟩) (by assumption) ?_
  case hy => intro w hSw; obtain ⟨hR, hS1, hS2, hS3⟩ := hSw; (try clear hR); (try dsimp only at *); go_simp; (try with_reducible rfl)
  (try dsimp only [List.getElem_toArray, List.getElem_cons_zero, List.getElem_cons_succ])
  try simp only [Act.put, List.setIfInBounds_toArray, List.set_cons_zero, List.set_cons_succ]
  refine wpAnyH_take (i := 16) (v := ?_) rfl (by kernel_rfl) (by kernel_rfl) (by kernel_rfl) (fun _ _ _ h => h) (Or.inl ⟨by rfl, ?hy⟩) (by assumption) ?_
  case hy => intro w hSw; obtain ⟨hR, hS1, hS2, hS3⟩ := hSw; (try clear hR); (try dsimp only at *); go_simp; (try with_reducible rfl)
  (try dsimp only [List.getElem_toArray, List.getElem_cons_zero, List.getElem_cons_succ])
  try simp only [Act.put, List.setIfInBounds_toArray, List.set_cons_zero, List.set_cons_succ]
  refine wpAnyH_done (by kernel_rfl) ?_ _
  try refine NoPanic.normal ?_

  have hf2 : ¬ (n : Int) ≥ M := by have := hf.out; rw [HI.out.num] at this; omega
  have d0 : w2.cell? ⟨g, 0, none⟩ = some (.int .i64 M) := H2.out.blk.cell 0
  have d1 : w2.cell? ⟨g, 1, none⟩ = some (.slice A n c) := H2.out.blk.cell 1
  clear HRG2 HRG HC HW1 H1 hHeld y0 y2 d3
  go_wp2_with fail
  go_quiet (fail)

  obtain ⟨w3, hw3⟩ : ∃ w3, w2.drewN nq = w3 := ⟨_, rfl⟩
  have HB3 : Hid (Below w.heap.size w w3) := hide (by rw [← hw3]; exact below_drewN HB2.out nq)
  have HC3 : Hid (Blk w3 v 41 #[.int .i64 m.id, .int .i64 m.k, .int .i64 m.o, .bool m.a, .bool m.b, .int .i64 m.y, .complex .f64 m.cx m.cy, .bool false, .string ByteArray.empty, .int .i64 0, .int .i64 0, .int .i64 0, .bool false, .string ByteArray.empty, .int .i64 0, .int .i64 0, .int .i64 0]) := hide (by rw [← hw3]; exact HC2.out.drewN nq)
  have H3 := hide (HI.out.kept HB3.out)
  rw [hw3]
  clear hw3 HB2 HC2 H2 d0 d1
  have hvv : w.heap.size = v := hv
  have HV := hide hvv
  have hgv : v ≠ g := by have := HI.out.blk.lt; omega
  rcases HI.out.mp with ⟨rfl, hnil⟩ | ⟨b, rfl, hbF, _⟩
  · have HNI := hide hnil
    obtain ⟨b, hb⟩ : ∃ b, w3.heap.size = b := ⟨_, rfl⟩
    obtain ⟨W, hW⟩ : ∃ W, (w3.setCell ⟨g, 2, none⟩ (.map (some b))).alloc (.map #[] 0) = W := ⟨_, rfl⟩
    have hbv : v < b := by have := HC3.out.lt; omega
    have hgb : g < b := by have := H3.out.blk.lt; omega
    have hn0 : n = 0 := by rw [← HI.out.num, hnil]; rfl
    have OG : Only [g] w3 W := by rw [← hW]; exact (Only.store (F := [g]) (p := ⟨g, 2, none⟩) w3 (List.mem_singleton.2 rfl) _).next (Only.alloc (F := []) _ _) (by simp)
    have HM : Hid (Mem W g v b M m A n c (cells17 l) n (atI (ids l)) (lastL l 0) (lastL l 1)) := hide (by
      have hX : (w3.setCell ⟨g, 2, none⟩ (.map (some b))).heap.size = b := by rw [← hb]; simp
      have m1 := MapI.made (w3.setCell ⟨g, 2, none⟩ (.map (some b)))
      rw [hX, hW] at m1
      refine ⟨?_, own_only H3.out.own OG (fun r hr => by simpa using (H3.out.row r hr).2), ?_, ?_, ?_, by omega, by omega, hgv⟩
      · rw [← hW]; exact (H3.out.blk.store 2 _).alloc _
      · rw [hn0, HNI.out]; exact m1.ext' (fun _ => rfl)
      · exact HC3.out.only OG (by simpa using hgv)
      · intro r hr
        have h1 := H3.out.row r hr
        have h2 := HI.out.lt r h1.1
        have h3 := H3.out.lt r h1.1
        exact ⟨h1.2, by omega, by omega⟩)
    obtain ⟨F0, hF0⟩ : ∃ F0, b :: F = F0 := ⟨_, rfl⟩
    have HFF : Hid (g ∈ F0 ∧ b ∈ F0 ∧ (∀ r, (Value.slice A n c).ownBlock = some r → r ∈ F0) ∧ (∀ x ∈ F0, x < W.heap.size) ∧ ∀ x ∈ F0, x ∈ F ∨ w.heap.size ≤ x) := hide (by
      rw [← hF0]
      refine ⟨List.mem_cons_of_mem _ HI.out.mem, List.mem_cons_self, fun r hr => List.mem_cons_of_mem _ (HI.out.row r hr).1, fun x hx => ?_, fun x hx => ?_⟩
      · have hWs : W.heap.size = b + 1 := by rw [← hW, ← hb]; simp
        rcases List.mem_cons.1 hx with h | h
        · omega
        · have := H3.out.lt x h; omega
      · rcases List.mem_cons.1 hx with h | h
        · exact .inr (by omega)
        · exact .inl h)
    have HOW : Hid (Only F w W) := hide ((Only.of_below HB3.out).next OG (fun x hx => .inl (by rw [List.mem_singleton.1 hx]; exact HI.out.mem)))
    have he := fun w => run_eql_map_nil (P := Try.prog) w 56 3 3 none Try.underlying56
    have hmm := @run_makeMap Try.prog
    have e2 : w3.cell? ⟨g, 2, none⟩ = some (.map none) := H3.out.blk.cell 2
    have g2 : w3.frozen? ⟨g, 2, none⟩ = false := H3.out.blk.free 2
    have hgn : ¬ g = w3.heap.size := by omega
    have hgb2 : ¬ g = b := by omega
    clear OG hF0 hnil hn0
    go_wp2_with fail
    try rw [hW]
    clear e2 g2 he hmm
    have t1 : W.cell? ⟨g, 1, none⟩ = some (.slice A n c) := HM.out.blk.cell 1
    have t2 : W.cell? ⟨g, 2, none⟩ = some (.map (some b)) := HM.out.blk.cell 2
    have u0 : W.cell? ⟨v, 0, none⟩ = some (.int .i64 m.id) := HM.out.box.cell 0
    go_still_tail 11, (by kernel_rfl)
    go_wp2_with (at_mapUpdate; go_loud (refine wpList_put rfl (.tmp 48) (.tmp 50) (.tmp 55) rfl (HM.out.mp.only (F := []) (Only.drew _) (by simp)) (by unfold maxLen; omega) rfl m.id (n : Nat) rfl rfl hx.out (WalkArith.wf_i64 (by omega)) ?_))
    intro w4 hM4 hg4
    have HP4 := hide (HM.out.put hM4 hg4)
    clear hM4 hg4 t1 t2 u0
    have t1 : w4.cell? ⟨g, 1, none⟩ = some (.slice A n c) := HP4.out.1.blk.cell 1
    have t1b : (w4.alloc (.cells #[.int .i64 m.id, .int .i64 m.k, .int .i64 m.o, .bool m.a, .bool m.b, .int .i64 m.y, .complex .f64 m.cx m.cy, .bool false, .string ByteArray.empty, .int .i64 0, .int .i64 0, .int .i64 0, .bool false, .string ByteArray.empty, .int .i64 0, .int .i64 0, .int .i64 0] 41)).cell? ⟨g, 1, none⟩ = some (.slice A n c) := (HP4.out.1.blk.alloc _).cell 1
    have HR4 : Hid (w4.rangeAt v 0 (row17 m)) := hide (row_cells HP4.out.1.box)
    have HR4a : Hid ((w4.alloc (.cells #[.int .i64 m.id, .int .i64 m.k, .int .i64 m.o, .bool m.a, .bool m.b, .int .i64 m.y, .complex .f64 m.cx m.cy, .bool false, .string ByteArray.empty, .int .i64 0, .int .i64 0, .int .i64 0, .bool false, .string ByteArray.empty, .int .i64 0, .int .i64 0, .int .i64 0] 41)).drew.rangeAt v 0 (row17 m)) := hide (row_cells ((HP4.out.1.box.alloc _).drewN 1))
    have HSE : Hid (Sees (w4.alloc (.cells #[.int .i64 m.id, .int .i64 m.k, .int .i64 m.o, .bool m.a, .bool m.b, .int .i64 m.y, .complex .f64 m.cx m.cy, .bool false, .string ByteArray.empty, .int .i64 0, .int .i64 0, .int .i64 0, .bool false, .string ByteArray.empty, .int .i64 0, .int .i64 0, .int .i64 0] 41)).drew (some ⟨w4.heap.size, 0, none⟩) (row17 m)) := hide (fun j u hu => ⟨_, _, rfl, row_cells (cs := row17 m) ((Blk.born w4 41 _).drewN 1) j u hu⟩)
    go_wp2_with fail
    refine wp_region_held_drew (S := fun w' => w'.rangeAt v 0 (row17 m) ∧ True) (by kernel_rfl) (⟨HR4.out, trivial⟩) (fun hHeld => ?_)
    refine wpAnyH_take (i := 0) (v := ?_) rfl (by kernel_rfl) (by kernel_rfl) (by kernel_rfl) (fun _ _ _ h => h) (Or.inl ⟨by rfl, ?hy⟩) (by assumption) ?_
    case hy => intro w hSw; obtain ⟨hR, hS1⟩ := hSw; (try clear hR); (try dsimp only at *); go_simp; (try with_reducible rfl)
    (try dsimp only [List.getElem_toArray, List.getElem_cons_zero, List.getElem_cons_succ])
    try simp only [Act.put, List.setIfInBounds_toArray, List.set_cons_zero, List.set_cons_succ]
    refine wpAnyH_take (i := 1) (v := ?_) rfl (by kernel_rfl) (by kernel_rfl) (by kernel_rfl) (fun _ _ _ h => h) (Or.inl ⟨by rfl, ?hy⟩) (by assumption) ?_
    case hy => intro w hSw; obtain ⟨hR, hS1⟩ := hSw; (try clear hR); (try dsimp only at *); go_simp; (try with_reducible rfl)
    (try dsimp only [List.getElem_toArray, List.getElem_cons_zero, List.getElem_cons_succ])
    try simp only [Act.put, List.setIfInBounds_toArray, List.set_cons_zero, List.set_cons_succ]
    refine wpAnyH_take (i := 2) (v := ?_) rfl (by kernel_rfl) (by kernel_rfl) (by kernel_rfl) (fun _ _ _ h => h) (Or.inl ⟨by rfl, ?hy⟩) (by assumption) ?_
    case hy => intro w hSw; obtain ⟨hR, hS1⟩ := hSw; (try clear hR); (try dsimp only at *); go_simp; (try with_reducible rfl)
    (try dsimp only [List.getElem_toArray, List.getElem_cons_zero, List.getElem_cons_succ])
    try simp only [Act.put, List.setIfInBounds_toArray, List.set_cons_zero, List.set_cons_succ]
    refine wpAnyH_take (i := 3) (v := ?_) rfl (by kernel_rfl) (by kernel_rfl) (by kernel_rfl) (fun _ _ _ h => h) (Or.inl ⟨by rfl, ?hy⟩) (by assumption) ?_
    case hy => intro w hSw; obtain ⟨hR, hS1⟩ := hSw; (try clear hR); (try dsimp only at *); go_simp; (try with_reducible rfl)
    (try dsimp only [List.getElem_toArray, List.getElem_cons_zero, List.getElem_cons_succ])
    try simp only [Act.put, List.setIfInBounds_toArray, List.set_cons_zero, List.set_cons_succ]
    refine wpAnyH_take (i := 5) (v := .agg #[.int .i64 m.id, .int .i64 m.k, .int .i64 m.o, .bool m.a, .bool m.b, .int .i64 m.y, .complex .f64 m.cx m.cy, .bool false, .string ByteArray.empty, .int .i64 0, .int .i64 0, .int .i64 0, .bool false, .string ByteArray.empty, .int .i64 0, .int .i64 0, .int .i64 0]) rfl (by kernel_rfl) (by kernel_rfl) (by kernel_rfl) (fun _ _ _ h => h) ?hz (by assumption) ?_
    case hz => exact yieldsIf_load_mid (by rfl) 41 (.tmp 3) rfl v 0 (by rfl) (row17 m) _ (fun _ h => h.1) Try.underlying41 rfl size41
    (try dsimp only [List.getElem_toArray, List.getElem_cons_zero, List.getElem_cons_succ])
    try simp only [Act.put, List.setIfInBounds_toArray, List.set_cons_zero, List.set_cons_succ]
    refine wpAnyH_ready (rs := [4, 6]) (by kernel_rfl) (by simp) ?_
    refine AllReadyH.cons rfl (fun K' hK => ?_) (AllReadyH.cons rfl (fun K' hK => ?_) AllReadyH.nil)
    · go_simp
      refine hK.out _ _ ⟨HR4.out, trivial⟩ (fun hHeld => ?_)
      clear hK hHeld
      (try dsimp only [List.getElem_toArray, List.getElem_cons_zero, List.getElem_cons_succ])
      try simp only [Act.put, List.setIfInBounds_toArray, List.set_cons_zero, List.set_cons_succ]
      refine wpAnyH_ready (rs := [6]) (by kernel_rfl) (by simp) ?_
      refine AllReadyH.cons rfl (fun K' hK => ?_) AllReadyH.nil
      go_simp
      refine hK.out _ _ ⟨HR4a.out, trivial⟩ (fun hHeld => ?_)
      clear hK hHeld
      (try dsimp only [List.getElem_toArray, List.getElem_cons_zero, List.getElem_cons_succ])
      try simp only [Act.put, List.setIfInBounds_toArray, List.set_cons_zero, List.set_cons_succ]
      refine wpAnyH_ready (rs := [7]) (by kernel_rfl) (by simp) ?_
      refine AllReadyH.cons rfl (fun K' hK => ?_) AllReadyH.nil
      refine step_pour rfl (.tmp 60) (.tmp 62) 55 rfl 0 41 17 info41 rfl (by decide) Try.underlying55 (.slice A n c) n (cells17 l) (by rfl) (HP4.out.1.own.alloc _) (some ⟨w4.heap.size, 0, none⟩) 1 1 (row17 m) (by rfl) rfl (by simp) HSE.out (row17_one m) (by unfold maxLen; omega) (by omega) (Nat.zero_le _) ?_
      intro B c' w5 ho hg hloc
      have HP5 := hide (HP4.out.1.push _ ho hg hloc)
      have HLO := hide hloc
      clear ho hg hloc
      have t5 : w5.cell? ⟨g, 1, none⟩ = some (.slice A n c) := HP5.out.2.2.1.cell 1
      have z5 : w5.frozen? ⟨g, 1, none⟩ = false := HP5.out.2.2.1.free 1
      have HR5 : Hid (w5.rangeAt v 0 (row17 m)) := hide (row_cells HP5.out.2.2.2)
      have HR6 : Hid ((w5.setCell ⟨g, 1, none⟩ (.slice B (n + 1) c')).rangeAt v 0 (row17 m)) := hide (row_cells HP5.out.1.box)
      refine hK.out _ _ ⟨HR5.out, trivial⟩ (fun hHeld => ?_)
      clear hK
      (try dsimp only [List.getElem_toArray, List.getElem_cons_zero, List.getElem_cons_succ])
      try simp only [Act.put, List.setIfInBounds_toArray, List.set_cons_zero, List.set_cons_succ]
      refine wpAnyH_take (i := 8) (v := ?_) rfl (by kernel_rfl) (by kernel_rfl) (by kernel_rfl) (fun _ _ _ h => h) (Or.inl ⟨by rfl, ?hy⟩) (by assumption) ?_
      case hy => intro w hSw; obtain ⟨hR, hS1⟩ := hSw; (try clear hR); (try dsimp only at *); go_simp; (try with_reducible rfl)
      (try dsimp only [List.getElem_toArray, List.getElem_cons_zero, List.getElem_cons_succ])
      try simp only [Act.put, List.setIfInBounds_toArray, List.set_cons_zero, List.set_cons_succ]
      refine wpAnyH_take (i := 9) (v := ?_) rfl (by kernel_rfl) (by kernel_rfl) (by kernel_rfl) (fun _ _ _ h => h) (Or.inl ⟨by rfl, ?hy⟩) (by assumption) ?_
      case hy => intro w hSw; obtain ⟨hR, hS1⟩ := hSw; (try clear hR); (try dsimp only at *); go_simp; (try with_reducible rfl)
      (try dsimp only [List.getElem_toArray, List.getElem_cons_zero, List.getElem_cons_succ])
      try simp only [Act.put, List.setIfInBounds_toArray, List.set_cons_zero, List.set_cons_succ]
      refine wpAnyH_ready (rs := [10]) (by kernel_rfl) (by simp) ?_
      refine AllReadyH.cons rfl (fun K' hK => ?_) AllReadyH.nil
      go_simp
      refine hK.out _ _ ⟨HR6.out, trivial⟩ (fun hHeld => ?_)
      clear hK hHeld
      (try dsimp only [List.getElem_toArray, List.getElem_cons_zero, List.getElem_cons_succ])
      try simp only [Act.put, List.setIfInBounds_toArray, List.set_cons_zero, List.set_cons_succ]
      refine wpAnyH_done (by kernel_rfl) ?_ _
      try refine NoPanic.normal ?_
      obtain ⟨w6, hw6⟩ : ∃ w6, w5.setCell ⟨g, 1, none⟩ (.slice B (n + 1) c') = w6 := ⟨_, rfl⟩
      rw [hw6] at HP5
      rw [hw6]
      clear hw6 t5 z5 t1 t1b
      have u0 : w6.cell? ⟨v, 0, none⟩ = some (.int .i64 m.id) := HP5.out.1.box.cell 0
      have u2 : w6.cell? ⟨v, 2, none⟩ = some (.int .i64 1) := (HP5.out.1.box.cell 2).trans (by show some (Value.int .i64 m.o) = _; rw [HMO.out])
      have t3 : w6.cell? ⟨g, 4, none⟩ = some (.int .i64 (lastL l 1)) := HP5.out.1.blk.cell 4
      have z3 : w6.frozen? ⟨g, 4, none⟩ = false := HP5.out.1.blk.free 4
      have O6 : Only F0 W w6 := (HP4.out.2.mono (fun x hx => .inl (by rw [List.mem_singleton.1 hx]; exact HFF.out.2.1))).next (HP5.out.2.1 F0 HFF.out.1 HFF.out.2.2.1) (fun x hx => .inl hx)
      have HEND := hide (beg_fin1 HP5.out.1 HI.out.num hc.out HMO.out HOW.out O6 HFF.out.2.2.2.2 HFF.out.1 HFF.out.2.1 (fun x hx => Nat.lt_of_lt_of_le (HFF.out.2.2.2.1 x hx) O6.size) (fun r hr => by
        rcases HLO.out with e | e
        · exact .inl (HFF.out.2.2.1 r (e.symm.trans hr))
        · rw [hr] at e
          have e2 := Option.some.inj e
          have h5 : (w4.alloc (.cells #[.int .i64 m.id, .int .i64 m.k, .int .i64 m.o, .bool m.a, .bool m.b, .int .i64 m.y, .complex .f64 m.cx m.cy, .bool false, .string ByteArray.empty, .int .i64 0, .int .i64 0, .int .i64 0, .bool false, .string ByteArray.empty, .int .i64 0, .int .i64 0, .int .i64 0] 41)).drew.heap.size = w4.heap.size + 1 := by simp
          have h6 := HOW.out.size
          have h7 := HP4.out.2.size
          exact .inr (by omega)) HI.out.mem)
      clear O6
      go_wp2_with fail
      go_still_tail 9, (by kernel_rfl)
      go_wp2_with fail
      go_ret
      exact HEND.out
    · go_simp
      refine hK.out _ _ ⟨HR4a.out, trivial⟩ (fun hHeld => ?_)
      clear hK hHeld
      (try dsimp only [List.getElem_toArray, List.getElem_cons_zero, List.getElem_cons_succ])
      try simp only [Act.put, List.setIfInBounds_toArray, List.set_cons_zero, List.set_cons_succ]
      refine wpAnyH_ready (rs := [4]) (by kernel_rfl) (by simp) ?_
      refine AllReadyH.cons rfl (fun K' hK => ?_) AllReadyH.nil
      go_simp
      refine hK.out _ _ ⟨HR4a.out, trivial⟩ (fun hHeld => ?_)
      clear hK hHeld
      (try dsimp only [List.getElem_toArray, List.getElem_cons_zero, List.getElem_cons_succ])
      try simp only [Act.put, List.setIfInBounds_toArray, List.set_cons_zero, List.set_cons_succ]
      refine wpAnyH_ready (rs := [7]) (by kernel_rfl) (by simp) ?_
      refine AllReadyH.cons rfl (fun K' hK => ?_) AllReadyH.nil
      refine step_pour rfl (.tmp 60) (.tmp 62) 55 rfl 0 41 17 info41 rfl (by decide) Try.underlying55 (.slice A n c) n (cells17 l) (by rfl) (HP4.out.1.own.alloc _) (some ⟨w4.heap.size, 0, none⟩) 1 1 (row17 m) (by rfl) rfl (by simp) HSE.out (row17_one m) (by unfold maxLen; omega) (by omega) (Nat.zero_le _) ?_
      intro B c' w5 ho hg hloc
      have HP5 := hide (HP4.out.1.push _ ho hg hloc)
      have HLO := hide hloc
      clear ho hg hloc
      have t5 : w5.cell? ⟨g, 1, none⟩ = some (.slice A n c) := HP5.out.2.2.1.cell 1
      have z5 : w5.frozen? ⟨g, 1, none⟩ = false := HP5.out.2.2.1.free 1
      have HR5 : Hid (w5.rangeAt v 0 (row17 m)) := hide (row_cells HP5.out.2.2.2)
      have HR6 : Hid ((w5.setCell ⟨g, 1, none⟩ (.slice B (n + 1) c')).rangeAt v 0 (row17 m)) := hide (row_cells HP5.out.1.box)
      refine hK.out _ _ ⟨HR5.out, trivial⟩ (fun hHeld => ?_)
      clear hK
      (try dsimp only [List.getElem_toArray, List.getElem_cons_zero, List.getElem_cons_succ])
      try simp only [Act.put, List.setIfInBounds_toArray, List.set_cons_zero, List.set_cons_succ]
      refine wpAnyH_take (i := 8) (v := ?_) rfl (by kernel_rfl) (by kernel_rfl) (by kernel_rfl) (fun _ _ _ h => h) (Or.inl ⟨by rfl, ?hy⟩) (by assumption) ?_
      case hy => intro w hSw; obtain ⟨hR, hS1⟩ := hSw; (try clear hR); (try dsimp only at *); go_simp; (try with_reducible rfl)
      (try dsimp only [List.getElem_toArray, List.getElem_cons_zero, List.getElem_cons_succ])
      try simp only [Act.put, List.setIfInBounds_toArray, List.set_cons_zero, List.set_cons_succ]
      refine wpAnyH_take (i := 9) (v := ?_) rfl (by kernel_rfl) (by kernel_rfl) (by kernel_rfl) (fun _ _ _ h => h) (Or.inl ⟨by rfl, ?hy⟩) (by assumption) ?_
      case hy => intro w hSw; obtain ⟨hR, hS1⟩ := hSw; (try clear hR); (try dsimp only at *); go_simp; (try with_reducible rfl)
      (try dsimp only [List.getElem_toArray, List.getElem_cons_zero, List.getElem_cons_succ])
      try simp only [Act.put, List.setIfInBounds_toArray, List.set_cons_zero, List.set_cons_succ]
      refine wpAnyH_ready (rs := [10]) (by kernel_rfl) (by simp) ?_
      refine AllReadyH.cons rfl (fun K' hK => ?_) AllReadyH.nil
      go_simp
      refine hK.out _ _ ⟨HR6.out, trivial⟩ (fun hHeld => ?_)
      clear hK hHeld
      (try dsimp only [List.getElem_toArray, List.getElem_cons_zero, List.getElem_cons_succ])
      try simp only [Act.put, List.setIfInBounds_toArray, List.set_cons_zero, List.set_cons_succ]
      refine wpAnyH_done (by kernel_rfl) ?_ _
      try refine NoPanic.normal ?_
      obtain ⟨w6, hw6⟩ : ∃ w6, w5.setCell ⟨g, 1, none⟩ (.slice B (n + 1) c') = w6 := ⟨_, rfl⟩
      rw [hw6] at HP5
      rw [hw6]
      clear hw6 t5 z5 t1 t1b
      have u0 : w6.cell? ⟨v, 0, none⟩ = some (.int .i64 m.id) := HP5.out.1.box.cell 0
      have u2 : w6.cell? ⟨v, 2, none⟩ = some (.int .i64 1) := (HP5.out.1.box.cell 2).trans (by show some (Value.int .i64 m.o) = _; rw [HMO.out])
      have t3 : w6.cell? ⟨g, 4, none⟩ = some (.int .i64 (lastL l 1)) := HP5.out.1.blk.cell 4
      have z3 : w6.frozen? ⟨g, 4, none⟩ = false := HP5.out.1.blk.free 4
      have O6 : Only F0 W w6 := (HP4.out.2.mono (fun x hx => .inl (by rw [List.mem_singleton.1 hx]; exact HFF.out.2.1))).next (HP5.out.2.1 F0 HFF.out.1 HFF.out.2.2.1) (fun x hx => .inl hx)
      have HEND := hide (beg_fin1 HP5.out.1 HI.out.num hc.out HMO.out HOW.out O6 HFF.out.2.2.2.2 HFF.out.1 HFF.out.2.1 (fun x hx => Nat.lt_of_lt_of_le (HFF.out.2.2.2.1 x hx) O6.size) (fun r hr => by
        rcases HLO.out with e | e
        · exact .inl (HFF.out.2.2.1 r (e.symm.trans hr))
        · rw [hr] at e
          have e2 := Option.some.inj e
          have h5 : (w4.alloc (.cells #[.int .i64 m.id, .int .i64 m.k, .int .i64 m.o, .bool m.a, .bool m.b, .int .i64 m.y, .complex .f64 m.cx m.cy, .bool false, .string ByteArray.empty, .int .i64 0, .int .i64 0, .int .i64 0, .bool false, .string ByteArray.empty, .int .i64 0, .int .i64 0, .int .i64 0] 41)).drew.heap.size = w4.heap.size + 1 := by simp
          have h6 := HOW.out.size
          have h7 := HP4.out.2.size
          exact .inr (by omega)) HI.out.mem)
      clear O6
      go_wp2_with fail
      go_still_tail 9, (by kernel_rfl)
      go_wp2_with fail
      go_ret
      exact HEND.out

  · have HBF := hide hbF
    have HM : Hid (Mem w3 g v b M m A n c (cells17 l) n (atI (ids l)) (lastL l 0) (lastL l 1)) := hide (by
      have hmp : MapI w3 b n (atI (ids l)) := by
        rcases H3.out.mp with ⟨h, _⟩ | ⟨b', h, _, h3⟩
        · cases h
        · injection h with h; subst h; exact h3
      have hbl := HI.out.lt b HBF.out
      refine ⟨H3.out.blk, H3.out.own, hmp, HC3.out, fun r hr => ⟨(H3.out.row r hr).2, ?_, own_ne_map H3.out.own hmp r hr⟩, hmp.ne H3.out.blk, ?_, hgv⟩
      · have := HI.out.lt r (HI.out.row r hr).1; omega
      · omega)
    obtain ⟨F0, hF0⟩ : ∃ F0, F = F0 := ⟨_, rfl⟩
    have HFF : Hid (g ∈ F0 ∧ b ∈ F0 ∧ (∀ r, (Value.slice A n c).ownBlock = some r → r ∈ F0) ∧ (∀ x ∈ F0, x < w3.heap.size) ∧ ∀ x ∈ F0, x ∈ F ∨ w.heap.size ≤ x) := hide (by
      rw [← hF0]
      exact ⟨HI.out.mem, HBF.out, fun r hr => (HI.out.row r hr).1, H3.out.lt, fun x hx => .inl hx⟩)
    have HOW : Hid (Only F w w3) := hide (Only.of_below HB3.out)
    have he := fun w => run_eql_map_nil (P := Try.prog) w 56 3 3 (some b) Try.underlying56
    have e2 : w3.cell? ⟨g, 2, none⟩ = some (.map (some b)) := H3.out.blk.cell 2
    clear hF0 hbF
    go_wp2_with fail
    clear e2 he
    have t1 : w3.cell? ⟨g, 1, none⟩ = some (.slice A n c) := HM.out.blk.cell 1
    have t2 : w3.cell? ⟨g, 2, none⟩ = some (.map (some b)) := HM.out.blk.cell 2
    have u0 : w3.cell? ⟨v, 0, none⟩ = some (.int .i64 m.id) := HM.out.box.cell 0
    go_still_tail 11, (by kernel_rfl)
    go_wp2_with (at_mapUpdate; go_loud (refine wpList_put rfl (.tmp 48) (.tmp 50) (.tmp 55) rfl (HM.out.mp.only (F := []) (Only.drew _) (by simp)) (by unfold maxLen; omega) rfl m.id (n : Nat) rfl rfl hx.out (WalkArith.wf_i64 (by omega)) ?_))
    intro w4 hM4 hg4
    have HP4 := hide (HM.out.put hM4 hg4)
    clear hM4 hg4 t1 t2 u0
    have t1 : w4.cell? ⟨g, 1, none⟩ = some (.slice A n c) := HP4.out.1.blk.cell 1
    have t1b : (w4.alloc (.cells #[.int .i64 m.id, .int .i64 m.k, .int .i64 m.o, .bool m.a, .bool m.b, .int .i64 m.y, .complex .f64 m.cx m.cy, .bool false, .string ByteArray.empty, .int .i64 0, .int .i64 0, .int .i64 0, .bool false, .string ByteArray.empty, .int .i64 0, .int .i64 0, .int .i64 0] 41)).cell? ⟨g, 1, none⟩ = some (.slice A n c) := (HP4.out.1.blk.alloc _).cell 1
    have HR4 : Hid (w4.rangeAt v 0 (row17 m)) := hide (row_cells HP4.out.1.box)
    have HR4a : Hid ((w4.alloc (.cells #[.int .i64 m.id, .int .i64 m.k, .int .i64 m.o, .bool m.a, .bool m.b, .int .i64 m.y, .complex .f64 m.cx m.cy, .bool false, .string ByteArray.empty, .int .i64 0, .int .i64 0, .int .i64 0, .bool false, .string ByteArray.empty, .int .i64 0, .int .i64 0, .int .i64 0] 41)).drew.rangeAt v 0 (row17 m)) := hide (row_cells ((HP4.out.1.box.alloc _).drewN 1))
    have HSE : Hid (Sees (w4.alloc (.cells #[.int .i64 m.id, .int .i64 m.k, .int .i64 m.o, .bool m.a, .bool m.b, .int .i64 m.y, .complex .f64 m.cx m.cy, .bool false, .string ByteArray.empty, .int .i64 0, .int .i64 0, .int .i64 0, .bool false, .string ByteArray.empty, .int .i64 0, .int .i64 0, .int .i64 0] 41)).drew (some ⟨w4.heap.size, 0, none⟩) (row17 m)) := hide (fun j u hu => ⟨_, _, rfl, row_cells (cs := row17 m) ((Blk.born w4 41 _).drewN 1) j u hu⟩)
    go_wp2_with fail
    refine wp_region_held_drew (S := fun w' => w'.rangeAt v 0 (row17 m) ∧ True) (by kernel_rfl) (⟨HR4.out, trivial⟩) (fun hHeld => ?_)
    refine wpAnyH_take (i := 0) (v := ?_) rfl (by kernel_rfl) (by kernel_rfl) (by kernel_rfl) (fun _ _ _ h => h) (Or.inl ⟨by rfl, ?hy⟩) (by assumption) ?_
    case hy => intro w hSw; obtain ⟨hR, hS1⟩ := hSw; (try clear hR); (try dsimp only at *); go_simp; (try with_reducible rfl)
    (try dsimp only [List.getElem_toArray, List.getElem_cons_zero, List.getElem_cons_succ])
    try simp only [Act.put, List.setIfInBounds_toArray, List.set_cons_zero, List.set_cons_succ]
    refine wpAnyH_take (i := 1) (v := ?_) rfl (by kernel_rfl) (by kernel_rfl) (by kernel_rfl) (fun _ _ _ h => h) (Or.inl ⟨by rfl, ?hy⟩) (by assumption) ?_
    case hy => intro w hSw; obtain ⟨hR, hS1⟩ := hSw; (try clear hR); (try dsimp only at *); go_simp; (try with_reducible rfl)
    (try dsimp only [List.getElem_toArray, List.getElem_cons_zero, List.getElem_cons_succ])
    try simp only [Act.put, List.setIfInBounds_toArray, List.set_cons_zero, List.set_cons_succ]
    refine wpAnyH_take (i := 2) (v := ?_) rfl (by kernel_rfl) (by kernel_rfl) (by kernel_rfl) (fun _ _ _ h => h) (Or.inl ⟨by rfl, ?hy⟩) (by assumption) ?_
    case hy => intro w hSw; obtain ⟨hR, hS1⟩ := hSw; (try clear hR); (try dsimp only at *); go_simp; (try with_reducible rfl)
    (try dsimp only [List.getElem_toArray, List.getElem_cons_zero, List.getElem_cons_succ])
    try simp only [Act.put, List.setIfInBounds_toArray, List.set_cons_zero, List.set_cons_succ]
    refine wpAnyH_take (i := 3) (v := ?_) rfl (by kernel_rfl) (by kernel_rfl) (by kernel_rfl) (fun _ _ _ h => h) (Or.inl ⟨by rfl, ?hy⟩) (by assumption) ?_
    case hy => intro w hSw; obtain ⟨hR, hS1⟩ := hSw; (try clear hR); (try dsimp only at *); go_simp; (try with_reducible rfl)
    (try dsimp only [List.getElem_toArray, List.getElem_cons_zero, List.getElem_cons_succ])
    try simp only [Act.put, List.setIfInBounds_toArray, List.set_cons_zero, List.set_cons_succ]
    refine wpAnyH_take (i := 5) (v := .agg #[.int .i64 m.id, .int .i64 m.k, .int .i64 m.o, .bool m.a, .bool m.b, .int .i64 m.y, .complex .f64 m.cx m.cy, .bool false, .string ByteArray.empty, .int .i64 0, .int .i64 0, .int .i64 0, .bool false, .string ByteArray.empty, .int .i64 0, .int .i64 0, .int .i64 0]) rfl (by kernel_rfl) (by kernel_rfl) (by kernel_rfl) (fun _ _ _ h => h) ?hz (by assumption) ?_
    case hz => exact yieldsIf_load_mid (by rfl) 41 (.tmp 3) rfl v 0 (by rfl) (row17 m) _ (fun _ h => h.1) Try.underlying41 rfl size41
    (try dsimp only [List.getElem_toArray, List.getElem_cons_zero, List.getElem_cons_succ])
    try simp only [Act.put, List.setIfInBounds_toArray, List.set_cons_zero, List.set_cons_succ]
    refine wpAnyH_ready (rs := [4, 6]) (by kernel_rfl) (by simp) ?_
    refine AllReadyH.cons rfl (fun K' hK => ?_) (AllReadyH.cons rfl (fun K' hK => ?_) AllReadyH.nil)
    · go_simp
      refine hK.out _ _ ⟨HR4.out, trivial⟩ (fun hHeld => ?_)
      clear hK hHeld
      (try dsimp only [List.getElem_toArray, List.getElem_cons_zero, List.getElem_cons_succ])
      try simp only [Act.put, List.setIfInBounds_toArray, List.set_cons_zero, List.set_cons_succ]
      refine wpAnyH_ready (rs := [6]) (by kernel_rfl) (by simp) ?_
      refine AllReadyH.cons rfl (fun K' hK => ?_) AllReadyH.nil
      go_simp
      refine hK.out _ _ ⟨HR4a.out, trivial⟩ (fun hHeld => ?_)
      clear hK hHeld
      (try dsimp only [List.getElem_toArray, List.getElem_cons_zero, List.getElem_cons_succ])
      try simp only [Act.put, List.setIfInBounds_toArray, List.set_cons_zero, List.set_cons_succ]
      refine wpAnyH_ready (rs := [7]) (by kernel_rfl) (by simp) ?_
      refine AllReadyH.cons rfl (fun K' hK => ?_) AllReadyH.nil
      refine step_pour rfl (.tmp 60) (.tmp 62) 55 rfl 0 41 17 info41 rfl (by decide) Try.underlying55 (.slice A n c) n (cells17 l) (by rfl) (HP4.out.1.own.alloc _) (some ⟨w4.heap.size, 0, none⟩) 1 1 (row17 m) (by rfl) rfl (by simp) HSE.out (row17_one m) (by unfold maxLen; omega) (by omega) (Nat.zero_le _) ?_
      intro B c' w5 ho hg hloc
      have HP5 := hide (HP4.out.1.push _ ho hg hloc)
      have HLO := hide hloc
      clear ho hg hloc
      have t5 : w5.cell? ⟨g, 1, none⟩ = some (.slice A n c) := HP5.out.2.2.1.cell 1
      have z5 : w5.frozen? ⟨g, 1, none⟩ = false := HP5.out.2.2.1.free 1
      have HR5 : Hid (w5.rangeAt v 0 (row17 m)) := hide (row_cells HP5.out.2.2.2)
      have HR6 : Hid ((w5.setCell ⟨g, 1, none⟩ (.slice B (n + 1) c')).rangeAt v 0 (row17 m)) := hide (row_cells HP5.out.1.box)
      refine hK.out _ _ ⟨HR5.out, trivial⟩ (fun hHeld => ?_)
      clear hK
      (try dsimp only [List.getElem_toArray, List.getElem_cons_zero, List.getElem_cons_succ])
      try simp only [Act.put, List.setIfInBounds_toArray, List.set_cons_zero, List.set_cons_succ]
      refine wpAnyH_take (i := 8) (v := ?_) rfl (by kernel_rfl) (by kernel_rfl) (by kernel_rfl) (fun _ _ _ h => h) (Or.inl ⟨by rfl, ?hy⟩) (by assumption) ?_
      case hy => intro w hSw; obtain ⟨hR, hS1⟩ := hSw; (try clear hR); (try dsimp only at *); go_simp; (try with_reducible rfl)
      (try dsimp only [List.getElem_toArray, List.getElem_cons_zero, List.getElem_cons_succ])
      try simp only [Act.put, List.setIfInBounds_toArray, List.set_cons_zero, List.set_cons_succ]
      refine wpAnyH_take (i := 9) (v := ?_) rfl (by kernel_rfl) (by kernel_rfl) (by kernel_rfl) (fun _ _ _ h => h) (Or.inl ⟨by rfl, ?hy⟩) (by assumption) ?_
      case hy => intro w hSw; obtain ⟨hR, hS1⟩ := hSw; (try clear hR); (try dsimp only at *); go_simp; (try with_reducible rfl)
      (try dsimp only [List.getElem_toArray, List.getElem_cons_zero, List.getElem_cons_succ])
      try simp only [Act.put, List.setIfInBounds_toArray, List.set_cons_zero, List.set_cons_succ]
      refine wpAnyH_ready (rs := [10]) (by kernel_rfl) (by simp) ?_
      refine AllReadyH.cons rfl (fun K' hK => ?_) AllReadyH.nil
      go_simp
      refine hK.out _ _ ⟨HR6.out, trivial⟩ (fun hHeld => ?_)
      clear hK hHeld
      (try dsimp only [List.getElem_toArray, List.getElem_cons_zero, List.getElem_cons_succ])
      try simp only [Act.put, List.setIfInBounds_toArray, List.set_cons_zero, List.set_cons_succ]
      refine wpAnyH_done (by kernel_rfl) ?_ _
      try refine NoPanic.normal ?_
      obtain ⟨w6, hw6⟩ : ∃ w6, w5.setCell ⟨g, 1, none⟩ (.slice B (n + 1) c') = w6 := ⟨_, rfl⟩
      rw [hw6] at HP5
      rw [hw6]
      clear hw6 t5 z5 t1 t1b
      have u0 : w6.cell? ⟨v, 0, none⟩ = some (.int .i64 m.id) := HP5.out.1.box.cell 0
      have u2 : w6.cell? ⟨v, 2, none⟩ = some (.int .i64 1) := (HP5.out.1.box.cell 2).trans (by show some (Value.int .i64 m.o) = _; rw [HMO.out])
      have t3 : w6.cell? ⟨g, 4, none⟩ = some (.int .i64 (lastL l 1)) := HP5.out.1.blk.cell 4
      have z3 : w6.frozen? ⟨g, 4, none⟩ = false := HP5.out.1.blk.free 4
      have O6 : Only F0 w3 w6 := (HP4.out.2.mono (fun x hx => .inl (by rw [List.mem_singleton.1 hx]; exact HFF.out.2.1))).next (HP5.out.2.1 F0 HFF.out.1 HFF.out.2.2.1) (fun x hx => .inl hx)
      have HEND := hide (beg_fin1 HP5.out.1 HI.out.num hc.out HMO.out HOW.out O6 HFF.out.2.2.2.2 HFF.out.1 HFF.out.2.1 (fun x hx => Nat.lt_of_lt_of_le (HFF.out.2.2.2.1 x hx) O6.size) (fun r hr => by
        rcases HLO.out with e | e
        · exact .inl (HFF.out.2.2.1 r (e.symm.trans hr))
        · rw [hr] at e
          have e2 := Option.some.inj e
          have h5 : (w4.alloc (.cells #[.int .i64 m.id, .int .i64 m.k, .int .i64 m.o, .bool m.a, .bool m.b, .int .i64 m.y, .complex .f64 m.cx m.cy, .bool false, .string ByteArray.empty, .int .i64 0, .int .i64 0, .int .i64 0, .bool false, .string ByteArray.empty, .int .i64 0, .int .i64 0, .int .i64 0] 41)).drew.heap.size = w4.heap.size + 1 := by simp
          have h6 := HOW.out.size
          have h7 := HP4.out.2.size
          exact .inr (by omega)) HI.out.mem)
      clear O6
      go_wp2_with fail
      go_still_tail 9, (by kernel_rfl)
      go_wp2_with fail
      go_ret
      exact HEND.out
    · go_simp
      refine hK.out _ _ ⟨HR4a.out, trivial⟩ (fun hHeld => ?_)
      clear hK hHeld
      (try dsimp only [List.getElem_toArray, List.getElem_cons_zero, List.getElem_cons_succ])
      try simp only [Act.put, List.setIfInBounds_toArray, List.set_cons_zero, List.set_cons_succ]
      refine wpAnyH_ready (rs := [4]) (by kernel_rfl) (by simp) ?_
      refine AllReadyH.cons rfl (fun K' hK => ?_) AllReadyH.nil
      go_simp
      refine hK.out _ _ ⟨HR4a.out, trivial⟩ (fun hHeld => ?_)
      clear hK hHeld
      (try dsimp only [List.getElem_toArray, List.getElem_cons_zero, List.getElem_cons_succ])
      try simp only [Act.put, List.setIfInBounds_toArray, List.set_cons_zero, List.set_cons_succ]
      refine wpAnyH_ready (rs := [7]) (by kernel_rfl) (by simp) ?_
      refine AllReadyH.cons rfl (fun K' hK => ?_) AllReadyH.nil
      refine step_pour rfl (.tmp 60) (.tmp 62) 55 rfl 0 41 17 info41 rfl (by decide) Try.underlying55 (.slice A n c) n (cells17 l) (by rfl) (HP4.out.1.own.alloc _) (some ⟨w4.heap.size, 0, none⟩) 1 1 (row17 m) (by rfl) rfl (by simp) HSE.out (row17_one m) (by unfold maxLen; omega) (by omega) (Nat.zero_le _) ?_
      intro B c' w5 ho hg hloc
      have HP5 := hide (HP4.out.1.push _ ho hg hloc)
      have HLO := hide hloc
      clear ho hg hloc
      have t5 : w5.cell? ⟨g, 1, none⟩ = some (.slice A n c) := HP5.out.2.2.1.cell 1
      have z5 : w5.frozen? ⟨g, 1, none⟩ = false := HP5.out.2.2.1.free 1
      have HR5 : Hid (w5.rangeAt v 0 (row17 m)) := hide (row_cells HP5.out.2.2.2)
      have HR6 : Hid ((w5.setCell ⟨g, 1, none⟩ (.slice B (n + 1) c')).rangeAt v 0 (row17 m)) := hide (row_cells HP5.out.1.box)
      refine hK.out _ _ ⟨HR5.out, trivial⟩ (fun hHeld => ?_)
      clear hK
      (try dsimp only [List.getElem_toArray, List.getElem_cons_zero, List.getElem_cons_succ])
      try simp only [Act.put, List.setIfInBounds_toArray, List.set_cons_zero, List.set_cons_succ]
      refine wpAnyH_take (i := 8) (v := ?_) rfl (by kernel_rfl) (by kernel_rfl) (by kernel_rfl) (fun _ _ _ h => h) (Or.inl ⟨by rfl, ?hy⟩) (by assumption) ?_
      case hy => intro w hSw; obtain ⟨hR, hS1⟩ := hSw; (try clear hR); (try dsimp only at *); go_simp; (try with_reducible rfl)
      (try dsimp only [List.getElem_toArray, List.getElem_cons_zero, List.getElem_cons_succ])
      try simp only [Act.put, List.setIfInBounds_toArray, List.set_cons_zero, List.set_cons_succ]
      refine wpAnyH_take (i := 9) (v := ?_) rfl (by kernel_rfl) (by kernel_rfl) (by kernel_rfl) (fun _ _ _ h => h) (Or.inl ⟨by rfl, ?hy⟩) (by assumption) ?_
      case hy => intro w hSw; obtain ⟨hR, hS1⟩ := hSw; (try clear hR); (try dsimp only at *); go_simp; (try with_reducible rfl)
      (try dsimp only [List.getElem_toArray, List.getElem_cons_zero, List.getElem_cons_succ])
      try simp only [Act.put, List.setIfInBounds_toArray, List.set_cons_zero, List.set_cons_succ]
      refine wpAnyH_ready (rs := [10]) (by kernel_rfl) (by simp) ?_
      refine AllReadyH.cons rfl (fun K' hK => ?_) AllReadyH.nil
      go_simp
      refine hK.out _ _ ⟨HR6.out, trivial⟩ (fun hHeld => ?_)
      clear hK hHeld
      (try dsimp only [List.getElem_toArray, List.getElem_cons_zero, List.getElem_cons_succ])
      try simp only [Act.put, List.setIfInBounds_toArray, List.set_cons_zero, List.set_cons_succ]
      refine wpAnyH_done (by kernel_rfl) ?_ _
      try refine NoPanic.normal ?_
      obtain ⟨w6, hw6⟩ : ∃ w6, w5.setCell ⟨g, 1, none⟩ (.slice B (n + 1) c') = w6 := ⟨_, rfl⟩
      rw [hw6] at HP5
      rw [hw6]
      clear hw6 t5 z5 t1 t1b
      have u0 : w6.cell? ⟨v, 0, none⟩ = some (.int .i64 m.id) := HP5.out.1.box.cell 0
      have u2 : w6.cell? ⟨v, 2, none⟩ = some (.int .i64 1) := (HP5.out.1.box.cell 2).trans (by show some (Value.int .i64 m.o) = _; rw [HMO.out])
      have t3 : w6.cell? ⟨g, 4, none⟩ = some (.int .i64 (lastL l 1)) := HP5.out.1.blk.cell 4
      have z3 : w6.frozen? ⟨g, 4, none⟩ = false := HP5.out.1.blk.free 4
      have O6 : Only F0 w3 w6 := (HP4.out.2.mono (fun x hx => .inl (by rw [List.mem_singleton.1 hx]; exact HFF.out.2.1))).next (HP5.out.2.1 F0 HFF.out.1 HFF.out.2.2.1) (fun x hx => .inl hx)
      have HEND := hide (beg_fin1 HP5.out.1 HI.out.num hc.out HMO.out HOW.out O6 HFF.out.2.2.2.2 HFF.out.1 HFF.out.2.1 (fun x hx => Nat.lt_of_lt_of_le (HFF.out.2.2.2.1 x hx) O6.size) (fun r hr => by
        rcases HLO.out with e | e
        · exact .inl (HFF.out.2.2.1 r (e.symm.trans hr))
        · rw [hr] at e
          have e2 := Option.some.inj e
          have h5 : (w4.alloc (.cells #[.int .i64 m.id, .int .i64 m.k, .int .i64 m.o, .bool m.a, .bool m.b, .int .i64 m.y, .complex .f64 m.cx m.cy, .bool false, .string ByteArray.empty, .int .i64 0, .int .i64 0, .int .i64 0, .bool false, .string ByteArray.empty, .int .i64 0, .int .i64 0, .int .i64 0] 41)).drew.heap.size = w4.heap.size + 1 := by simp
          have h6 := HOW.out.size
          have h7 := HP4.out.2.size
          exact .inr (by omega)) HI.out.mem)
      clear O6
      go_wp2_with fail
      go_still_tail 9, (by kernel_rfl)
      go_wp2_with fail
      go_ret
      exact HEND.out


end Go.Proofs.Ytngligcjcdpnhaa
