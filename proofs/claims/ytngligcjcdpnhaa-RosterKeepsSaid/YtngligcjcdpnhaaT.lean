/- Contract: Set of a roster, put. -/
import Derived.Test.YtngligcjcdpnhaaS
namespace Go.Proofs.Ytngligcjcdpnhaa
open Go.RowKit Go.Maps
set_option linter.unusedSimpArgs false
set_option linter.unusedVariables false

set_option maxHeartbeats 2000000 in
theorem set_yes {M : Int} {l : List Sm} {F : List Nat} (g : Nat) (m : Sm) (i : Nat) (w : World) (hn1 : Hid (l.length ≤ 1000)) (H : Hid (Ro w g M l F)) (hx : Hid ((Lit.int .i64 m.id).wf = true)) (hp : Hid (posI (ids l) m.id = some i)) (hm : Hid (mayS m = true)) :
    Calls Try.prog 9 #[.pointer (some ⟨g, 0, none⟩), .agg #[.int .i64 m.id, .int .i64 m.k, .int .i64 m.o, .bool m.a, .bool m.b, .int .i64 m.y, .complex .f64 m.cx m.cy, .bool false, .string ByteArray.empty, .int .i64 0, .int .i64 0, .int .i64 0, .bool false, .string ByteArray.empty, .int .i64 0, .int .i64 0, .int .i64 0]] w fun e w' => e = .returned (.bool true) ∧ Ro w' g M (l.set i m) F ∧ Only F w w' := by
  obtain ⟨A, n, c, am, H0⟩ := H.out
  have HI := hide H0
  have hnn : n ≤ 1000 := by rw [← H0.num]; exact hn1.out
  clear H0
  obtain ⟨v, hv⟩ : ∃ v, w.heap.size = v := ⟨_, rfl⟩
  obtain ⟨W1, hW1⟩ : ∃ W1, w.alloc (.cells #[.int .i64 m.id, .int .i64 m.k, .int .i64 m.o, .bool m.a, .bool m.b, .int .i64 m.y, .complex .f64 m.cx m.cy, .bool false, .string ByteArray.empty, .int .i64 0, .int .i64 0, .int .i64 0, .bool false, .string ByteArray.empty, .int .i64 0, .int .i64 0, .int .i64 0] 41) = W1 := ⟨_, rfl⟩
  have HW1 : Hid (Below w.heap.size w W1) := hide (by rw [← hW1]; exact st_alloc1 w _)
  have HC : Hid (Blk W1 v 41 #[.int .i64 m.id, .int .i64 m.k, .int .i64 m.o, .bool m.a, .bool m.b, .int .i64 m.y, .complex .f64 m.cx m.cy, .bool false, .string ByteArray.empty, .int .i64 0, .int .i64 0, .int .i64 0, .bool false, .string ByteArray.empty, .int .i64 0, .int .i64 0, .int .i64 0]) := hide (by rw [← hW1, ← hv]; exact Blk.born w 41 _)
  have x0 : W1.cell? ⟨v, 0, none⟩ = some (.int .i64 m.id) := HC.out.cell 0
  have HF := hide (find_any g m.id (i : Nat) true W1 hx (hide (HI.out.kept HW1.out)) (hide (by unfold posZ; rw [hp.out]; rfl)) (hide (by rw [hp.out]; rfl)))
  have HRW : Hid (∀ j u, (row17 m)[j]? = some u → W1.cell? ⟨v, 0 + j, none⟩ = some u) := hide (row_cells HC.out)
  have HMM := hide (may_any m W1 true hm.out)
  go_enter Try.func9, Try.ntmps9
  go_wp2_with fail
  refine HF.out.mono ?_
  rintro e w1 ⟨rfl, rfl⟩
  clear HF
  go_wp2_with (refine wpList_load_w (by rfl) 41 (.tmp 3) rfl v 0 (by rfl) (row17 m) HRW.out Try.underlying41 rfl size41 #[.int .i64 m.id, .int .i64 m.k, .int .i64 m.o, .bool m.a, .bool m.b, .int .i64 m.y, .complex .f64 m.cx m.cy, .bool false, .string ByteArray.empty, .int .i64 0, .int .i64 0, .int .i64 0, .bool false, .string ByteArray.empty, .int .i64 0, .int .i64 0, .int .i64 0] rfl ?_)

  refine HMM.out.mono ?_
  rintro e w2 ⟨rfl, hb⟩
  have HB2 := hide (below_nextB HW1.out HW1.out.size hb)
  have HC2 := hide (Blk.kept HC.out hb)
  have H2 := hide (HI.out.kept HB2.out)
  clear hb HMM x0
  have hin : i < n := by rw [← HI.out.num, ← ids_length]; exact posI_lt hp.out
  obtain ⟨r, C', hA⟩ := own_some (n := n) HI.out.own (by omega)
  injection hA with hA _ _
  subst hA
  have c1 : w2.cell? ⟨g, 1, none⟩ = some (.slice (some ⟨r, 0, none⟩) n c) := H2.out.blk.cell 1
  have HRG : Hid (w2.rangeAt v 0 (row17 m)) := hide (row_cells HC2.out)
  have hrv : r ≠ v := by have := HI.out.lt r (HI.out.row r rfl).1; omega
  have hrg : r ≠ g := (HI.out.row r rfl).2
  obtain ⟨z, hz⟩ : ∃ z, l[i]? = some z := ⟨_, List.getElem?_eq_getElem (by rw [HI.out.num]; exact hin)⟩
  have HTH : Hid (w2.drew.there r (i * 17) 17) := hide (row_there H2.out.own hz)
  have HKP : Hid ((w2.drew.setCells r (i * 17) (row17 m)).cell? ⟨g, 1, none⟩ = some (.slice (some ⟨r, 0, none⟩) n c) ∧ (w2.drew.setCells r (i * 17) (row17 m)).rangeAt v 0 (row17 m)) := hide
    ⟨(World.cell?_setCells_out r _ _ _ _ (fun h => absurd h (Ne.symm hrg))).trans c1, fun j u hu => (World.cell?_setCells_out r _ _ _ _ (fun h => absurd h (Ne.symm hrv))).trans (HRG.out j u hu)⟩
  have HEND : Hid (Ro (w2.drew.setCells r (i * 17) (row17 m)) g M (l.set i m) F ∧ Only F w (w2.drew.setCells r (i * 17) (row17 m))) := hide
    ⟨⟨_, _, _, _, set_end (H2.out.only (F1 := []) (Only.drew w2) (fun _ _ => by simp)) hp.out⟩, ((Only.of_below HB2.out).next (Only.drew w2) (F1 := F) (fun b hb => .inl hb)).next (Only.setCells (HI.out.row r rfl).1 _ _ _) (fun b hb => .inl hb)⟩
  clear hz
  go_wp2_with fail
  refine wp_region_held_drew (S := fun w' => w'.cell? ⟨g, 1, none⟩ = some (.slice (some ⟨r, 0, none⟩) n c) ∧ w'.rangeAt v 0 (row17 m)) (by kernel_rfl) (⟨c1, HRG.out⟩) (fun hHeld => ?_)
  refine wpAnyH_take (i := 0) (v := ?_) rfl (by kernel_rfl) (by kernel_rfl) (by kernel_rfl) (fun _ _ _ h => h) (Or.inl ⟨by rfl, ?hy⟩) (by assumption) ?_
  case hy => intro w hSw; have hS1 := hSw.1; clear hSw; (try dsimp only at hS1); go_simp; (try with_reducible rfl)
  (try dsimp only [List.getElem_toArray, List.getElem_cons_zero, List.getElem_cons_succ])
  try simp only [Act.put, List.setIfInBounds_toArray, List.set_cons_zero, List.set_cons_succ]
  refine wpAnyH_take (i := 1) (v := ?_) rfl (by kernel_rfl) (by kernel_rfl) (by kernel_rfl) (fun _ _ _ h => h) (Or.inl ⟨by rfl, ?hy⟩) (by assumption) ?_
  case hy => intro w hSw; have hS1 := hSw.1; clear hSw; (try dsimp only at hS1); go_simp; (try with_reducible rfl)
  (try dsimp only [List.getElem_toArray, List.getElem_cons_zero, List.getElem_cons_succ])
  try simp only [Act.put, List.setIfInBounds_toArray, List.set_cons_zero, List.set_cons_succ]
  refine wpAnyH_take (i := 2) (v := ?_) rfl (by kernel_rfl) (by kernel_rfl) (by kernel_rfl) (fun _ _ _ h => h) (Or.inl ⟨by rfl, ?hy⟩) (by assumption) ?_
  case hy => intro w hSw; have hS1 := hSw.1; clear hSw; (try dsimp only at hS1); go_simp; (try with_reducible rfl)
  (try dsimp only [List.getElem_toArray, List.getElem_cons_zero, List.getElem_cons_succ])
  try simp only [Act.put, List.setIfInBounds_toArray, List.set_cons_zero, List.set_cons_succ]
  refine wpAnyH_take (i := 3) (v := ?_) rfl (by kernel_rfl) (by kernel_rfl) (by kernel_rfl) (fun _ _ _ h => h) (Or.inl ⟨by rfl, ?hy⟩) (by assumption) ?_
  case hy => intro w hSw; have hS1 := hSw.1; clear hSw; (try dsimp only at hS1); go_simp; (try with_reducible rfl)
  (try dsimp only [List.getElem_toArray, List.getElem_cons_zero, List.getElem_cons_succ])
  try simp only [Act.put, List.setIfInBounds_toArray, List.set_cons_zero, List.set_cons_succ]
  refine wpAnyH_take (i := 4) (v := ?_) rfl (by kernel_rfl) (by kernel_rfl) (by kernel_rfl) (fun _ _ _ h => h) (Or.inl ⟨by rfl, ?hy⟩) (by assumption) ?_
  case hy => intro w hSw; have hS1 := hSw.1; clear hSw; (try dsimp only at hS1); go_simp; (try with_reducible rfl)
  (try dsimp only [List.getElem_toArray, List.getElem_cons_zero, List.getElem_cons_succ])
  try simp only [Act.put, List.setIfInBounds_toArray, List.set_cons_zero, List.set_cons_succ]
  refine wpAnyH_take (i := 5) (v := .agg #[.int .i64 m.id, .int .i64 m.k, .int .i64 m.o, .bool m.a, .bool m.b, .int .i64 m.y, .complex .f64 m.cx m.cy, .bool false, .string ByteArray.empty, .int .i64 0, .int .i64 0, .int .i64 0, .bool false, .string ByteArray.empty, .int .i64 0, .int .i64 0, .int .i64 0]) rfl (by kernel_rfl) (by kernel_rfl) (by kernel_rfl) (fun _ _ _ h => h) ?hz (by assumption) ?_
  case hz => exact yieldsIf_load_mid (by rfl) 41 (.tmp 3) rfl v 0 (by rfl) (row17 m) _ (fun _ h => h.2) Try.underlying41 rfl size41
  (try dsimp only [List.getElem_toArray, List.getElem_cons_zero, List.getElem_cons_succ])
  try simp only [Act.put, List.setIfInBounds_toArray, List.set_cons_zero, List.set_cons_succ]
  refine wpAnyH_take (i := 6) (v := ?_) rfl (by kernel_rfl) (by kernel_rfl) (by kernel_rfl) (fun _ _ _ h => h) (Or.inl ⟨by rfl, ?hy⟩) (by assumption) ?_
  case hy => intro w hSw; have hS1 := hSw.1; clear hSw; (try dsimp only at hS1); go_simp; (try with_reducible rfl)
  (try dsimp only [List.getElem_toArray, List.getElem_cons_zero, List.getElem_cons_succ])
  try simp only [Act.put, List.setIfInBounds_toArray, List.set_cons_zero, List.set_cons_succ]
  refine wpAnyH_ready (rs := [7]) (by kernel_rfl) (by simp) ?_
  refine AllReadyH.cons rfl (fun K' hK => ?_) ?_
  · refine step_store rfl 41 (.tmp 27) (.tmp 26) rfl r (i * 17) #[.int .i64 m.id, .int .i64 m.k, .int .i64 m.o, .bool m.a, .bool m.b, .int .i64 m.y, .complex .f64 m.cx m.cy, .bool false, .string ByteArray.empty, .int .i64 0, .int .i64 0, .int .i64 0, .bool false, .string ByteArray.empty, .int .i64 0, .int .i64 0, .int .i64 0] (by rfl) (by rfl) HTH.out size41 (all_oneCell_toArray (row17_one m)) ?_
    refine hK.out _ _ HKP.out (fun hHeld => ?_)
    clear hK
    (try dsimp only [List.getElem_toArray, List.getElem_cons_zero, List.getElem_cons_succ])
    try simp only [Act.put, List.setIfInBounds_toArray, List.set_cons_zero, List.set_cons_succ]
    refine wpAnyH_done (by kernel_rfl) ?_ _
    try refine NoPanic.normal ?_
    go_wp2_with fail
    go_ret
    exact ⟨rfl, HEND.out.1, HEND.out.2⟩
  · exact AllReadyH.nil

end Go.Proofs.Ytngligcjcdpnhaa
