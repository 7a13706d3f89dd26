/- RosterNobody: the walk. -/
import Derived.Test.YtngligcjcdpnhaaZe
namespace Go.Proofs.Ytngligcjcdpnhaa
open Go.RowKit Go.Maps
set_option linter.unusedSimpArgs false
set_option linter.unusedVariables false

theorem st_eq_self (k o y : Int) (a b : Bool) (w : World) : (binOp .eql 32 (.agg #[.int .i64 k, .int .i64 o, .bool a, .bool b, .int .i64 y]) (.agg #[.int .i64 k, .int .i64 o, .bool a, .bool b, .int .i64 y])).run Try.prog w = .ok (.bool true) w := by
  rw [st_eq, eqS_self]

set_option maxHeartbeats 4000000 in
set_option maxRecDepth 100000 in
theorem nobody_any (id k o : Int) (a b : Bool) (y : Int) (w : World) (hx : (Lit.int .i64 id).wf = true) : Calls Try.prog 4 #[.int .i64 id, .agg #[.int .i64 k, .int .i64 o, .bool a, .bool b, .int .i64 y]] w fun e w' => e = .returned (.bool true) ∧ Below w.heap.size w w' := by
  obtain ⟨m, hm⟩ : ∃ m : Sm, (⟨id, k, o, a, b, y, 0, 0⟩ : Sm) = m := ⟨_, rfl⟩
  have HM := hide hm
  have HWX := hide hx
  have hseq := st_eq_self
  obtain ⟨s, hs⟩ : ∃ s, stateL [] id = s := ⟨_, rfl⟩
  have HS := hide hs
  clear hm hx hs
  obtain ⟨v3, hv3⟩ : ∃ v3, w.heap.size = v3 := ⟨_, rfl⟩
  obtain ⟨W1, hW1⟩ : ∃ W1, w.alloc (.cells #[.int .i64 k, .int .i64 o, .bool a, .bool b, .int .i64 y] 29) = W1 := ⟨_, rfl⟩
  obtain ⟨g, hg⟩ : ∃ g, W1.heap.size = g := ⟨_, rfl⟩
  obtain ⟨W2, hW2⟩ : ∃ W2, W1.alloc (.cells #[.int .i64 0, .slice none 0 0, .map none, .int .i64 0, .int .i64 0] 59) = W2 := ⟨_, rfl⟩
  have HB1 : Hid (Below w.heap.size w W2) := hide (by rw [← hW2, ← hW1]; exact ((Below.refl _ _).alloc (Nat.le_refl _) _).alloc (by simp) _)
  have HR1 : Hid (Ro W2 g 0 [] [g]) := hide (by rw [← hW2, ← hg]; exact Ro.born W1 0)
  have HC1 : Hid (Blk W2 v3 29 #[.int .i64 k, .int .i64 o, .bool a, .bool b, .int .i64 y]) := hide (by rw [← hW2, ← hW1, ← hv3]; exact (Blk.born w 29 _).alloc _)
  have x0 : W2.cell? ⟨v3, 0, none⟩ = some (.int .i64 k) := HC1.out.cell 0
  have x1 : W2.cell? ⟨v3, 1, none⟩ = some (.int .i64 o) := HC1.out.cell 1
  have x2 : W2.cell? ⟨v3, 2, none⟩ = some (.bool a) := HC1.out.cell 2
  have x3 : W2.cell? ⟨v3, 3, none⟩ = some (.bool b) := HC1.out.cell 3
  have x4 : W2.cell? ⟨v3, 4, none⟩ = some (.int .i64 y) := HC1.out.cell 4
  go_enter Try.func4, Try.ntmps4
  go_wp2_with fail
  refine (own_any k o a b y W2).mono ?_
  rintro e w3 ⟨rfl, hb⟩
  have HB3 : Hid (Below w.heap.size w w3) := hide (below_nextB HB1.out HB1.out.size hb)
  have HR3 := hide (HR1.out.kept hb)
  have HC3 := hide (Blk.kept HC1.out hb)
  clear hb x0 x1 x2 x3 x4 hW2
  obtain ⟨v7, hv7⟩ : ∃ v7, w3.heap.size = v7 := ⟨_, rfl⟩
  obtain ⟨w4, hw4⟩ : ∃ w4, w3.alloc (.cells #[.int .i64 id, .int .i64 k, .int .i64 o, .bool a, .bool b, .int .i64 y, .complex .f64 0 0, .bool false, .string ⟨#[]⟩, .int .i64 0, .int .i64 0, .int .i64 0, .bool false, .string ⟨#[]⟩, .int .i64 0, .int .i64 0, .int .i64 0] 41) = w4 := ⟨_, rfl⟩
  have HB_w4 : Hid (Below w.heap.size w w4) := hide (by rw [← hw4]; exact HB3.out.alloc HB3.out.size _)
  have HR_w4 : Hid (Ro w4 g 0 [] [g]) := hide (HR3.out.kept (by rw [← hw4]; exact st_alloc1 w3 _))
  have HX_w4 : Hid (Blk w4 v7 41 (row17 m).toArray) := hide (by rw [← hw4, ← hv7, ← HM.out]; exact Blk.born w3 41 _)
  have HC4 : Hid (Blk w4 v3 29 #[.int .i64 k, .int .i64 o, .bool a, .bool b, .int .i64 y]) := hide (by rw [← hw4]; exact HC3.out.alloc _)
  have HL_w4 : Hid (∀ j u, (row17 m)[j]? = some u → w4.cell? ⟨v7, 0 + j, none⟩ = some u) := hide (row_cells HX_w4.out)
  have HGV : Hid (g ≠ v7) := hide (by have := HR3.out.lt g (List.mem_singleton.2 rfl); omega)
  go_wp2_with (refine wpList_store_fresh rfl 41 (.tmp 7) (.tmp 15) rfl _ #[.int .i64 id, .int .i64 k, .int .i64 o, .bool a, .bool b, .int .i64 y, .complex .f64 0 0, .bool false, .string ⟨#[]⟩, .int .i64 0, .int .i64 0, .int .i64 0, .bool false, .string ⟨#[]⟩, .int .i64 0, .int .i64 0, .int .i64 0] v7 hv7 (by rfl) (by rfl) size41 rfl (by simp [Value.oneCell']) ?_; rw [hw4])
  refine (get_nil id w4).mono ?_
  rintro e w5 ⟨rfl, hb⟩
  have HB5 : Hid (Below w.heap.size w w5) := hide (below_nextB HB_w4.out HB_w4.out.size hb)
  have HR5 := hide (HR_w4.out.kept hb)
  have HX5 := hide (Blk.kept HX_w4.out hb)
  have HC5 := hide (Blk.kept HC4.out hb)
  clear hb hw4 hv7
  obtain ⟨v8, hv8⟩ : ∃ v8, w5.heap.size = v8 := ⟨_, rfl⟩
  obtain ⟨w6, hw6⟩ : ∃ w6, w5.alloc (.cells #[.int .i64 0, .int .i64 0, .int .i64 0, .bool false, .bool false, .int .i64 0, .complex .f64 0 0, .bool false, .string ByteArray.empty, .int .i64 0, .int .i64 0, .int .i64 0, .bool false, .string ByteArray.empty, .int .i64 0, .int .i64 0, .int .i64 0] 41) = w6 := ⟨_, rfl⟩
  have HB_w6 : Hid (Below w.heap.size w w6) := hide (by rw [← hw6]; exact HB5.out.alloc HB5.out.size _)
  have HR_w6 : Hid (Ro w6 g 0 [] [g]) := hide (HR5.out.kept (by rw [← hw6]; exact st_alloc1 w5 _))
  have HX_w6 : Hid (Blk w6 v7 41 (row17 m).toArray) := hide (by rw [← hw6]; exact HX5.out.alloc _)
  have HC6 : Hid (Blk w6 v3 29 #[.int .i64 k, .int .i64 o, .bool a, .bool b, .int .i64 y]) := hide (by rw [← hw6]; exact HC5.out.alloc _)
  have y0 : w6.cell? ⟨v3, 0, none⟩ = some (.int .i64 k) := HC6.out.cell 0
  have y1 : w6.cell? ⟨v3, 1, none⟩ = some (.int .i64 o) := HC6.out.cell 1
  have y2 : w6.cell? ⟨v3, 2, none⟩ = some (.bool a) := HC6.out.cell 2
  have y3 : w6.cell? ⟨v3, 3, none⟩ = some (.bool b) := HC6.out.cell 3
  have y4 : w6.cell? ⟨v3, 4, none⟩ = some (.int .i64 y) := HC6.out.cell 4
  obtain ⟨q, hq⟩ : ∃ q, begE [] m 0 = q := ⟨_, rfl⟩
  have HQ := hide hq
  clear hq
  go_wp2_with (refine wpList_store_fresh rfl 41 (.tmp 8) (.tmp 20) rfl _ #[.int .i64 0, .int .i64 0, .int .i64 0, .bool false, .bool false, .int .i64 0, .complex .f64 0 0, .bool false, .string ByteArray.empty, .int .i64 0, .int .i64 0, .int .i64 0, .bool false, .string ByteArray.empty, .int .i64 0, .int .i64 0, .int .i64 0] v8 hv8 (by rfl) (by rfl) size41 rfl (by simp [Value.oneCell']) ?_; rw [hw6])
  refine (show Calls Try.prog 12 #[.slice none 0 0, .agg #[.int .i64 id, .int .i64 k, .int .i64 o, .bool a, .bool b, .int .i64 y], .int .i64 0] w6 (RPost (fun _ => True) (begL [] m 0) (.int .i64 q) w6) from (by rw [← HQ.out, ← HM.out]; exact rbeg_op ⟨id, k, o, a, b, y, 0, 0⟩ 0 (fun _ => True) none 0 0 [] w6 (by omega) (hide (Rf.nil _ _)) (hide (fun m hm => by cases hm)))).mono ?_
  rintro e w7 ⟨A', n', c', rfl, _, hb⟩
  have HB_w7 : Hid (Below w.heap.size w w7) := hide (below_nextB HB_w6.out HB_w6.out.size hb)
  have HX_w7 := hide (Blk.kept HX_w6.out hb)
  have HR_w7 := hide (HR_w6.out.kept hb)
  have HL_w7 : Hid (∀ j u, (row17 m)[j]? = some u → w7.cell? ⟨v7, 0 + j, none⟩ = some u) := hide (row_cells HX_w7.out)
  clear hb hw6 hv8 y0 y1 y2 y3 y4
  have HBN := fun w => hide (show Calls Try.prog 11 #[.pointer none, .agg #[.int .i64 id, .int .i64 k, .int .i64 o, .bool a, .bool b, .int .i64 y, .complex .f64 0 0, .bool false, .string ByteArray.empty, .int .i64 0, .int .i64 0, .int .i64 0, .bool false, .string ByteArray.empty, .int .i64 0, .int .i64 0, .int .i64 0]] w (fun e w' => e = .returned (.int .i64 2) ∧ Below w.heap.size w w') from beg_nil ⟨id, k, o, a, b, y, 0, 0⟩ w)
  have HSN := fun w => hide (show Calls Try.prog 9 #[.pointer none, .agg #[.int .i64 id, .int .i64 k, .int .i64 o, .bool a, .bool b, .int .i64 y, .complex .f64 0 0, .bool false, .string ByteArray.empty, .int .i64 0, .int .i64 0, .int .i64 0, .bool false, .string ByteArray.empty, .int .i64 0, .int .i64 0, .int .i64 0]] w (fun e w' => e = .returned (.bool false) ∧ Below w.heap.size w w') from set_nil ⟨id, k, o, a, b, y, 0, 0⟩ w)
  go_wp2_with (refine wpList_load_w (by rfl) 41 (.tmp 7) rfl v7 0 (by rfl) (row17 m) HL_w7.out Try.underlying41 rfl size41 #[.int .i64 id, .int .i64 k, .int .i64 o, .bool a, .bool b, .int .i64 y, .complex .f64 0 0, .bool false, .string ByteArray.empty, .int .i64 0, .int .i64 0, .int .i64 0, .bool false, .string ByteArray.empty, .int .i64 0, .int .i64 0, .int .i64 0] (by rw [← HM.out]; rfl) ?_)
  refine ((HBN w7).out).mono ?_
  rintro e w8 ⟨rfl, hb⟩
  have HB_w8 : Hid (Below w.heap.size w w8) := hide (below_nextB HB_w7.out HB_w7.out.size hb)
  have HX_w8 := hide (HX_w7.out.kept hb)
  have HR_w8 := hide (HR_w7.out.kept hb)
  have HL_w8 : Hid (∀ j u, (row17 m)[j]? = some u → w8.cell? ⟨v7, 0 + j, none⟩ = some u) := hide (row_cells HX_w8.out)
  clear hb
  go_wp2_with (refine wpList_load_w (by rfl) 41 (.tmp 7) rfl v7 0 (by rfl) (row17 m) HL_w8.out Try.underlying41 rfl size41 #[.int .i64 id, .int .i64 k, .int .i64 o, .bool a, .bool b, .int .i64 y, .complex .f64 0 0, .bool false, .string ByteArray.empty, .int .i64 0, .int .i64 0, .int .i64 0, .bool false, .string ByteArray.empty, .int .i64 0, .int .i64 0, .int .i64 0] (by rw [← HM.out]; rfl) ?_)
  refine ((HSN w8).out).mono ?_
  rintro e w9 ⟨rfl, hb⟩
  have HB_w9 : Hid (Below w.heap.size w w9) := hide (below_nextB HB_w8.out HB_w8.out.size hb)
  have HX_w9 := hide (HX_w8.out.kept hb)
  have HR_w9 := hide (HR_w8.out.kept hb)
  have HL_w9 : Hid (∀ j u, (row17 m)[j]? = some u → w9.cell? ⟨v7, 0 + j, none⟩ = some u) := hide (row_cells HX_w9.out)
  clear hb
  go_wp2_with (fail)
  refine (last_nil 0 w9).mono ?_
  rintro e w9x ⟨rfl, rfl⟩
  go_wp2_with (fail)
  refine (active_nil 0 w9).mono ?_
  rintro e w10 ⟨rfl, hb⟩
  have HB_w10 : Hid (Below w.heap.size w w10) := hide (below_nextB HB_w9.out HB_w9.out.size hb)
  have HX_w10 := hide (HX_w9.out.kept hb)
  have HR_w10 := hide (HR_w9.out.kept hb)
  have HL_w10 : Hid (∀ j u, (row17 m)[j]? = some u → w10.cell? ⟨v7, 0 + j, none⟩ = some u) := hide (row_cells HX_w10.out)
  clear hb
  go_wp2_with (fail)
  refine (rall_nil w10).mono ?_
  rintro e w10x ⟨rfl, rfl⟩
  go_wp2_with (fail)
  refine (state_nil id w10 s HS).mono ?_
  rintro e w11 ⟨rfl, hb⟩
  have HB_w11 : Hid (Below w.heap.size w w11) := hide (below_nextB HB_w10.out HB_w10.out.size hb)
  have HX_w11 := hide (HX_w10.out.kept hb)
  have HR_w11 := hide (HR_w10.out.kept hb)
  have HL_w11 : Hid (∀ j u, (row17 m)[j]? = some u → w11.cell? ⟨v7, 0 + j, none⟩ = some u) := hide (row_cells HX_w11.out)
  clear hb
  go_wp2_with (fail)
  refine (rstate_any id (fun _ => True) none 0 0 [] w11 (by omega) (hide (Rf.nil _ _)) (hide (fun m hm => by cases hm)) (hide (fun _ => rfl)) s HS).mono ?_
  rintro e w12 ⟨rfl, hb⟩
  have HB_w12 : Hid (Below w.heap.size w w12) := hide (below_nextB HB_w11.out HB_w11.out.size hb)
  have HX_w12 := hide (HX_w11.out.kept hb)
  have HR_w12 := hide (HR_w11.out.kept hb)
  have HL_w12 : Hid (∀ j u, (row17 m)[j]? = some u → w12.cell? ⟨v7, 0 + j, none⟩ = some u) := hide (row_cells HX_w12.out)
  clear hb
  go_wp2_with (fail)
  refine (own_any s.k s.o s.a s.b s.y w12).mono ?_
  rintro e w13 ⟨rfl, hb⟩
  have HB_w13 : Hid (Below w.heap.size w w13) := hide (below_nextB HB_w12.out HB_w12.out.size hb)
  have HX_w13 := hide (HX_w12.out.kept hb)
  have HR_w13 := hide (HR_w12.out.kept hb)
  have HL_w13 : Hid (∀ j u, (row17 m)[j]? = some u → w13.cell? ⟨v7, 0 + j, none⟩ = some u) := hide (row_cells HX_w13.out)
  clear hb
  go_wp2_with (refine wpList_load_w (by rfl) 41 (.tmp 7) rfl v7 0 (by rfl) (row17 m) HL_w13.out Try.underlying41 rfl size41 #[.int .i64 id, .int .i64 k, .int .i64 o, .bool a, .bool b, .int .i64 y, .complex .f64 0 0, .bool false, .string ByteArray.empty, .int .i64 0, .int .i64 0, .int .i64 0, .bool false, .string ByteArray.empty, .int .i64 0, .int .i64 0, .int .i64 0] (by rw [← HM.out]; rfl) ?_)
  refine (show Calls Try.prog 11 #[.pointer (some ⟨g, 0, none⟩), .agg #[.int .i64 id, .int .i64 k, .int .i64 o, .bool a, .bool b, .int .i64 y, .complex .f64 0 0, .bool false, .string ByteArray.empty, .int .i64 0, .int .i64 0, .int .i64 0, .bool false, .string ByteArray.empty, .int .i64 0, .int .i64 0, .int .i64 0]] w13 (fun e w' => e = .returned (.int .i64 q) ∧ ∃ F', Ro w' g 0 (begL [] m 0) F' ∧ Only [g] w13 w' ∧ ∀ b ∈ F', b ∈ [g] ∨ w13.heap.size ≤ b) from (by rw [← HQ.out, ← HM.out]; exact beg_op g ⟨id, k, o, a, b, y, 0, 0⟩ w13 (hide (by decide)) HR_w13 HWX)).mono ?_
  rintro e w14 ⟨rfl, F', h1, h2, h3⟩
  rw [show begL [] m 0 = [] by unfold begL; rw [if_neg (fun h => by simp at h)]] at h1
  have HR14 := hide h1
  have hgw : w.heap.size ≤ g := by rw [← hg, ← hW1]; simp
  have HB_w14 : Hid (Below w.heap.size w w14) := hide (HB_w13.out.trans (h2.below HB_w13.out.size (fun b hb => by rw [List.mem_singleton.1 hb]; exact hgw)))
  clear h1 h2 h3
  go_wp2_with fail
  refine (all_op g 0 w14 (hide (by decide)) HR14 rfl).mono ?_
  rintro e w15 ⟨B, c9, rfl, _, hb⟩
  have HB_w15 : Hid (Below w.heap.size w w15) := hide (below_nextB HB_w14.out HB_w14.out.size hb)
  clear hb
  go_wp2_with fail
  refine (alive_any w15).mono ?_
  rintro e w16 ⟨rfl, hb⟩
  have HB_w16 : Hid (Below w.heap.size w w16) := hide (below_nextB HB_w15.out HB_w15.out.size hb)
  clear hb
  go_wp2_with fail
  go_ret
  exact ⟨rfl, (by first | exact HB_w16.out | (have h := HB_w16.out; rw [hv3] at h; exact h))⟩
end Go.Proofs.Ytngligcjcdpnhaa
