/- The chapter's example. -/
import Derived.Test.YtngligcjcdpnhaaZb
namespace Go.Proofs.Ytngligcjcdpnhaa
open Go.RowKit Go.Maps
set_option linter.unusedSimpArgs false
set_option linter.unusedVariables false

def m5 : Sm := ⟨5, 3, 0, false, false, 0, 0, 0⟩
theorem e1 : begE [] m5 9 = 0 := by decide
theorem e2 : begE [m5] m5 9 = 1 := by decide
theorem l1 : begL [] m5 9 = [m5] := by
  unfold begL
  rw [if_pos (by decide)]; rfl
theorem l2 : begL [m5] m5 9 = [m5] := by
  unfold begL
  rw [if_neg (by decide)]
theorem s3 : stateL [m5] 3 = ⟨1, 0, false, false, 0⟩ := by rfl
theorem s7 : stateL [m5] 7 = ⟨0, 0, false, false, 0⟩ := by rfl
theorem a0 : activeL [m5] 0 = 1 := by rfl
theorem alive_beg (l : List Sm) (x : Int) (g : Nat) (F : List Nat) (w : World) (hl : l.length ≤ 1000) (H : Ro w g 9 l F) (hx : begE l m5 9 = x) (hl1 : begL l m5 9 = [m5]) :
    Calls Try.prog 11 #[.pointer (some ⟨g, 0, none⟩), .agg #[.int .i64 5, .int .i64 3, .int .i64 0, .bool false, .bool false, .int .i64 0, .complex .f64 0 0, .bool false, .string ByteArray.empty, .int .i64 0, .int .i64 0, .int .i64 0, .bool false, .string ByteArray.empty, .int .i64 0, .int .i64 0, .int .i64 0]] w fun e w' => e = .returned (.int .i64 x) ∧ ∃ F', Ro w' g 9 [m5] F' ∧ Only F w w' ∧ ∀ b ∈ F', b ∈ F ∨ w.heap.size ≤ b := by
  have h := beg_op g m5 w (hide hl) (hide H) (hide (by decide))
  rw [hx, hl1] at h
  exact h

theorem field_k (k o y : Int) (a b : Bool) (w : World) : (Instr.field 32 (.agg #[.int .i64 k, .int .i64 o, .bool a, .bool b, .int .i64 y]) 0).run Try.prog w = .ok (.int .i64 k) w := by kernel_rfl

set_option maxHeartbeats 2000000 in
theorem alive_any (w : World) : Calls Try.prog 6 #[] w fun e w' => e = .returned (.bool true) ∧ Below w.heap.size w w' := by
  have hfd := field_k
  go_enter Try.func6, Try.ntmps6
  go_wp2_with fail
  refine (new_any 9 9 w (hide rfl)).mono ?_
  rintro e w1 ⟨rfl, hR, hb⟩
  have HR := hide hR
  have HB := hide hb
  obtain ⟨g, hg⟩ : ∃ g, w.heap.size = g := ⟨_, rfl⟩
  obtain ⟨v, hv⟩ : ∃ v, w1.heap.size = v := ⟨_, rfl⟩
  obtain ⟨W, hW⟩ : ∃ W, w1.alloc (.cells #[.int .i64 5, .int .i64 3, .int .i64 0, .bool false, .bool false, .int .i64 0, .complex .f64 0 0, .bool false, .string ⟨#[]⟩, .int .i64 0, .int .i64 0, .int .i64 0, .bool false, .string ⟨#[]⟩, .int .i64 0, .int .i64 0, .int .i64 0] 41) = W := ⟨_, rfl⟩
  have HC : Hid (Blk W v 41 (row17 m5).toArray) := hide (by rw [← hW, ← hv]; exact Blk.born w1 41 _)
  have HBW : Hid (Below w.heap.size w W) := hide (by rw [← hW]; exact HB.out.alloc HB.out.size _)
  have HRW : Hid (Ro W g 9 [] [g]) := hide (by rw [← hg, ← hW]; exact HR.out.kept (st_alloc1 w1 _))
  have hgv : g < v := by have := HR.out.lt w.heap.size (List.mem_singleton.2 rfl); omega
  have HL : Hid (∀ j u, (row17 m5)[j]? = some u → W.cell? ⟨v, 0 + j, none⟩ = some u) := hide (row_cells HC.out)
  have hWv : W.heap.size = v + 1 := by rw [← hW, ← hv]; simp
  have HWv := hide hWv
  clear hR hb hWv
  rw [hg]
  go_wp2_with (first | (refine wpList_store_fresh rfl 41 (.tmp 2) (.tmp 7) rfl _ #[.int .i64 5, .int .i64 3, .int .i64 0, .bool false, .bool false, .int .i64 0, .complex .f64 0 0, .bool false, .string ⟨#[]⟩, .int .i64 0, .int .i64 0, .int .i64 0, .bool false, .string ⟨#[]⟩, .int .i64 0, .int .i64 0, .int .i64 0] v hv (by rfl) (by rfl) size41 rfl (by simp [Value.oneCell']) ?_; rw [hW]) | refine wpList_load_w (by rfl) 41 (.tmp 2) rfl v 0 (by rfl) (row17 m5) HL.out Try.underlying41 rfl size41 #[.int .i64 5, .int .i64 3, .int .i64 0, .bool false, .bool false, .int .i64 0, .complex .f64 0 0, .bool false, .string ByteArray.empty, .int .i64 0, .int .i64 0, .int .i64 0, .bool false, .string ByteArray.empty, .int .i64 0, .int .i64 0, .int .i64 0] rfl ?_)
  refine (alive_beg [] 0 g [g] W (by decide) HRW.out e1 l1).mono ?_
  rintro e w2 ⟨rfl, F1, h1, h2, h3⟩
  have HR2 := hide h1
  have HC2 := hide (Blk.only HC.out h2 (by simp; omega))
  have HB2 : Hid (Below w.heap.size w w2) := hide (HBW.out.trans (h2.below HBW.out.size (fun b hb => by rw [List.mem_singleton.1 hb, hg]; exact Nat.le_refl _)))
  have HF1 : Hid (∀ b ∈ F1, g ≤ b ∧ b ≠ v) := hide (fun b hb => by
    have := HWv.out
    rcases h3 b hb with h | h
    · rw [List.mem_singleton.1 h]; omega
    · omega)
  have HL2 : Hid (∀ j u, (row17 m5)[j]? = some u → w2.cell? ⟨v, 0 + j, none⟩ = some u) := hide (row_cells HC2.out)
  clear h1 h2 h3 HL HC HRW hW
  go_wp2_with (refine wpList_load_w (by rfl) 41 (.tmp 2) rfl v 0 (by rfl) (row17 m5) HL2.out Try.underlying41 rfl size41 #[.int .i64 5, .int .i64 3, .int .i64 0, .bool false, .bool false, .int .i64 0, .complex .f64 0 0, .bool false, .string ByteArray.empty, .int .i64 0, .int .i64 0, .int .i64 0, .bool false, .string ByteArray.empty, .int .i64 0, .int .i64 0, .int .i64 0] rfl ?_)
  refine (alive_beg [m5] 1 g F1 w2 (by decide) HR2.out e2 l2).mono ?_
  rintro e w3 ⟨rfl, F2, h1, h2, h3⟩
  have HR3 := hide h1
  have HB3 : Hid (Below w.heap.size w w3) := hide (HB2.out.trans (h2.below HB2.out.size (fun b hb => by rw [hg]; exact (HF1.out b hb).1)))
  clear h1 h2 h3
  go_wp2_with fail
  refine (state_op g 3 w3 (hide (by decide)) HR3 (hide (by decide)) _ (hide s3)).mono ?_
  rintro e w4 ⟨rfl, hb⟩
  have HR4 := hide (HR3.out.kept hb)
  have HB4 : Hid (Below w.heap.size w w4) := hide (below_nextB HB3.out HB3.out.size hb)
  clear hb
  go_wp2_with fail
  refine (state_op g 7 w4 (hide (by decide)) HR4 (hide (by decide)) _ (hide s7)).mono ?_
  rintro e w5 ⟨rfl, hb⟩
  have HR5 := hide (HR4.out.kept hb)
  have HB5 : Hid (Below w.heap.size w w5) := hide (below_nextB HB4.out HB4.out.size hb)
  clear hb
  go_wp2_with fail
  refine (active_op g 0 w5 (hide (by decide)) HR5).mono ?_
  rintro e w6 ⟨rfl, hb⟩
  have HB6 : Hid (Below w.heap.size w w6) := hide (below_nextB HB5.out HB5.out.size hb)
  clear hb
  rw [a0]
  go_wp2_with fail
  go_ret
  exact ⟨rfl, (by first | exact HB6.out | (rw [← hg]; exact HB6.out))⟩
end Go.Proofs.Ytngligcjcdpnhaa
