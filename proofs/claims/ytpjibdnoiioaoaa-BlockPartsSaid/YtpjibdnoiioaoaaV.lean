/- Contracts: the reference's Add. -/
import Derived.Test.YtpjibdnoiioaoaaU
import Derived.Deep.Cut
namespace Go.Proofs.Ytpjibdnoiioaoaa
open Go.RowKit
set_option linter.unusedSimpArgs false
set_option linter.unusedVariables false

set_option maxRecDepth 100000 in
set_option maxHeartbeats 2000000 in
theorem radd_no (A : Option Addr) (n c : Nat) (s0 most : Int) (f : Fr) (D S : Option Addr) (dn dc sn sc : Nat) (w : World) (hn : n ≤ 100) (h : 0 < n → ∃ g o, A = some ⟨g, o, none⟩ ∧ w.cell? ⟨g, o + 2, none⟩ = some (.int .i64 s0)) (ht : takeV (decide (0 < n)) s0 f.ty f.st = false) :
    Calls Try.prog 12 #[.slice A n c, .agg #[.int .i64 f.ty, .int .i64 f.fl, .int .i64 f.st, .int .i64 f.pad, .slice D dn dc, .slice S sn sc, .int .i64 f.wt, .int .i64 f.par, .bool f.alone, .int .i64 f.prom, .int .i64 f.last, .int .i64 f.code, .int .i64 f.step], .int .i64 most] w fun e w' => e = .returned (.tuple #[.slice A n c, .agg #[.int .i64 0, .int .i64 0, .int .i64 0, .int .i64 0, .slice none 0 0, .slice none 0 0, .int .i64 0, .int .i64 0, .bool false, .int .i64 0, .int .i64 0, .int .i64 0, .int .i64 0], .bool false, .int .i64 4]) ∧ Below w.heap.size w w' := by
  obtain ⟨bx, hbx⟩ : ∃ bx, w.heap.size = bx := ⟨_, rfl⟩
  obtain ⟨W1, hW1⟩ : ∃ W1, w.alloc (.cells #[.int .i64 f.ty, .int .i64 f.fl, .int .i64 f.st, .int .i64 f.pad, .slice D dn dc, .slice S sn sc, .int .i64 f.wt, .int .i64 f.par, .bool f.alone, .int .i64 f.prom, .int .i64 f.last, .int .i64 f.code, .int .i64 f.step] 30) = W1 := ⟨_, rfl⟩
  obtain ⟨r, hr⟩ : ∃ r, W1.heap.size = r := ⟨_, rfl⟩
  obtain ⟨W2, hW2⟩ : ∃ W2, W1.alloc (.cells #[.int .i64 0, .int .i64 0, .int .i64 0, .int .i64 0, .slice none 0 0, .slice none 0 0, .int .i64 0, .int .i64 0, .bool false, .int .i64 0, .int .i64 0, .int .i64 0, .int .i64 0] 30) = W2 := ⟨_, rfl⟩
  have HN : Hid (bx ≠ r ∧ w.heap.size = bx ∧ bx ≤ r) := hide (by
    have h1 : W1.heap.size = w.heap.size + 1 := by rw [← hW1]; simp
    omega)
  have HB2 : Hid (Below w.heap.size w W2) := hide (by
    rw [← hW2, ← hW1]; exact ((Below.refl _ _).alloc (Nat.le_refl _) _).alloc (by simp) _)
  have HF2 : Hid (Blk W2 bx 30 #[.int .i64 f.ty, .int .i64 f.fl, .int .i64 f.st, .int .i64 f.pad, .slice D dn dc, .slice S sn sc, .int .i64 f.wt, .int .i64 f.par, .bool f.alone, .int .i64 f.prom, .int .i64 f.last, .int .i64 f.code, .int .i64 f.step]) := hide (by rw [← hW2, ← hW1, ← hbx]; exact (Blk.born w 30 _).alloc _)
  have HR2 : Hid (Blk W2 r 30 #[.int .i64 0, .int .i64 0, .int .i64 0, .int .i64 0, .slice none 0 0, .slice none 0 0, .int .i64 0, .int .i64 0, .bool false, .int .i64 0, .int .i64 0, .int .i64 0, .int .i64 0]) := hide (by rw [← hW2, ← hr]; exact Blk.born W1 30 _)
  have x0 : W2.cell? ⟨bx, 0, none⟩ = some (.int .i64 f.ty) := HF2.out.cell 0
  have x1 : W2.cell? ⟨bx, 1, none⟩ = some (.int .i64 f.fl) := HF2.out.cell 1
  have x2 : W2.cell? ⟨bx, 2, none⟩ = some (.int .i64 f.st) := HF2.out.cell 2
  have x3 : W2.cell? ⟨bx, 3, none⟩ = some (.int .i64 f.pad) := HF2.out.cell 3
  have x4 : W2.cell? ⟨bx, 4, none⟩ = some (.slice D dn dc) := HF2.out.cell 4
  have x5 : W2.cell? ⟨bx, 5, none⟩ = some (.slice S sn sc) := HF2.out.cell 5
  have x6 : W2.cell? ⟨bx, 6, none⟩ = some (.int .i64 f.wt) := HF2.out.cell 6
  have x7 : W2.cell? ⟨bx, 7, none⟩ = some (.int .i64 f.par) := HF2.out.cell 7
  have x8 : W2.cell? ⟨bx, 8, none⟩ = some (.bool f.alone) := HF2.out.cell 8
  have x9 : W2.cell? ⟨bx, 9, none⟩ = some (.int .i64 f.prom) := HF2.out.cell 9
  have x10 : W2.cell? ⟨bx, 10, none⟩ = some (.int .i64 f.last) := HF2.out.cell 10
  have x11 : W2.cell? ⟨bx, 11, none⟩ = some (.int .i64 f.code) := HF2.out.cell 11
  have x12 : W2.cell? ⟨bx, 12, none⟩ = some (.int .i64 f.step) := HF2.out.cell 12
  have hc := rtakes_any f D S dn dc sn sc A n c s0 W2 hn (fun h0 => by obtain ⟨g, o, e, hc⟩ := h h0; exact ⟨g, o, e, (HB2.out.cell (p := ⟨g, o + 2, none⟩) (World.block_lt_of_cell? _ _ hc)).trans hc⟩)
  rw [ht] at hc
  clear ht h
  go_enter Try.func12, Try.ntmps12
  go_wp2_with fail
  refine hc.mono ?_
  rintro e w3 ⟨rfl, hb⟩
  have HB3 := hide (below_nextB HB2.out HB2.out.size hb)
  have HF3 := hide (HF2.out.kept hb)
  have HR3 := hide (HR2.out.kept hb)
  clear hb
  obtain ⟨W9, hW9⟩ : ∃ W9, w3.setRow r #[.int .i64 0, .int .i64 0, .int .i64 0, .int .i64 0, .slice none 0 0, .slice none 0 0, .int .i64 0, .int .i64 0, .bool false, .int .i64 0, .int .i64 0, .int .i64 0, .int .i64 0] = W9 := ⟨_, rfl⟩
  have HR9 : Hid (Blk W9 r 30 #[.int .i64 0, .int .i64 0, .int .i64 0, .int .i64 0, .slice none 0 0, .slice none 0 0, .int .i64 0, .int .i64 0, .bool false, .int .i64 0, .int .i64 0, .int .i64 0, .int .i64 0]) := hide (by rw [← hW9]; exact HR3.out.setRow _)
  have O9 : Hid (Only [r] w3 W9) := hide (by rw [← hW9]; exact Only.setRow _ _ _ (List.mem_singleton.2 rfl))
  have HB9 : Hid (Below w.heap.size w W9) := hide (by
    have h1 := HB3.out
    exact h1.trans (O9.out.below h1.size (fun b hb => by rw [List.mem_singleton.1 hb]; have := HN.out; omega)))
  have r0 : W9.cell? ⟨r, 0, none⟩ = some (.int .i64 0) := HR9.out.cell 0
  have r1 : W9.cell? ⟨r, 1, none⟩ = some (.int .i64 0) := HR9.out.cell 1
  have r2 : W9.cell? ⟨r, 2, none⟩ = some (.int .i64 0) := HR9.out.cell 2
  have r3 : W9.cell? ⟨r, 3, none⟩ = some (.int .i64 0) := HR9.out.cell 3
  have r4 : W9.cell? ⟨r, 4, none⟩ = some (.slice none 0 0) := HR9.out.cell 4
  have r5 : W9.cell? ⟨r, 5, none⟩ = some (.slice none 0 0) := HR9.out.cell 5
  have r6 : W9.cell? ⟨r, 6, none⟩ = some (.int .i64 0) := HR9.out.cell 6
  have r7 : W9.cell? ⟨r, 7, none⟩ = some (.int .i64 0) := HR9.out.cell 7
  have r8 : W9.cell? ⟨r, 8, none⟩ = some (.bool false) := HR9.out.cell 8
  have r9 : W9.cell? ⟨r, 9, none⟩ = some (.int .i64 0) := HR9.out.cell 9
  have r10 : W9.cell? ⟨r, 10, none⟩ = some (.int .i64 0) := HR9.out.cell 10
  have r11 : W9.cell? ⟨r, 11, none⟩ = some (.int .i64 0) := HR9.out.cell 11
  have r12 : W9.cell? ⟨r, 12, none⟩ = some (.int .i64 0) := HR9.out.cell 12
  go_wp2_with (((with_reducible refine wpList_store_row (o := { dst := none, op := .store 30 (.tmp 7) (.tmp 19), type := _, pos := _, after := _, guard := none }) rfl 30 (.tmp 7) (.tmp 19) rfl r #[.int .i64 0, .int .i64 0, .int .i64 0, .int .i64 0, .slice none 0 0, .slice none 0 0, .int .i64 0, .int .i64 0, .bool false, .int .i64 0, .int .i64 0, .int .i64 0, .int .i64 0] ?_ ?_ 30 #[.int .i64 0, .int .i64 0, .int .i64 0, .int .i64 0, .slice none 0 0, .slice none 0 0, .int .i64 0, .int .i64 0, .bool false, .int .i64 0, .int .i64 0, .int .i64 0, .int .i64 0] ?_ ?_ ?_ ?_ ?_); rfl; rfl; exact HR3.out; kernel_rfl; rfl; simp [Value.oneCell']))
  try rw [hW9]
  refine bodyPost_ret (v := .tuple #[.slice A n c, .agg #[.int .i64 0, .int .i64 0, .int .i64 0, .int .i64 0, .slice none 0 0, .slice none 0 0, .int .i64 0, .int .i64 0, .bool false, .int .i64 0, .int .i64 0, .int .i64 0, .int .i64 0], .bool false, .int .i64 4]) (by simp [results, Try.results12, go_sem, r0, r1, r2, r3, r4, r5, r6, r7, r8, r9, r10, r11, r12]) rfl ⟨rfl, HB9.out⟩

set_option maxRecDepth 100000 in
set_option maxHeartbeats 2000000 in
theorem radd_other (A : Option Addr) (n c : Nat) (s0 most : Int) (f : Fr) (D S : Option Addr) (dn dc sn sc : Nat) (w : World) (hn : n ≤ 100) (h : 0 < n → ∃ g o, A = some ⟨g, o, none⟩ ∧ w.cell? ⟨g, o + 2, none⟩ = some (.int .i64 s0)) (ht : takeV (decide (0 < n)) s0 f.ty f.st = true) (hp : partB f.ty = false) :
    Calls Try.prog 12 #[.slice A n c, .agg #[.int .i64 f.ty, .int .i64 f.fl, .int .i64 f.st, .int .i64 f.pad, .slice D dn dc, .slice S sn sc, .int .i64 f.wt, .int .i64 f.par, .bool f.alone, .int .i64 f.prom, .int .i64 f.last, .int .i64 f.code, .int .i64 f.step], .int .i64 most] w fun e w' => e = .returned (.tuple #[.slice A n c, .agg #[.int .i64 0, .int .i64 0, .int .i64 0, .int .i64 0, .slice none 0 0, .slice none 0 0, .int .i64 0, .int .i64 0, .bool false, .int .i64 0, .int .i64 0, .int .i64 0, .int .i64 0], .bool false, .int .i64 0]) ∧ Below w.heap.size w w' := by
  obtain ⟨bx, hbx⟩ : ∃ bx, w.heap.size = bx := ⟨_, rfl⟩
  obtain ⟨W1, hW1⟩ : ∃ W1, w.alloc (.cells #[.int .i64 f.ty, .int .i64 f.fl, .int .i64 f.st, .int .i64 f.pad, .slice D dn dc, .slice S sn sc, .int .i64 f.wt, .int .i64 f.par, .bool f.alone, .int .i64 f.prom, .int .i64 f.last, .int .i64 f.code, .int .i64 f.step] 30) = W1 := ⟨_, rfl⟩
  obtain ⟨r, hr⟩ : ∃ r, W1.heap.size = r := ⟨_, rfl⟩
  obtain ⟨W2, hW2⟩ : ∃ W2, W1.alloc (.cells #[.int .i64 0, .int .i64 0, .int .i64 0, .int .i64 0, .slice none 0 0, .slice none 0 0, .int .i64 0, .int .i64 0, .bool false, .int .i64 0, .int .i64 0, .int .i64 0, .int .i64 0] 30) = W2 := ⟨_, rfl⟩
  have HN : Hid (bx ≠ r ∧ w.heap.size = bx ∧ bx ≤ r) := hide (by
    have h1 : W1.heap.size = w.heap.size + 1 := by rw [← hW1]; simp
    omega)
  have HB2 : Hid (Below w.heap.size w W2) := hide (by
    rw [← hW2, ← hW1]; exact ((Below.refl _ _).alloc (Nat.le_refl _) _).alloc (by simp) _)
  have HF2 : Hid (Blk W2 bx 30 #[.int .i64 f.ty, .int .i64 f.fl, .int .i64 f.st, .int .i64 f.pad, .slice D dn dc, .slice S sn sc, .int .i64 f.wt, .int .i64 f.par, .bool f.alone, .int .i64 f.prom, .int .i64 f.last, .int .i64 f.code, .int .i64 f.step]) := hide (by rw [← hW2, ← hW1, ← hbx]; exact (Blk.born w 30 _).alloc _)
  have HR2 : Hid (Blk W2 r 30 #[.int .i64 0, .int .i64 0, .int .i64 0, .int .i64 0, .slice none 0 0, .slice none 0 0, .int .i64 0, .int .i64 0, .bool false, .int .i64 0, .int .i64 0, .int .i64 0, .int .i64 0]) := hide (by rw [← hW2, ← hr]; exact Blk.born W1 30 _)
  have x0 : W2.cell? ⟨bx, 0, none⟩ = some (.int .i64 f.ty) := HF2.out.cell 0
  have x1 : W2.cell? ⟨bx, 1, none⟩ = some (.int .i64 f.fl) := HF2.out.cell 1
  have x2 : W2.cell? ⟨bx, 2, none⟩ = some (.int .i64 f.st) := HF2.out.cell 2
  have x3 : W2.cell? ⟨bx, 3, none⟩ = some (.int .i64 f.pad) := HF2.out.cell 3
  have x4 : W2.cell? ⟨bx, 4, none⟩ = some (.slice D dn dc) := HF2.out.cell 4
  have x5 : W2.cell? ⟨bx, 5, none⟩ = some (.slice S sn sc) := HF2.out.cell 5
  have x6 : W2.cell? ⟨bx, 6, none⟩ = some (.int .i64 f.wt) := HF2.out.cell 6
  have x7 : W2.cell? ⟨bx, 7, none⟩ = some (.int .i64 f.par) := HF2.out.cell 7
  have x8 : W2.cell? ⟨bx, 8, none⟩ = some (.bool f.alone) := HF2.out.cell 8
  have x9 : W2.cell? ⟨bx, 9, none⟩ = some (.int .i64 f.prom) := HF2.out.cell 9
  have x10 : W2.cell? ⟨bx, 10, none⟩ = some (.int .i64 f.last) := HF2.out.cell 10
  have x11 : W2.cell? ⟨bx, 11, none⟩ = some (.int .i64 f.code) := HF2.out.cell 11
  have x12 : W2.cell? ⟨bx, 12, none⟩ = some (.int .i64 f.step) := HF2.out.cell 12
  have hc := rtakes_any f D S dn dc sn sc A n c s0 W2 hn (fun h0 => by obtain ⟨g, o, e, hc⟩ := h h0; exact ⟨g, o, e, (HB2.out.cell (p := ⟨g, o + 2, none⟩) (World.block_lt_of_cell? _ _ hc)).trans hc⟩)
  have hd := fun w => hide (rpart_any f D S dn dc sn sc w)
  rw [ht] at hc
  simp only [hp] at hd
  clear ht h hp
  go_enter Try.func12, Try.ntmps12
  go_wp2_with fail
  refine hc.mono ?_
  rintro e w3 ⟨rfl, hb⟩
  have HB3 := hide (below_nextB HB2.out HB2.out.size hb)
  have HF3 := hide (HF2.out.kept hb)
  have HR3 := hide (HR2.out.kept hb)
  clear hb
  have y0 : w3.cell? ⟨bx, 0, none⟩ = some (.int .i64 f.ty) := HF3.out.cell 0
  have y1 : w3.cell? ⟨bx, 1, none⟩ = some (.int .i64 f.fl) := HF3.out.cell 1
  have y2 : w3.cell? ⟨bx, 2, none⟩ = some (.int .i64 f.st) := HF3.out.cell 2
  have y3 : w3.cell? ⟨bx, 3, none⟩ = some (.int .i64 f.pad) := HF3.out.cell 3
  have y4 : w3.cell? ⟨bx, 4, none⟩ = some (.slice D dn dc) := HF3.out.cell 4
  have y5 : w3.cell? ⟨bx, 5, none⟩ = some (.slice S sn sc) := HF3.out.cell 5
  have y6 : w3.cell? ⟨bx, 6, none⟩ = some (.int .i64 f.wt) := HF3.out.cell 6
  have y7 : w3.cell? ⟨bx, 7, none⟩ = some (.int .i64 f.par) := HF3.out.cell 7
  have y8 : w3.cell? ⟨bx, 8, none⟩ = some (.bool f.alone) := HF3.out.cell 8
  have y9 : w3.cell? ⟨bx, 9, none⟩ = some (.int .i64 f.prom) := HF3.out.cell 9
  have y10 : w3.cell? ⟨bx, 10, none⟩ = some (.int .i64 f.last) := HF3.out.cell 10
  have y11 : w3.cell? ⟨bx, 11, none⟩ = some (.int .i64 f.code) := HF3.out.cell 11
  have y12 : w3.cell? ⟨bx, 12, none⟩ = some (.int .i64 f.step) := HF3.out.cell 12
  go_wp2_with fail
  refine (hd w3).out.mono ?_
  rintro e w4 ⟨rfl, hb⟩
  have HB4 := hide (below_nextB HB3.out HB3.out.size hb)
  have HF4 := hide (HF3.out.kept hb)
  have HR4 := hide (HR3.out.kept hb)
  clear hb
  obtain ⟨W9, hW9⟩ : ∃ W9, w4.setRow r #[.int .i64 0, .int .i64 0, .int .i64 0, .int .i64 0, .slice none 0 0, .slice none 0 0, .int .i64 0, .int .i64 0, .bool false, .int .i64 0, .int .i64 0, .int .i64 0, .int .i64 0] = W9 := ⟨_, rfl⟩
  have HR9 : Hid (Blk W9 r 30 #[.int .i64 0, .int .i64 0, .int .i64 0, .int .i64 0, .slice none 0 0, .slice none 0 0, .int .i64 0, .int .i64 0, .bool false, .int .i64 0, .int .i64 0, .int .i64 0, .int .i64 0]) := hide (by rw [← hW9]; exact HR4.out.setRow _)
  have O9 : Hid (Only [r] w4 W9) := hide (by rw [← hW9]; exact Only.setRow _ _ _ (List.mem_singleton.2 rfl))
  have HB9 : Hid (Below w.heap.size w W9) := hide (by
    have h1 := HB4.out
    exact h1.trans (O9.out.below h1.size (fun b hb => by rw [List.mem_singleton.1 hb]; have := HN.out; omega)))
  have r0 : W9.cell? ⟨r, 0, none⟩ = some (.int .i64 0) := HR9.out.cell 0
  have r1 : W9.cell? ⟨r, 1, none⟩ = some (.int .i64 0) := HR9.out.cell 1
  have r2 : W9.cell? ⟨r, 2, none⟩ = some (.int .i64 0) := HR9.out.cell 2
  have r3 : W9.cell? ⟨r, 3, none⟩ = some (.int .i64 0) := HR9.out.cell 3
  have r4 : W9.cell? ⟨r, 4, none⟩ = some (.slice none 0 0) := HR9.out.cell 4
  have r5 : W9.cell? ⟨r, 5, none⟩ = some (.slice none 0 0) := HR9.out.cell 5
  have r6 : W9.cell? ⟨r, 6, none⟩ = some (.int .i64 0) := HR9.out.cell 6
  have r7 : W9.cell? ⟨r, 7, none⟩ = some (.int .i64 0) := HR9.out.cell 7
  have r8 : W9.cell? ⟨r, 8, none⟩ = some (.bool false) := HR9.out.cell 8
  have r9 : W9.cell? ⟨r, 9, none⟩ = some (.int .i64 0) := HR9.out.cell 9
  have r10 : W9.cell? ⟨r, 10, none⟩ = some (.int .i64 0) := HR9.out.cell 10
  have r11 : W9.cell? ⟨r, 11, none⟩ = some (.int .i64 0) := HR9.out.cell 11
  have r12 : W9.cell? ⟨r, 12, none⟩ = some (.int .i64 0) := HR9.out.cell 12
  go_wp2_with (((with_reducible refine wpList_store_row (o := { dst := none, op := .store 30 (.tmp 7) (.tmp 24), type := _, pos := _, after := _, guard := none }) rfl 30 (.tmp 7) (.tmp 24) rfl r #[.int .i64 0, .int .i64 0, .int .i64 0, .int .i64 0, .slice none 0 0, .slice none 0 0, .int .i64 0, .int .i64 0, .bool false, .int .i64 0, .int .i64 0, .int .i64 0, .int .i64 0] ?_ ?_ 30 #[.int .i64 0, .int .i64 0, .int .i64 0, .int .i64 0, .slice none 0 0, .slice none 0 0, .int .i64 0, .int .i64 0, .bool false, .int .i64 0, .int .i64 0, .int .i64 0, .int .i64 0] ?_ ?_ ?_ ?_ ?_); rfl; rfl; exact HR4.out; kernel_rfl; rfl; simp [Value.oneCell']))
  try rw [hW9]
  refine bodyPost_ret (v := .tuple #[.slice A n c, .agg #[.int .i64 0, .int .i64 0, .int .i64 0, .int .i64 0, .slice none 0 0, .slice none 0 0, .int .i64 0, .int .i64 0, .bool false, .int .i64 0, .int .i64 0, .int .i64 0, .int .i64 0], .bool false, .int .i64 0]) (by simp [results, Try.results12, go_sem, r0, r1, r2, r3, r4, r5, r6, r7, r8, r9, r10, r11, r12]) rfl ⟨rfl, HB9.out⟩

/-- What the reference's Add says of a part. -/
def RPost (K : Nat → Prop) (A : Option Addr) (n c : Nat) (l : List FV) (x : FV) (most : Int) (w : World) (e : Ending) (w' : World) : Prop :=
  Below w.heap.size w w' ∧
  (((most < ((allD (l.map (·.f)) ++ x.f.data).length : Nat) ∧ 0 < (allD (l.map (·.f)) ++ x.f.data).length) ∧ e = .returned (.tuple #[.slice A n c, .agg #[.int .i64 0, .int .i64 0, .int .i64 0, .int .i64 0, .slice none 0 0, .slice none 0 0, .int .i64 0, .int .i64 0, .bool false, .int .i64 0, .int .i64 0, .int .i64 0, .int .i64 0], .bool false, .int .i64 9])) ∨
  (¬ (most < ((allD (l.map (·.f)) ++ x.f.data).length : Nat) ∧ 0 < (allD (l.map (·.f)) ++ x.f.data).length) ∧ hasB x.f.ty x.f.fl 4 = false ∧ ∃ B c', e = .returned (.tuple #[.slice B (n + 1) c', .agg #[.int .i64 0, .int .i64 0, .int .i64 0, .int .i64 0, .slice none 0 0, .slice none 0 0, .int .i64 0, .int .i64 0, .bool false, .int .i64 0, .int .i64 0, .int .i64 0, .int .i64 0], .bool false, .int .i64 0]) ∧ RowF w' (fun g => K g ∨ w.heap.size ≤ g) B (n + 1) c' (l ++ [x])) ∨
  (¬ (most < ((allD (l.map (·.f)) ++ x.f.data).length : Nat) ∧ 0 < (allD (l.map (·.f)) ++ x.f.data).length) ∧ hasB x.f.ty x.f.fl 4 = true ∧ ∃ (y : FV) (B : Option Addr) (m cB : Nat), (l ++ [x])[0]? = some y ∧ e = .returned (.tuple #[.slice none 0 0, .agg #[.int .i64 y.f.ty, .int .i64 y.f.fl, .int .i64 y.f.st, .int .i64 y.f.pad, .slice B m cB, .slice y.S y.sn y.sc, .int .i64 y.f.wt, .int .i64 y.f.par, .bool y.f.alone, .int .i64 y.f.prom, .int .i64 y.f.last, .int .i64 y.f.code, .int .i64 y.f.step], .bool true, .int .i64 0]) ∧ Sl w' (fun g => w.heap.size ≤ g) B m cB (u8s (allD (l.map (·.f)) ++ x.f.data)) ∧ m = (allD (l.map (·.f)) ++ x.f.data).length))
set_option maxRecDepth 100000 in
set_option maxHeartbeats 8000000 in
theorem radd_part (K : Nat → Prop) (A : Option Addr) (n c : Nat) (l : List FV) (s0 most : Int) (f : Fr) (D S : Option Addr) (dn dc sn sc : Nat) (w : World) (hn : n ≤ 100) (hl : RowF w K A n c l) (h : 0 < n → ∃ g o, A = some ⟨g, o, none⟩ ∧ w.cell? ⟨g, o + 2, none⟩ = some (.int .i64 s0)) (hfs : FS w K f D dn dc S sn sc) (ht : takeV (decide (0 < n)) s0 f.ty f.st = true) (hp : partB f.ty = true) (hff : f.fl ≤ 9223372036854775807) (hsz : (allD (l.map (·.f))).length + dn ≤ 1000000) :
    Calls Try.prog 12 #[.slice A n c, .agg #[.int .i64 f.ty, .int .i64 f.fl, .int .i64 f.st, .int .i64 f.pad, .slice D dn dc, .slice S sn sc, .int .i64 f.wt, .int .i64 f.par, .bool f.alone, .int .i64 f.prom, .int .i64 f.last, .int .i64 f.code, .int .i64 f.step], .int .i64 most] w (RPost K A n c l ⟨f, D, dn, dc, S, sn, sc⟩ most w) := by
  obtain ⟨bx, hbx⟩ : ∃ bx, w.heap.size = bx := ⟨_, rfl⟩
  obtain ⟨W1, hW1⟩ : ∃ W1, w.alloc (.cells #[.int .i64 f.ty, .int .i64 f.fl, .int .i64 f.st, .int .i64 f.pad, .slice D dn dc, .slice S sn sc, .int .i64 f.wt, .int .i64 f.par, .bool f.alone, .int .i64 f.prom, .int .i64 f.last, .int .i64 f.code, .int .i64 f.step] 30) = W1 := ⟨_, rfl⟩
  obtain ⟨r, hr⟩ : ∃ r, W1.heap.size = r := ⟨_, rfl⟩
  obtain ⟨W2, hW2⟩ : ∃ W2, W1.alloc (.cells #[.int .i64 0, .int .i64 0, .int .i64 0, .int .i64 0, .slice none 0 0, .slice none 0 0, .int .i64 0, .int .i64 0, .bool false, .int .i64 0, .int .i64 0, .int .i64 0, .int .i64 0] 30) = W2 := ⟨_, rfl⟩
  have HN : Hid (bx ≠ r ∧ w.heap.size = bx ∧ bx ≤ r) := hide (by
    have h1 : W1.heap.size = w.heap.size + 1 := by rw [← hW1]; simp
    omega)
  have HB2 : Hid (Below w.heap.size w W2) := hide (by
    rw [← hW2, ← hW1]; exact ((Below.refl _ _).alloc (Nat.le_refl _) _).alloc (by simp) _)
  have HF2 : Hid (Blk W2 bx 30 #[.int .i64 f.ty, .int .i64 f.fl, .int .i64 f.st, .int .i64 f.pad, .slice D dn dc, .slice S sn sc, .int .i64 f.wt, .int .i64 f.par, .bool f.alone, .int .i64 f.prom, .int .i64 f.last, .int .i64 f.code, .int .i64 f.step]) := hide (by rw [← hW2, ← hW1, ← hbx]; exact (Blk.born w 30 _).alloc _)
  have HR2 : Hid (Blk W2 r 30 #[.int .i64 0, .int .i64 0, .int .i64 0, .int .i64 0, .slice none 0 0, .slice none 0 0, .int .i64 0, .int .i64 0, .bool false, .int .i64 0, .int .i64 0, .int .i64 0, .int .i64 0]) := hide (by rw [← hW2, ← hr]; exact Blk.born W1 30 _)
  have x0 : W2.cell? ⟨bx, 0, none⟩ = some (.int .i64 f.ty) := HF2.out.cell 0
  have x1 : W2.cell? ⟨bx, 1, none⟩ = some (.int .i64 f.fl) := HF2.out.cell 1
  have x2 : W2.cell? ⟨bx, 2, none⟩ = some (.int .i64 f.st) := HF2.out.cell 2
  have x3 : W2.cell? ⟨bx, 3, none⟩ = some (.int .i64 f.pad) := HF2.out.cell 3
  have x4 : W2.cell? ⟨bx, 4, none⟩ = some (.slice D dn dc) := HF2.out.cell 4
  have x5 : W2.cell? ⟨bx, 5, none⟩ = some (.slice S sn sc) := HF2.out.cell 5
  have x6 : W2.cell? ⟨bx, 6, none⟩ = some (.int .i64 f.wt) := HF2.out.cell 6
  have x7 : W2.cell? ⟨bx, 7, none⟩ = some (.int .i64 f.par) := HF2.out.cell 7
  have x8 : W2.cell? ⟨bx, 8, none⟩ = some (.bool f.alone) := HF2.out.cell 8
  have x9 : W2.cell? ⟨bx, 9, none⟩ = some (.int .i64 f.prom) := HF2.out.cell 9
  have x10 : W2.cell? ⟨bx, 10, none⟩ = some (.int .i64 f.last) := HF2.out.cell 10
  have x11 : W2.cell? ⟨bx, 11, none⟩ = some (.int .i64 f.code) := HF2.out.cell 11
  have x12 : W2.cell? ⟨bx, 12, none⟩ = some (.int .i64 f.step) := HF2.out.cell 12
  have HL := hide hl
  have HFS := hide hfs
  have hc := rtakes_any f D S dn dc sn sc A n c s0 W2 hn (fun h0 => by obtain ⟨g, o, e, hc⟩ := h h0; exact ⟨g, o, e, (HB2.out.cell (p := ⟨g, o + 2, none⟩) (World.block_lt_of_cell? _ _ hc)).trans hc⟩)
  have hd := fun w => hide (rpart_any f D S dn dc sn sc w)
  have HENDS := fun w => hide (ends_any f D S dn dc sn sc w hff)
  have HSZ := hide hsz
  rw [ht] at hc
  simp only [hp] at hd
  clear ht h hp hl hfs hff hsz
  go_enter Try.func12, Try.ntmps12
  go_wp2_with fail
  refine hc.mono ?_
  rintro e w3 ⟨rfl, hb⟩
  have HB3 := hide (below_nextB HB2.out HB2.out.size hb)
  have HF3 := hide (HF2.out.kept hb)
  have HR3 := hide (HR2.out.kept hb)
  clear hb
  have y0 : w3.cell? ⟨bx, 0, none⟩ = some (.int .i64 f.ty) := HF3.out.cell 0
  have y1 : w3.cell? ⟨bx, 1, none⟩ = some (.int .i64 f.fl) := HF3.out.cell 1
  have y2 : w3.cell? ⟨bx, 2, none⟩ = some (.int .i64 f.st) := HF3.out.cell 2
  have y3 : w3.cell? ⟨bx, 3, none⟩ = some (.int .i64 f.pad) := HF3.out.cell 3
  have y4 : w3.cell? ⟨bx, 4, none⟩ = some (.slice D dn dc) := HF3.out.cell 4
  have y5 : w3.cell? ⟨bx, 5, none⟩ = some (.slice S sn sc) := HF3.out.cell 5
  have y6 : w3.cell? ⟨bx, 6, none⟩ = some (.int .i64 f.wt) := HF3.out.cell 6
  have y7 : w3.cell? ⟨bx, 7, none⟩ = some (.int .i64 f.par) := HF3.out.cell 7
  have y8 : w3.cell? ⟨bx, 8, none⟩ = some (.bool f.alone) := HF3.out.cell 8
  have y9 : w3.cell? ⟨bx, 9, none⟩ = some (.int .i64 f.prom) := HF3.out.cell 9
  have y10 : w3.cell? ⟨bx, 10, none⟩ = some (.int .i64 f.last) := HF3.out.cell 10
  have y11 : w3.cell? ⟨bx, 11, none⟩ = some (.int .i64 f.code) := HF3.out.cell 11
  have y12 : w3.cell? ⟨bx, 12, none⟩ = some (.int .i64 f.step) := HF3.out.cell 12
  go_wp2_with fail
  refine (hd w3).out.mono ?_
  rintro e w4 ⟨rfl, hb⟩
  have HB4 := hide (below_nextB HB3.out HB3.out.size hb)
  have HF4 := hide (HF3.out.kept hb)
  have HR4 := hide (HR3.out.kept hb)
  clear hb
  clear hc hd HF2 HR2 HB2 HF3 HR3 HB3 x0 y0 x1 y1 x2 y2 x3 y3 x4 y4 x5 y5 x6 y6 x7 y7 x8 y8 x9 y9 x10 y10 x11 y11 x12 y12
  have z0 : w4.cell? ⟨bx, 0, none⟩ = some (.int .i64 f.ty) := HF4.out.cell 0
  have z1 : w4.cell? ⟨bx, 1, none⟩ = some (.int .i64 f.fl) := HF4.out.cell 1
  have z2 : w4.cell? ⟨bx, 2, none⟩ = some (.int .i64 f.st) := HF4.out.cell 2
  have z3 : w4.cell? ⟨bx, 3, none⟩ = some (.int .i64 f.pad) := HF4.out.cell 3
  have z4 : w4.cell? ⟨bx, 4, none⟩ = some (.slice D dn dc) := HF4.out.cell 4
  have z5 : w4.cell? ⟨bx, 5, none⟩ = some (.slice S sn sc) := HF4.out.cell 5
  have z6 : w4.cell? ⟨bx, 6, none⟩ = some (.int .i64 f.wt) := HF4.out.cell 6
  have z7 : w4.cell? ⟨bx, 7, none⟩ = some (.int .i64 f.par) := HF4.out.cell 7
  have z8 : w4.cell? ⟨bx, 8, none⟩ = some (.bool f.alone) := HF4.out.cell 8
  have z9 : w4.cell? ⟨bx, 9, none⟩ = some (.int .i64 f.prom) := HF4.out.cell 9
  have z10 : w4.cell? ⟨bx, 10, none⟩ = some (.int .i64 f.last) := HF4.out.cell 10
  have z11 : w4.cell? ⟨bx, 11, none⟩ = some (.int .i64 f.code) := HF4.out.cell 11
  have z12 : w4.cell? ⟨bx, 12, none⟩ = some (.int .i64 f.step) := HF4.out.cell 12
  have HSA := hide (HL.out.sees.sees.kept HB4.out)
  have hnum := HL.out.num
  have HNUM := hide hnum
  clear hnum
  obtain ⟨l1, hl1⟩ : ∃ l1, l ++ [(⟨f, D, dn, dc, S, sn, sc⟩ : FV)] = l1 := ⟨_, rfl⟩
  have HL1 := hide hl1
  have SS : ∀ w', Below w4.heap.size w4 w' → Hid (Blk w' bx 30 #[.int .i64 f.ty, .int .i64 f.fl, .int .i64 f.st, .int .i64 f.pad, .slice D dn dc, .slice S sn sc, .int .i64 f.wt, .int .i64 f.par, .bool f.alone, .int .i64 f.prom, .int .i64 f.last, .int .i64 f.code, .int .i64 f.step]) := fun w' hb => hide (HF4.out.kept hb)
  go_upto_region 5 with fail
  go_cut [10] from 14 (fun s10 wx => ∃ (B : Option Addr) (c5 : Nat), s10 = .slice B (n + 1) c5 ∧ Hid (wx.ownsRow w4.heap.size 30 13 (.slice B (n + 1) c5) (n + 1) (cellsF l1)) ∧ Hid (Below w4.heap.size w4 wx))
  case first =>
    have S0 : ∀ w', Below w4.heap.size w4 w' → w'.cell? ⟨bx, 0, none⟩ = some (.int .i64 f.ty) ∧ w'.cell? ⟨bx, 1, none⟩ = some (.int .i64 f.fl) ∧ w'.cell? ⟨bx, 2, none⟩ = some (.int .i64 f.st) ∧ w'.cell? ⟨bx, 3, none⟩ = some (.int .i64 f.pad) ∧ w'.cell? ⟨bx, 4, none⟩ = some (.slice D dn dc) ∧ w'.cell? ⟨bx, 5, none⟩ = some (.slice S sn sc) ∧ w'.cell? ⟨bx, 6, none⟩ = some (.int .i64 f.wt) ∧ w'.cell? ⟨bx, 7, none⟩ = some (.int .i64 f.par) ∧ w'.cell? ⟨bx, 8, none⟩ = some (.bool f.alone) ∧ w'.cell? ⟨bx, 9, none⟩ = some (.int .i64 f.prom) ∧ w'.cell? ⟨bx, 10, none⟩ = some (.int .i64 f.last) ∧ w'.cell? ⟨bx, 11, none⟩ = some (.int .i64 f.code) ∧ w'.cell? ⟨bx, 12, none⟩ = some (.int .i64 f.step) := fun w' hb => ⟨(SS w' hb).out.cell 0, (SS w' hb).out.cell 1, (SS w' hb).out.cell 2, (SS w' hb).out.cell 3, (SS w' hb).out.cell 4, (SS w' hb).out.cell 5, (SS w' hb).out.cell 6, (SS w' hb).out.cell 7, (SS w' hb).out.cell 8, (SS w' hb).out.cell 9, (SS w' hb).out.cell 10, (SS w' hb).out.cell 11, (SS w' hb).out.cell 12⟩
    refine wp_region_held_drew (S := fun w' => w'.cell? ⟨bx, 0, none⟩ = some (.int .i64 f.ty) ∧ w'.cell? ⟨bx, 1, none⟩ = some (.int .i64 f.fl) ∧ w'.cell? ⟨bx, 2, none⟩ = some (.int .i64 f.st) ∧ w'.cell? ⟨bx, 3, none⟩ = some (.int .i64 f.pad) ∧ w'.cell? ⟨bx, 4, none⟩ = some (.slice D dn dc) ∧ w'.cell? ⟨bx, 5, none⟩ = some (.slice S sn sc) ∧ w'.cell? ⟨bx, 6, none⟩ = some (.int .i64 f.wt) ∧ w'.cell? ⟨bx, 7, none⟩ = some (.int .i64 f.par) ∧ w'.cell? ⟨bx, 8, none⟩ = some (.bool f.alone) ∧ w'.cell? ⟨bx, 9, none⟩ = some (.int .i64 f.prom) ∧ w'.cell? ⟨bx, 10, none⟩ = some (.int .i64 f.last) ∧ w'.cell? ⟨bx, 11, none⟩ = some (.int .i64 f.code) ∧ w'.cell? ⟨bx, 12, none⟩ = some (.int .i64 f.step)) (by kernel_rfl) (S0 w4 (Below.refl _ _)) (fun hHeld => ?_)
    refine wpAnyH_take (i := 1) (v := ?_) rfl (by kernel_rfl) (by kernel_rfl) (by kernel_rfl) (fun _ _ _ h => h) (Or.inl ⟨by rfl, ?hy⟩) (by assumption) ?_
    case hy => intro w hSw; (try dsimp only at hSw); go_simp; (try with_reducible rfl)
    try simp only [Act.put, List.getElem_toArray, List.getElem_cons_zero, List.getElem_cons_succ, List.setIfInBounds_toArray, List.set_cons_zero, List.set_cons_succ]
    refine wpAnyH_take (i := 3) (v := ?_) rfl (by kernel_rfl) (by kernel_rfl) (by kernel_rfl) (fun _ _ _ h => h) (Or.inl ⟨by rfl, ?hy⟩) (by assumption) ?_
    case hy => intro w hSw; (try dsimp only at hSw); go_simp; (try with_reducible rfl)
    try simp only [Act.put, List.getElem_toArray, List.getElem_cons_zero, List.getElem_cons_succ, List.setIfInBounds_toArray, List.set_cons_zero, List.set_cons_succ]
    refine wpAnyH_ready (rs := [0, 4]) (by kernel_rfl) (by simp) ?_
    refine AllReadyH.cons rfl (fun K' hK => ?_) ?_
    · go_simp
      refine hK.out _ _ (S0 _ (((Below.refl w4.heap.size w4).drew.alloc (by simp) (.cells #[] 30)))) (fun hHeld => ?_)
      clear hK
      try simp only [Act.put, List.getElem_toArray, List.getElem_cons_zero, List.getElem_cons_succ, List.setIfInBounds_toArray, List.set_cons_zero, List.set_cons_succ]
      refine wpAnyH_ready (rs := [2, 4]) (by kernel_rfl) (by simp) ?_
      refine AllReadyH.cons rfl (fun K' hK => ?_) ?_
      · refine step_pour rfl (.tmp 25) (.tmp 26) 22 rfl w4.heap.size 30 13 info30 rfl (by decide) Try.underlying22 _ 0 [] (by rfl) ((own_none (w := w4.drew) w4.heap.size 30 13 (by simp))) A n c (cellsF l) (by rfl) (by rw [cellsF_length, HNUM.out]) HL.out.nn (HSA.out.kept (((Below.refl w4.heap.size w4).drew.alloc (by simp) (.cells #[] 30)))) oneF (by unfold maxLen; omega) (by omega) (by first | (simp; done) | (have := (((Below.refl w4.heap.size w4).drew.alloc (by simp) (.cells #[] 30))).size; simpa using this)) ?_
        intro B1 c1 w6 ho hg hat
        simp only [Nat.zero_add, List.nil_append] at ho ⊢
        have HB6 : Hid (Below w4.heap.size w4 w6) := hide ((((Below.refl w4.heap.size w4).drew.alloc (by simp) (.cells #[] 30))).grown hg (by first | (simp; done) | (have := (((Below.refl w4.heap.size w4).drew.alloc (by simp) (.cells #[] 30))).size; simpa using this)) (fun j hj => own_row_ge ((own_none (w := w4.drew) w4.heap.size 30 13 (by simp))) j hj))
        have HO6 := hide ho
        clear ho hg hat
        refine hK.out _ _ (S0 _ HB6.out) (fun hHeld => ?_)
        clear hK
        try simp only [Act.put, List.getElem_toArray, List.getElem_cons_zero, List.getElem_cons_succ, List.setIfInBounds_toArray, List.set_cons_zero, List.set_cons_succ]
        refine wpAnyH_ready (rs := [4]) (by kernel_rfl) (by simp) ?_
        refine AllReadyH.cons rfl (fun K' hK => ?_) ?_
        · go_simp
          refine hK.out _ _ (S0 _ (HB6.out.alloc HB6.out.size _)) (fun hHeld => ?_)
          clear hK
          try simp only [Act.put, List.getElem_toArray, List.getElem_cons_zero, List.getElem_cons_succ, List.setIfInBounds_toArray, List.set_cons_zero, List.set_cons_succ]
          refine wpAnyH_ready (rs := [5]) (by kernel_rfl) (by simp) ?_
          refine AllReadyH.cons rfl (fun K' hK => ?_) ?_
          · refine step_pour rfl (.tmp 27) (.tmp 29) 22 rfl w4.heap.size 30 13 info30 rfl (by decide) Try.underlying22 _ n (cellsF l) (by rfl) (HO6.out.alloc (.cells #[.int .i64 f.ty, .int .i64 f.fl, .int .i64 f.st, .int .i64 f.pad, .slice D dn dc, .slice S sn sc, .int .i64 f.wt, .int .i64 f.par, .bool f.alone, .int .i64 f.prom, .int .i64 f.last, .int .i64 f.code, .int .i64 f.step] 30)) (some ⟨w6.heap.size, 0, none⟩) 1 1 [.int .i64 f.ty, .int .i64 f.fl, .int .i64 f.st, .int .i64 f.pad, .slice D dn dc, .slice S sn sc, .int .i64 f.wt, .int .i64 f.par, .bool f.alone, .int .i64 f.prom, .int .i64 f.last, .int .i64 f.code, .int .i64 f.step] (by rfl) rfl (fun h => by cases h) (Sees.born w6 30 #[.int .i64 f.ty, .int .i64 f.fl, .int .i64 f.st, .int .i64 f.pad, .slice D dn dc, .slice S sn sc, .int .i64 f.wt, .int .i64 f.par, .bool f.alone, .int .i64 f.prom, .int .i64 f.last, .int .i64 f.code, .int .i64 f.step] _) (oneF (l := [⟨f, D, dn, dc, S, sn, sc⟩])) (by unfold maxLen; omega) (by omega) (by first | (simp; done) | (have := ((HB6.out.alloc HB6.out.size (.cells #[.int .i64 f.ty, .int .i64 f.fl, .int .i64 f.st, .int .i64 f.pad, .slice D dn dc, .slice S sn sc, .int .i64 f.wt, .int .i64 f.par, .bool f.alone, .int .i64 f.prom, .int .i64 f.last, .int .i64 f.code, .int .i64 f.step] 30))).size; simpa using this)) ?_
            intro B2 c2 w7 ho hg hat
            have HB7 : Hid (Below w4.heap.size w4 w7) := hide (((HB6.out.alloc HB6.out.size (.cells #[.int .i64 f.ty, .int .i64 f.fl, .int .i64 f.st, .int .i64 f.pad, .slice D dn dc, .slice S sn sc, .int .i64 f.wt, .int .i64 f.par, .bool f.alone, .int .i64 f.prom, .int .i64 f.last, .int .i64 f.code, .int .i64 f.step] 30))).grown hg (by first | (simp; done) | (have := ((HB6.out.alloc HB6.out.size (.cells #[.int .i64 f.ty, .int .i64 f.fl, .int .i64 f.st, .int .i64 f.pad, .slice D dn dc, .slice S sn sc, .int .i64 f.wt, .int .i64 f.par, .bool f.alone, .int .i64 f.prom, .int .i64 f.last, .int .i64 f.code, .int .i64 f.step] 30))).size; simpa using this)) (fun j hj => own_row_ge (HO6.out.alloc (.cells #[.int .i64 f.ty, .int .i64 f.fl, .int .i64 f.st, .int .i64 f.pad, .slice D dn dc, .slice S sn sc, .int .i64 f.wt, .int .i64 f.par, .bool f.alone, .int .i64 f.prom, .int .i64 f.last, .int .i64 f.code, .int .i64 f.step] 30)) j hj))
            have ho2 : w7.ownsRow w4.heap.size 30 13 (.slice B2 (n + 1) c2) (n + 1) (cellsF l1) := by rw [← HL1.out, cellsF_snoc]; exact ho
            have HO7 := hide ho2
            clear ho ho2 hg hat
            refine hK.out _ _ (S0 _ HB7.out) (fun hHeld => ?_)
            clear hK
            try simp only [Act.put, List.getElem_toArray, List.getElem_cons_zero, List.getElem_cons_succ, List.setIfInBounds_toArray, List.set_cons_zero, List.set_cons_succ]
            refine wpAnyH_take (i := 6) (v := ?_) rfl (by kernel_rfl) (by kernel_rfl) (by kernel_rfl) (fun _ _ _ h => h) (Or.inl ⟨by rfl, ?hy⟩) (by assumption) ?_
            case hy => intro w hSw; (try dsimp only at hSw); go_simp; (try with_reducible rfl)
            try simp only [Act.put, List.getElem_toArray, List.getElem_cons_zero, List.getElem_cons_succ, List.setIfInBounds_toArray, List.set_cons_zero, List.set_cons_succ]
            refine wpAnyH_done (by kernel_rfl) ?_ _
            try refine NoPanic.normal ?_
            go_wp2_with fail
            go_meet
            exact ⟨B2, c2, rfl, HO7, HB7⟩
          · exact AllReadyH.nil
        · exact AllReadyH.nil
      refine AllReadyH.cons rfl (fun K' hK => ?_) ?_
      · go_simp
        refine hK.out _ _ (S0 _ (((Below.refl w4.heap.size w4).drew.alloc (by simp) (.cells #[] 30)).alloc (by simp) (.cells #[.int .i64 f.ty, .int .i64 f.fl, .int .i64 f.st, .int .i64 f.pad, .slice D dn dc, .slice S sn sc, .int .i64 f.wt, .int .i64 f.par, .bool f.alone, .int .i64 f.prom, .int .i64 f.last, .int .i64 f.code, .int .i64 f.step] 30))) (fun hHeld => ?_)
        clear hK
        try simp only [Act.put, List.getElem_toArray, List.getElem_cons_zero, List.getElem_cons_succ, List.setIfInBounds_toArray, List.set_cons_zero, List.set_cons_succ]
        refine wpAnyH_ready (rs := [2]) (by kernel_rfl) (by simp) ?_
        refine AllReadyH.cons rfl (fun K' hK => ?_) ?_
        · refine step_pour rfl (.tmp 25) (.tmp 26) 22 rfl w4.heap.size 30 13 info30 rfl (by decide) Try.underlying22 _ 0 [] (by rfl) ((own_none (w := w4.drew) w4.heap.size 30 13 (by simp)).alloc (.cells #[.int .i64 f.ty, .int .i64 f.fl, .int .i64 f.st, .int .i64 f.pad, .slice D dn dc, .slice S sn sc, .int .i64 f.wt, .int .i64 f.par, .bool f.alone, .int .i64 f.prom, .int .i64 f.last, .int .i64 f.code, .int .i64 f.step] 30)) A n c (cellsF l) (by rfl) (by rw [cellsF_length, HNUM.out]) HL.out.nn (HSA.out.kept (((Below.refl w4.heap.size w4).drew.alloc (by simp) (.cells #[] 30)).alloc (by simp) (.cells #[.int .i64 f.ty, .int .i64 f.fl, .int .i64 f.st, .int .i64 f.pad, .slice D dn dc, .slice S sn sc, .int .i64 f.wt, .int .i64 f.par, .bool f.alone, .int .i64 f.prom, .int .i64 f.last, .int .i64 f.code, .int .i64 f.step] 30))) oneF (by unfold maxLen; omega) (by omega) (by first | (simp; done) | (have := (((Below.refl w4.heap.size w4).drew.alloc (by simp) (.cells #[] 30)).alloc (by simp) (.cells #[.int .i64 f.ty, .int .i64 f.fl, .int .i64 f.st, .int .i64 f.pad, .slice D dn dc, .slice S sn sc, .int .i64 f.wt, .int .i64 f.par, .bool f.alone, .int .i64 f.prom, .int .i64 f.last, .int .i64 f.code, .int .i64 f.step] 30)).size; simpa using this)) ?_
          intro B1 c1 w6 ho hg hat
          simp only [Nat.zero_add, List.nil_append] at ho ⊢
          have HB6 : Hid (Below w4.heap.size w4 w6) := hide ((((Below.refl w4.heap.size w4).drew.alloc (by simp) (.cells #[] 30)).alloc (by simp) (.cells #[.int .i64 f.ty, .int .i64 f.fl, .int .i64 f.st, .int .i64 f.pad, .slice D dn dc, .slice S sn sc, .int .i64 f.wt, .int .i64 f.par, .bool f.alone, .int .i64 f.prom, .int .i64 f.last, .int .i64 f.code, .int .i64 f.step] 30)).grown hg (by first | (simp; done) | (have := (((Below.refl w4.heap.size w4).drew.alloc (by simp) (.cells #[] 30)).alloc (by simp) (.cells #[.int .i64 f.ty, .int .i64 f.fl, .int .i64 f.st, .int .i64 f.pad, .slice D dn dc, .slice S sn sc, .int .i64 f.wt, .int .i64 f.par, .bool f.alone, .int .i64 f.prom, .int .i64 f.last, .int .i64 f.code, .int .i64 f.step] 30)).size; simpa using this)) (fun j hj => own_row_ge ((own_none (w := w4.drew) w4.heap.size 30 13 (by simp)).alloc (.cells #[.int .i64 f.ty, .int .i64 f.fl, .int .i64 f.st, .int .i64 f.pad, .slice D dn dc, .slice S sn sc, .int .i64 f.wt, .int .i64 f.par, .bool f.alone, .int .i64 f.prom, .int .i64 f.last, .int .i64 f.code, .int .i64 f.step] 30)) j hj))
          have HO6 := hide ho
          have HS4 : Hid (Sees w6 (some ⟨w4.heap.size + 1, 0, none⟩) [.int .i64 f.ty, .int .i64 f.fl, .int .i64 f.st, .int .i64 f.pad, .slice D dn dc, .slice S sn sc, .int .i64 f.wt, .int .i64 f.par, .bool f.alone, .int .i64 f.prom, .int .i64 f.last, .int .i64 f.code, .int .i64 f.step]) := hide (by
            have h1 := Sees.born (w4.drew.alloc (.cells #[] 30)) 30 #[.int .i64 f.ty, .int .i64 f.fl, .int .i64 f.st, .int .i64 f.pad, .slice D dn dc, .slice S sn sc, .int .i64 f.wt, .int .i64 f.par, .bool f.alone, .int .i64 f.prom, .int .i64 f.last, .int .i64 f.code, .int .i64 f.step] (0, 0)
            have h2 := h1.grown hg (by intro b o e; injection e with e; injection e with e1 _; subst e1; simp [Value.ownBlock])
            simpa using h2)
          clear ho hg hat
          refine hK.out _ _ (S0 _ HB6.out) (fun hHeld => ?_)
          clear hK
          try simp only [Act.put, List.getElem_toArray, List.getElem_cons_zero, List.getElem_cons_succ, List.setIfInBounds_toArray, List.set_cons_zero, List.set_cons_succ]
          refine wpAnyH_ready (rs := [5]) (by kernel_rfl) (by simp) ?_
          refine AllReadyH.cons rfl (fun K' hK => ?_) ?_
          · refine step_pour rfl (.tmp 27) (.tmp 29) 22 rfl w4.heap.size 30 13 info30 rfl (by decide) Try.underlying22 _ n (cellsF l) (by rfl) (HO6.out) (some ⟨w4.heap.size + 1, 0, none⟩) 1 1 [.int .i64 f.ty, .int .i64 f.fl, .int .i64 f.st, .int .i64 f.pad, .slice D dn dc, .slice S sn sc, .int .i64 f.wt, .int .i64 f.par, .bool f.alone, .int .i64 f.prom, .int .i64 f.last, .int .i64 f.code, .int .i64 f.step] (by rfl) rfl (fun h => by cases h) (HS4.out) (oneF (l := [⟨f, D, dn, dc, S, sn, sc⟩])) (by unfold maxLen; omega) (by omega) (by first | (simp; done) | (have := (HB6.out).size; simpa using this)) ?_
            intro B2 c2 w7 ho hg hat
            have HB7 : Hid (Below w4.heap.size w4 w7) := hide ((HB6.out).grown hg (by first | (simp; done) | (have := (HB6.out).size; simpa using this)) (fun j hj => own_row_ge (HO6.out) j hj))
            have ho2 : w7.ownsRow w4.heap.size 30 13 (.slice B2 (n + 1) c2) (n + 1) (cellsF l1) := by rw [← HL1.out, cellsF_snoc]; exact ho
            have HO7 := hide ho2
            clear ho ho2 hg hat
            refine hK.out _ _ (S0 _ HB7.out) (fun hHeld => ?_)
            clear hK
            try simp only [Act.put, List.getElem_toArray, List.getElem_cons_zero, List.getElem_cons_succ, List.setIfInBounds_toArray, List.set_cons_zero, List.set_cons_succ]
            refine wpAnyH_take (i := 6) (v := ?_) rfl (by kernel_rfl) (by kernel_rfl) (by kernel_rfl) (fun _ _ _ h => h) (Or.inl ⟨by rfl, ?hy⟩) (by assumption) ?_
            case hy => intro w hSw; (try dsimp only at hSw); go_simp; (try with_reducible rfl)
            try simp only [Act.put, List.getElem_toArray, List.getElem_cons_zero, List.getElem_cons_succ, List.setIfInBounds_toArray, List.set_cons_zero, List.set_cons_succ]
            refine wpAnyH_done (by kernel_rfl) ?_ _
            try refine NoPanic.normal ?_
            go_wp2_with fail
            go_meet
            exact ⟨B2, c2, rfl, HO7, HB7⟩
          · exact AllReadyH.nil
        · exact AllReadyH.nil
      · exact AllReadyH.nil
    refine AllReadyH.cons rfl (fun K' hK => ?_) ?_
    · go_simp
      refine hK.out _ _ (S0 _ (((Below.refl w4.heap.size w4).drew.alloc (by simp) (.cells #[.int .i64 f.ty, .int .i64 f.fl, .int .i64 f.st, .int .i64 f.pad, .slice D dn dc, .slice S sn sc, .int .i64 f.wt, .int .i64 f.par, .bool f.alone, .int .i64 f.prom, .int .i64 f.last, .int .i64 f.code, .int .i64 f.step] 30)))) (fun hHeld => ?_)
      clear hK
      try simp only [Act.put, List.getElem_toArray, List.getElem_cons_zero, List.getElem_cons_succ, List.setIfInBounds_toArray, List.set_cons_zero, List.set_cons_succ]
      refine wpAnyH_ready (rs := [0]) (by kernel_rfl) (by simp) ?_
      refine AllReadyH.cons rfl (fun K' hK => ?_) ?_
      · go_simp
        refine hK.out _ _ (S0 _ (((Below.refl w4.heap.size w4).drew.alloc (by simp) (.cells #[.int .i64 f.ty, .int .i64 f.fl, .int .i64 f.st, .int .i64 f.pad, .slice D dn dc, .slice S sn sc, .int .i64 f.wt, .int .i64 f.par, .bool f.alone, .int .i64 f.prom, .int .i64 f.last, .int .i64 f.code, .int .i64 f.step] 30)).alloc (by simp) (.cells #[] 30))) (fun hHeld => ?_)
        clear hK
        try simp only [Act.put, List.getElem_toArray, List.getElem_cons_zero, List.getElem_cons_succ, List.setIfInBounds_toArray, List.set_cons_zero, List.set_cons_succ]
        refine wpAnyH_ready (rs := [2]) (by kernel_rfl) (by simp) ?_
        refine AllReadyH.cons rfl (fun K' hK => ?_) ?_
        have HOB : Hid (((w4.drew.alloc (.cells #[.int .i64 f.ty, .int .i64 f.fl, .int .i64 f.st, .int .i64 f.pad, .slice D dn dc, .slice S sn sc, .int .i64 f.wt, .int .i64 f.par, .bool f.alone, .int .i64 f.prom, .int .i64 f.last, .int .i64 f.code, .int .i64 f.step] 30)).alloc (.cells #[] 30)).ownsRow w4.heap.size 30 13 (.slice (some ⟨w4.heap.size + 1, 0, none⟩) 0 0) 0 []) := hide (by simpa using own_none (w := w4.drew.alloc (.cells #[.int .i64 f.ty, .int .i64 f.fl, .int .i64 f.st, .int .i64 f.pad, .slice D dn dc, .slice S sn sc, .int .i64 f.wt, .int .i64 f.par, .bool f.alone, .int .i64 f.prom, .int .i64 f.last, .int .i64 f.code, .int .i64 f.step] 30)) w4.heap.size 30 13 (by simp))
        · refine step_pour rfl (.tmp 25) (.tmp 26) 22 rfl w4.heap.size 30 13 info30 rfl (by decide) Try.underlying22 _ 0 [] (by rfl) (HOB.out) A n c (cellsF l) (by rfl) (by rw [cellsF_length, HNUM.out]) HL.out.nn (HSA.out.kept (((Below.refl w4.heap.size w4).drew.alloc (by simp) (.cells #[.int .i64 f.ty, .int .i64 f.fl, .int .i64 f.st, .int .i64 f.pad, .slice D dn dc, .slice S sn sc, .int .i64 f.wt, .int .i64 f.par, .bool f.alone, .int .i64 f.prom, .int .i64 f.last, .int .i64 f.code, .int .i64 f.step] 30)).alloc (by simp) (.cells #[] 30))) oneF (by unfold maxLen; omega) (by omega) (by first | (simp; done) | (have := (((Below.refl w4.heap.size w4).drew.alloc (by simp) (.cells #[.int .i64 f.ty, .int .i64 f.fl, .int .i64 f.st, .int .i64 f.pad, .slice D dn dc, .slice S sn sc, .int .i64 f.wt, .int .i64 f.par, .bool f.alone, .int .i64 f.prom, .int .i64 f.last, .int .i64 f.code, .int .i64 f.step] 30)).alloc (by simp) (.cells #[] 30)).size; simpa using this)) ?_
          intro B1 c1 w6 ho hg hat
          simp only [Nat.zero_add, List.nil_append] at ho ⊢
          have HB6 : Hid (Below w4.heap.size w4 w6) := hide ((((Below.refl w4.heap.size w4).drew.alloc (by simp) (.cells #[.int .i64 f.ty, .int .i64 f.fl, .int .i64 f.st, .int .i64 f.pad, .slice D dn dc, .slice S sn sc, .int .i64 f.wt, .int .i64 f.par, .bool f.alone, .int .i64 f.prom, .int .i64 f.last, .int .i64 f.code, .int .i64 f.step] 30)).alloc (by simp) (.cells #[] 30)).grown hg (by first | (simp; done) | (have := (((Below.refl w4.heap.size w4).drew.alloc (by simp) (.cells #[.int .i64 f.ty, .int .i64 f.fl, .int .i64 f.st, .int .i64 f.pad, .slice D dn dc, .slice S sn sc, .int .i64 f.wt, .int .i64 f.par, .bool f.alone, .int .i64 f.prom, .int .i64 f.last, .int .i64 f.code, .int .i64 f.step] 30)).alloc (by simp) (.cells #[] 30)).size; simpa using this)) (fun j hj => own_row_ge (HOB.out) j hj))
          have HO6 := hide ho
          have HS4 : Hid (Sees w6 (some ⟨w4.heap.size, 0, none⟩) [.int .i64 f.ty, .int .i64 f.fl, .int .i64 f.st, .int .i64 f.pad, .slice D dn dc, .slice S sn sc, .int .i64 f.wt, .int .i64 f.par, .bool f.alone, .int .i64 f.prom, .int .i64 f.last, .int .i64 f.code, .int .i64 f.step]) := hide (by
            have h1 := (Sees.born w4.drew 30 #[.int .i64 f.ty, .int .i64 f.fl, .int .i64 f.st, .int .i64 f.pad, .slice D dn dc, .slice S sn sc, .int .i64 f.wt, .int .i64 f.par, .bool f.alone, .int .i64 f.prom, .int .i64 f.last, .int .i64 f.code, .int .i64 f.step] (0, 0)).alloc (.cells #[] 30)
            have h2 := h1.grown hg (by intro b o e; injection e with e; injection e with e1 _; subst e1; simp [Value.ownBlock])
            simpa using h2)
          clear ho hg hat
          refine hK.out _ _ (S0 _ HB6.out) (fun hHeld => ?_)
          clear hK
          try simp only [Act.put, List.getElem_toArray, List.getElem_cons_zero, List.getElem_cons_succ, List.setIfInBounds_toArray, List.set_cons_zero, List.set_cons_succ]
          refine wpAnyH_ready (rs := [5]) (by kernel_rfl) (by simp) ?_
          refine AllReadyH.cons rfl (fun K' hK => ?_) ?_
          · refine step_pour rfl (.tmp 27) (.tmp 29) 22 rfl w4.heap.size 30 13 info30 rfl (by decide) Try.underlying22 _ n (cellsF l) (by rfl) (HO6.out) (some ⟨w4.heap.size, 0, none⟩) 1 1 [.int .i64 f.ty, .int .i64 f.fl, .int .i64 f.st, .int .i64 f.pad, .slice D dn dc, .slice S sn sc, .int .i64 f.wt, .int .i64 f.par, .bool f.alone, .int .i64 f.prom, .int .i64 f.last, .int .i64 f.code, .int .i64 f.step] (by rfl) rfl (fun h => by cases h) (HS4.out) (oneF (l := [⟨f, D, dn, dc, S, sn, sc⟩])) (by unfold maxLen; omega) (by omega) (by first | (simp; done) | (have := (HB6.out).size; simpa using this)) ?_
            intro B2 c2 w7 ho hg hat
            have HB7 : Hid (Below w4.heap.size w4 w7) := hide ((HB6.out).grown hg (by first | (simp; done) | (have := (HB6.out).size; simpa using this)) (fun j hj => own_row_ge (HO6.out) j hj))
            have ho2 : w7.ownsRow w4.heap.size 30 13 (.slice B2 (n + 1) c2) (n + 1) (cellsF l1) := by rw [← HL1.out, cellsF_snoc]; exact ho
            have HO7 := hide ho2
            clear ho ho2 hg hat
            refine hK.out _ _ (S0 _ HB7.out) (fun hHeld => ?_)
            clear hK
            try simp only [Act.put, List.getElem_toArray, List.getElem_cons_zero, List.getElem_cons_succ, List.setIfInBounds_toArray, List.set_cons_zero, List.set_cons_succ]
            refine wpAnyH_take (i := 6) (v := ?_) rfl (by kernel_rfl) (by kernel_rfl) (by kernel_rfl) (fun _ _ _ h => h) (Or.inl ⟨by rfl, ?hy⟩) (by assumption) ?_
            case hy => intro w hSw; (try dsimp only at hSw); go_simp; (try with_reducible rfl)
            try simp only [Act.put, List.getElem_toArray, List.getElem_cons_zero, List.getElem_cons_succ, List.setIfInBounds_toArray, List.set_cons_zero, List.set_cons_succ]
            refine wpAnyH_done (by kernel_rfl) ?_ _
            try refine NoPanic.normal ?_
            go_wp2_with fail
            go_meet
            exact ⟨B2, c2, rfl, HO7, HB7⟩
          · exact AllReadyH.nil
        · exact AllReadyH.nil
      · exact AllReadyH.nil
    · exact AllReadyH.nil
  case rest =>
    obtain ⟨B, c5, rfl, HO5, HB5'⟩ := hcut
    have HB5 := hide (below_nextB HB4.out HB4.out.size HB5'.out)
    have HF5 := hide (HF4.out.kept HB5'.out)
    have HR5 := hide (HR4.out.kept HB5'.out)
    have HWC := hide HB5.out.size
    have HWC2 : Hid (w4.heap.size ≤ wc.heap.size) := hide HB5'.out.size
    have HRL : Hid (r < w4.heap.size ∧ w.heap.size ≤ r ∧ w.heap.size ≤ w4.heap.size) := hide ⟨HR4.out.lt, by have := HN.out; omega, HB4.out.size⟩
    have HM5 : Hid (RowF wc (fun g => (K g ∧ g < w.heap.size) ∨ w4.heap.size ≤ g) B (n + 1) c5 l1) := hide (by
      refine own_rowF HO5.out (fun g hg => .inr hg) (fun x hx => ?_)
      rw [← HL1.out, List.mem_append, List.mem_singleton] at hx
      rcases hx with hx | rfl
      · exact FS.kept (FS.mono (HL.out.ok x hx) (fun g hgl hg => .inl ⟨hg, hgl⟩)) HB5.out
      · exact FS.kept (FS.mono HFS.out (fun g hgl hg => .inl ⟨hg, hgl⟩)) HB5.out)
    obtain ⟨fs1, hfs1⟩ : ∃ fs1, l1.map (·.f) = fs1 := ⟨_, rfl⟩
    have HFS1 := hide hfs1
    have HLN : Hid (l1.length = n + 1) := hide (by rw [← HL1.out, List.length_append, HNUM.out]; rfl)
    have HALL : Hid (allD fs1 = allD (l.map (·.f)) ++ f.data) := hide (by rw [← hfs1, ← HL1.out, List.map_append]; exact allD_snoc _ _)
    have HTOT : Hid ((allD fs1).length ≤ 1000000) := hide (by rw [HALL.out, List.length_append, HFS.out.dl]; exact HSZ.out)
    clear hfs1 HB5' HF4 HR4 HB4 HO5 SS HSA
    clear z0 z1 z2 z3 z4 z5 z6 z7 z8 z9 z10 z11 z12
    go_wp2_with fail
    go_loopw [11, 12] (fun ov iv wr => ∃ (i m cb : Nat) (D1 : Option Addr), ov = .slice D1 m cb ∧ iv = .int .i64 (i : Nat) ∧ i ≤ n + 1 ∧ Hid ((allD (fs1.take i)).length = m) ∧ Hid (wr.ownsRow wc.heap.size 5 1 (.slice D1 m cb) m (u8s (allD (fs1.take i)))) ∧ Hid (Below wc.heap.size wc wr)) (fun _ iv _ => n + 1 - (intOf iv).toNat)
    case atStart => exact ⟨0, 0, 0, none, rfl, rfl, Nat.zero_le _, hide rfl, hide (World.ownsRow_nil _ _ _ _), hide (Below.refl _ _)⟩
    case round =>
      obtain ⟨i, m, cb, D1, rfl, rfl, hi, HMM, HO, HW⟩ := hrel
      by_cases hlt : i < n + 1
      · have hil : i < l1.length := by have := HLN.out; omega
        obtain ⟨x, hx⟩ : ∃ x, l1[i]? = some x := ⟨_, List.getElem?_eq_getElem hil⟩
        obtain ⟨gm, om, rfl, _, hcs⟩ := (HM5.out.kept HW.out).at hx
        have x4 : wr.cell? ⟨gm, om + i * 13 + 4, none⟩ = some (.slice x.D x.dn x.dc) := by rw [Nat.add_assoc]; exact hcs 4 _ rfl
        have HOK := hide ((HM5.out.kept HW.out).ok x (List.mem_of_getElem? hx))
        have HJ : Hid (allD (fs1.take (i + 1)) = allD (fs1.take i) ++ x.f.data) := hide (allD_take (by rw [← HFS1.out, List.getElem?_map, hx]; rfl))
        have hm1 : m + x.dn ≤ 1000000 := by
          have h1 := HJ.out
          have h2 : (allD (fs1.take (i + 1))).length ≤ (allD fs1).length := by
            conv => rhs; rw [← List.take_append_drop (i + 1) fs1]
            unfold allD
            rw [List.flatMap_append, List.length_append]
            omega
          rw [h1, List.length_append, HMM.out, HOK.out.dl] at h2
          have := HTOT.out
          omega
        have i1 : (i : Int) < (n : Int) + 1 := by omega
        have i3 : (0 : Int) ≤ (i : Int) := by omega
        clear hcs hx hil
        go_wp2_with (at_builtin; go_loud (refine wpList_pour rfl (.tmp 37) (.tmp 42) 27 rfl wc.heap.size 5 1 info5 rfl (by decide) Try.underlying27 _ m _ rfl HO.out x.D x.dn x.dc (u8s x.f.data) rfl (by rw [u8s_length, HOK.out.dl, Nat.mul_one]) HOK.out.d.nn HOK.out.d.sees.sees oneB (by unfold maxLen; omega) (by omega) HW.out.size ?_))
        intro D2 c2 w2 ho hg
        rw [← u8s_append] at ho
        have HO2 := hide ho
        have HB2 := hide (HW.out.grown hg HW.out.size (own_row_ge HO.out))
        clear ho hg
        go_wp2_with fail
        go_roundw
        case rel => exact ⟨i + 1, m + x.dn, c2, D2, rfl, by go_num, by omega, hide (by rw [HJ.out, List.length_append, HMM.out, HOK.out.dl]), hide (by rw [HJ.out]; exact HO2.out), HB2⟩
        case measure => simp [intOf]; omega
      · obtain rfl : i = n + 1 := by omega
        have HE : Hid (fs1.take (n + 1) = fs1) := hide (List.take_of_length_le (by have := HLN.out; rw [← HFS1.out, List.length_map]; omega))
        have HO6 : Hid (wr.ownsRow wc.heap.size 5 1 (.slice D1 m cb) m (u8s (allD (l.map (·.f)) ++ f.data))) := hide (by have := HO.out; rw [HE.out, HALL.out] at this; exact this)
        have HM6 : Hid ((allD (l.map (·.f)) ++ f.data).length = m) := hide (by have := HMM.out; rw [HE.out, HALL.out] at this; exact this)
        have HRW := hide (HM5.out.kept HW.out)
        have hm1 : m ≤ 1000000 := by have := HMM.out; rw [HE.out] at this; have := HTOT.out; omega
        have HB6 := hide (below_nextB HB5.out HB5.out.size HW.out)
        have HF6 := hide (HF5.out.kept HW.out)
        have HR6 := hide (HR5.out.kept HW.out)
        clear HO HMM HE HALL HTOT HB5 HF5 HR5 HM5
        have i9 : ¬ ((n : Int) + 1 < (n : Int) + 1) := by omega
        have z0 : wr.cell? ⟨bx, 0, none⟩ = some (.int .i64 f.ty) := HF6.out.cell 0
        have z1 : wr.cell? ⟨bx, 1, none⟩ = some (.int .i64 f.fl) := HF6.out.cell 1
        have z2 : wr.cell? ⟨bx, 2, none⟩ = some (.int .i64 f.st) := HF6.out.cell 2
        have z3 : wr.cell? ⟨bx, 3, none⟩ = some (.int .i64 f.pad) := HF6.out.cell 3
        have z4 : wr.cell? ⟨bx, 4, none⟩ = some (.slice D dn dc) := HF6.out.cell 4
        have z5 : wr.cell? ⟨bx, 5, none⟩ = some (.slice S sn sc) := HF6.out.cell 5
        have z6 : wr.cell? ⟨bx, 6, none⟩ = some (.int .i64 f.wt) := HF6.out.cell 6
        have z7 : wr.cell? ⟨bx, 7, none⟩ = some (.int .i64 f.par) := HF6.out.cell 7
        have z8 : wr.cell? ⟨bx, 8, none⟩ = some (.bool f.alone) := HF6.out.cell 8
        have z9 : wr.cell? ⟨bx, 9, none⟩ = some (.int .i64 f.prom) := HF6.out.cell 9
        have z10 : wr.cell? ⟨bx, 10, none⟩ = some (.int .i64 f.last) := HF6.out.cell 10
        have z11 : wr.cell? ⟨bx, 11, none⟩ = some (.int .i64 f.code) := HF6.out.cell 11
        have z12 : wr.cell? ⟨bx, 12, none⟩ = some (.int .i64 f.step) := HF6.out.cell 12
        by_cases hlong : most < (m : Nat) ∧ 0 < m
        · have HLG := hide hlong
          have h1 : (m : Int) > most := hlong.1
          have h2 : (m : Int) > 0 := by omega
          clear hlong
          obtain ⟨W9, hW9⟩ : ∃ W9, wr.setRow r #[.int .i64 0, .int .i64 0, .int .i64 0, .int .i64 0, .slice none 0 0, .slice none 0 0, .int .i64 0, .int .i64 0, .bool false, .int .i64 0, .int .i64 0, .int .i64 0, .int .i64 0] = W9 := ⟨_, rfl⟩
          have HR9 : Hid (Blk W9 r 30 #[.int .i64 0, .int .i64 0, .int .i64 0, .int .i64 0, .slice none 0 0, .slice none 0 0, .int .i64 0, .int .i64 0, .bool false, .int .i64 0, .int .i64 0, .int .i64 0, .int .i64 0]) := hide (by rw [← hW9]; exact HR6.out.setRow _)
          have O9 : Hid (Only [r] wr W9) := hide (by rw [← hW9]; exact Only.setRow _ _ _ (List.mem_singleton.2 rfl))
          have HB9 : Hid (Below w.heap.size w W9) := hide (by
            have h1 := HB6.out
            exact h1.trans (O9.out.below h1.size (fun b hb => by rw [List.mem_singleton.1 hb]; have := HN.out; omega)))
          have r0 : W9.cell? ⟨r, 0, none⟩ = some (.int .i64 0) := HR9.out.cell 0
          have r1 : W9.cell? ⟨r, 1, none⟩ = some (.int .i64 0) := HR9.out.cell 1
          have r2 : W9.cell? ⟨r, 2, none⟩ = some (.int .i64 0) := HR9.out.cell 2
          have r3 : W9.cell? ⟨r, 3, none⟩ = some (.int .i64 0) := HR9.out.cell 3
          have r4 : W9.cell? ⟨r, 4, none⟩ = some (.slice none 0 0) := HR9.out.cell 4
          have r5 : W9.cell? ⟨r, 5, none⟩ = some (.slice none 0 0) := HR9.out.cell 5
          have r6 : W9.cell? ⟨r, 6, none⟩ = some (.int .i64 0) := HR9.out.cell 6
          have r7 : W9.cell? ⟨r, 7, none⟩ = some (.int .i64 0) := HR9.out.cell 7
          have r8 : W9.cell? ⟨r, 8, none⟩ = some (.bool false) := HR9.out.cell 8
          have r9 : W9.cell? ⟨r, 9, none⟩ = some (.int .i64 0) := HR9.out.cell 9
          have r10 : W9.cell? ⟨r, 10, none⟩ = some (.int .i64 0) := HR9.out.cell 10
          have r11 : W9.cell? ⟨r, 11, none⟩ = some (.int .i64 0) := HR9.out.cell 11
          have r12 : W9.cell? ⟨r, 12, none⟩ = some (.int .i64 0) := HR9.out.cell 12
          go_wp2_with (((with_reducible refine wpList_store_row (o := { dst := none, op := .store 30 (.tmp 7) (.tmp 54), type := _, pos := _, after := _, guard := none }) rfl 30 (.tmp 7) (.tmp 54) rfl r #[.int .i64 0, .int .i64 0, .int .i64 0, .int .i64 0, .slice none 0 0, .slice none 0 0, .int .i64 0, .int .i64 0, .bool false, .int .i64 0, .int .i64 0, .int .i64 0, .int .i64 0] ?_ ?_ 30 #[.int .i64 0, .int .i64 0, .int .i64 0, .int .i64 0, .slice none 0 0, .slice none 0 0, .int .i64 0, .int .i64 0, .bool false, .int .i64 0, .int .i64 0, .int .i64 0, .int .i64 0] ?_ ?_ ?_ ?_ ?_); rfl; rfl; exact HR6.out; kernel_rfl; rfl; simp [Value.oneCell']))
          try rw [hW9]
          refine bodyPost_ret (v := .tuple #[.slice A n c, .agg #[.int .i64 0, .int .i64 0, .int .i64 0, .int .i64 0, .slice none 0 0, .slice none 0 0, .int .i64 0, .int .i64 0, .bool false, .int .i64 0, .int .i64 0, .int .i64 0, .int .i64 0], .bool false, .int .i64 9]) (by simp [results, Try.results12, go_sem, r0, r1, r2, r3, r4, r5, r6, r7, r8, r9, r10, r11, r12]) rfl ⟨HB9.out, .inl ⟨by dsimp only; rw [HM6.out]; exact HLG.out, rfl⟩⟩
        · have HLG := hide hlong
          have hsub : ¬ ((m : Int) > most) ∨ ((m : Int) > most ∧ m = 0) := by
            by_cases h : (m : Int) > most
            · right; refine ⟨h, ?_⟩; by_cases h0 : 0 < m; · exact absurd ⟨h, h0⟩ hlong
              · omega
            · exact .inl h
          clear hlong
          rcases hsub with h1 | ⟨h1, h2'⟩
          · skip
            cases hh : hasB f.ty f.fl 4
            · have HQ := hide hh
              have HC := HENDS wr
              rw [hh] at HC
              clear hh
              go_wp2_with fail
              refine HC.out.mono ?_
              rintro e w7 ⟨rfl, hb⟩
              have HB7 := hide (below_nextB HB6.out HB6.out.size hb)
              have HR7 := hide (HR6.out.kept hb)
              have HRW7 := hide (HRW.out.kept hb)
              clear hb
              obtain ⟨W9, hW9⟩ : ∃ W9, w7.setRow r #[.int .i64 0, .int .i64 0, .int .i64 0, .int .i64 0, .slice none 0 0, .slice none 0 0, .int .i64 0, .int .i64 0, .bool false, .int .i64 0, .int .i64 0, .int .i64 0, .int .i64 0] = W9 := ⟨_, rfl⟩
              have HR9 : Hid (Blk W9 r 30 #[.int .i64 0, .int .i64 0, .int .i64 0, .int .i64 0, .slice none 0 0, .slice none 0 0, .int .i64 0, .int .i64 0, .bool false, .int .i64 0, .int .i64 0, .int .i64 0, .int .i64 0]) := hide (by rw [← hW9]; exact HR7.out.setRow _)
              have O9 : Hid (Only [r] w7 W9) := hide (by rw [← hW9]; exact Only.setRow _ _ _ (List.mem_singleton.2 rfl))
              have HB9 : Hid (Below w.heap.size w W9) := hide (by
                have h1 := HB7.out
                exact h1.trans (O9.out.below h1.size (fun b hb => by rw [List.mem_singleton.1 hb]; have := HN.out; omega)))
              have r0 : W9.cell? ⟨r, 0, none⟩ = some (.int .i64 0) := HR9.out.cell 0
              have r1 : W9.cell? ⟨r, 1, none⟩ = some (.int .i64 0) := HR9.out.cell 1
              have r2 : W9.cell? ⟨r, 2, none⟩ = some (.int .i64 0) := HR9.out.cell 2
              have r3 : W9.cell? ⟨r, 3, none⟩ = some (.int .i64 0) := HR9.out.cell 3
              have r4 : W9.cell? ⟨r, 4, none⟩ = some (.slice none 0 0) := HR9.out.cell 4
              have r5 : W9.cell? ⟨r, 5, none⟩ = some (.slice none 0 0) := HR9.out.cell 5
              have r6 : W9.cell? ⟨r, 6, none⟩ = some (.int .i64 0) := HR9.out.cell 6
              have r7 : W9.cell? ⟨r, 7, none⟩ = some (.int .i64 0) := HR9.out.cell 7
              have r8 : W9.cell? ⟨r, 8, none⟩ = some (.bool false) := HR9.out.cell 8
              have r9 : W9.cell? ⟨r, 9, none⟩ = some (.int .i64 0) := HR9.out.cell 9
              have r10 : W9.cell? ⟨r, 10, none⟩ = some (.int .i64 0) := HR9.out.cell 10
              have r11 : W9.cell? ⟨r, 11, none⟩ = some (.int .i64 0) := HR9.out.cell 11
              have r12 : W9.cell? ⟨r, 12, none⟩ = some (.int .i64 0) := HR9.out.cell 12
              go_wp2_with (((with_reducible refine wpList_store_row (o := { dst := none, op := .store 30 (.tmp 7) (.tmp 59), type := _, pos := _, after := _, guard := none }) rfl 30 (.tmp 7) (.tmp 59) rfl r #[.int .i64 0, .int .i64 0, .int .i64 0, .int .i64 0, .slice none 0 0, .slice none 0 0, .int .i64 0, .int .i64 0, .bool false, .int .i64 0, .int .i64 0, .int .i64 0, .int .i64 0] ?_ ?_ 30 #[.int .i64 0, .int .i64 0, .int .i64 0, .int .i64 0, .slice none 0 0, .slice none 0 0, .int .i64 0, .int .i64 0, .bool false, .int .i64 0, .int .i64 0, .int .i64 0, .int .i64 0] ?_ ?_ ?_ ?_ ?_); rfl; rfl; exact HR7.out; kernel_rfl; rfl; simp [Value.oneCell']))
              try rw [hW9]
              refine bodyPost_ret (v := .tuple #[.slice B (n + 1) c5, .agg #[.int .i64 0, .int .i64 0, .int .i64 0, .int .i64 0, .slice none 0 0, .slice none 0 0, .int .i64 0, .int .i64 0, .bool false, .int .i64 0, .int .i64 0, .int .i64 0, .int .i64 0], .bool false, .int .i64 0]) (by simp [results, Try.results12, go_sem, r0, r1, r2, r3, r4, r5, r6, r7, r8, r9, r10, r11, r12]) rfl ⟨HB9.out, .inr (.inl ⟨by dsimp only; rw [HM6.out]; exact HLG.out, HQ.out, B, c5, rfl, by rw [HL1.out]; exact (HRW7.out.only O9.out (fun g hg hm => by have h1 := HRL.out; rw [List.mem_singleton.1 hm] at hg; rcases hg with hg | hg <;> omega)).mono (fun g _ hg => by have h1 := HRL.out; rcases hg with hg | hg; exact .inl hg.1; exact .inr (by omega))⟩)⟩
            · have HQ := hide hh
              have HC := HENDS wr
              rw [hh] at HC
              clear hh
              obtain ⟨y, hy⟩ : ∃ y, l1[0]? = some y := ⟨_, List.getElem?_eq_getElem (by have := HLN.out; omega)⟩
              have HY := hide hy
              go_wp2_with fail
              refine HC.out.mono ?_
              rintro e w7 ⟨rfl, hb⟩
              have HB7 := hide (below_nextB HB6.out HB6.out.size hb)
              have HR7 := hide (HR6.out.kept hb)
              obtain ⟨gm, om, rfl, _, hcs⟩ := (HRW.out.kept hb).at hy
              have HO7 := hide (own_kept HO6.out hb)
              have HSZ7 : Hid (w.heap.size ≤ wc.heap.size) := hide (by have h1 := HWC.out; exact h1)
              clear hb hy
              have y0 : w7.cell? ⟨gm, om, none⟩ = some (.int .i64 y.f.ty) := by have := hcs 0 _ rfl; simpa using this
              have y1 : w7.cell? ⟨gm, om + 1, none⟩ = some (.int .i64 y.f.fl) := by have := hcs 1 _ rfl; rwa [Nat.zero_mul, Nat.zero_add] at this
              have y2 : w7.cell? ⟨gm, om + 2, none⟩ = some (.int .i64 y.f.st) := by have := hcs 2 _ rfl; rwa [Nat.zero_mul, Nat.zero_add] at this
              have y3 : w7.cell? ⟨gm, om + 3, none⟩ = some (.int .i64 y.f.pad) := by have := hcs 3 _ rfl; rwa [Nat.zero_mul, Nat.zero_add] at this
              have y4 : w7.cell? ⟨gm, om + 4, none⟩ = some (.slice y.D y.dn y.dc) := by have := hcs 4 _ rfl; rwa [Nat.zero_mul, Nat.zero_add] at this
              have y5 : w7.cell? ⟨gm, om + 5, none⟩ = some (.slice y.S y.sn y.sc) := by have := hcs 5 _ rfl; rwa [Nat.zero_mul, Nat.zero_add] at this
              have y6 : w7.cell? ⟨gm, om + 6, none⟩ = some (.int .i64 y.f.wt) := by have := hcs 6 _ rfl; rwa [Nat.zero_mul, Nat.zero_add] at this
              have y7 : w7.cell? ⟨gm, om + 7, none⟩ = some (.int .i64 y.f.par) := by have := hcs 7 _ rfl; rwa [Nat.zero_mul, Nat.zero_add] at this
              have y8 : w7.cell? ⟨gm, om + 8, none⟩ = some (.bool y.f.alone) := by have := hcs 8 _ rfl; rwa [Nat.zero_mul, Nat.zero_add] at this
              have y9 : w7.cell? ⟨gm, om + 9, none⟩ = some (.int .i64 y.f.prom) := by have := hcs 9 _ rfl; rwa [Nat.zero_mul, Nat.zero_add] at this
              have y10 : w7.cell? ⟨gm, om + 10, none⟩ = some (.int .i64 y.f.last) := by have := hcs 10 _ rfl; rwa [Nat.zero_mul, Nat.zero_add] at this
              have y11 : w7.cell? ⟨gm, om + 11, none⟩ = some (.int .i64 y.f.code) := by have := hcs 11 _ rfl; rwa [Nat.zero_mul, Nat.zero_add] at this
              have y12 : w7.cell? ⟨gm, om + 12, none⟩ = some (.int .i64 y.f.step) := by have := hcs 12 _ rfl; rwa [Nat.zero_mul, Nat.zero_add] at this
              clear hcs
              obtain ⟨W8, hW8⟩ : ∃ W8, w7.alloc (.cells #[.int .i64 y.f.ty, .int .i64 y.f.fl, .int .i64 y.f.st, .int .i64 y.f.pad, .slice y.D y.dn y.dc, .slice y.S y.sn y.sc, .int .i64 y.f.wt, .int .i64 y.f.par, .bool y.f.alone, .int .i64 y.f.prom, .int .i64 y.f.last, .int .i64 y.f.code, .int .i64 y.f.step] 30) = W8 := ⟨_, rfl⟩
              obtain ⟨u, hu⟩ : ∃ u, w7.heap.size = u := ⟨_, rfl⟩
              have HT8 : Hid (Blk W8 u 30 #[.int .i64 y.f.ty, .int .i64 y.f.fl, .int .i64 y.f.st, .int .i64 y.f.pad, .slice y.D y.dn y.dc, .slice y.S y.sn y.sc, .int .i64 y.f.wt, .int .i64 y.f.par, .bool y.f.alone, .int .i64 y.f.prom, .int .i64 y.f.last, .int .i64 y.f.code, .int .i64 y.f.step]) := hide (by rw [← hW8, ← hu]; exact Blk.born w7 30 _)
              have HR8 : Hid (Blk W8 r 30 #[.int .i64 0, .int .i64 0, .int .i64 0, .int .i64 0, .slice none 0 0, .slice none 0 0, .int .i64 0, .int .i64 0, .bool false, .int .i64 0, .int .i64 0, .int .i64 0, .int .i64 0]) := hide (by rw [← hW8]; exact HR7.out.alloc _)
              have HNU : Hid (r ≠ u ∧ w.heap.size ≤ u) := hide (by have h1 := HR7.out.lt; have h2 := HB7.out.size; omega)
              have u4 : W8.frozen? ⟨u, 4, none⟩ = false := HT8.out.free 4
              have v4 : W8.cell? ⟨u, 4, none⟩ = some (.slice y.D y.dn y.dc) := HT8.out.cell 4
              obtain ⟨W9, hW9⟩ : ∃ W9, W8.setCell ⟨u, 4, none⟩ (.slice D1 m cb) = W9 := ⟨_, rfl⟩
              have HT9 : Hid (Blk W9 u 30 #[.int .i64 y.f.ty, .int .i64 y.f.fl, .int .i64 y.f.st, .int .i64 y.f.pad, .slice D1 m cb, .slice y.S y.sn y.sc, .int .i64 y.f.wt, .int .i64 y.f.par, .bool y.f.alone, .int .i64 y.f.prom, .int .i64 y.f.last, .int .i64 y.f.code, .int .i64 y.f.step]) := hide (by rw [← hW9]; exact HT8.out.store 4 _)
              have HR9' : Hid (Blk W9 r 30 #[.int .i64 0, .int .i64 0, .int .i64 0, .int .i64 0, .slice none 0 0, .slice none 0 0, .int .i64 0, .int .i64 0, .bool false, .int .i64 0, .int .i64 0, .int .i64 0, .int .i64 0]) := hide (by rw [← hW9]; exact HR8.out.aside HNU.out.1 _)
              have O9' : Hid (Only [u] w7 W9) := hide (by
                have h1 : Only [u] w7 W8 := by rw [← hW8]; exact Only.alloc _ _
                have h2 : Only [u] W8 W9 := by rw [← hW9]; exact Only.store (p := ⟨u, 4, none⟩) _ (List.mem_singleton.2 rfl) _
                exact h1.next h2 (fun b hb => .inl hb))
              have t0 : W9.cell? ⟨u, 0, none⟩ = some (.int .i64 y.f.ty) := HT9.out.cell 0
              have t1 : W9.cell? ⟨u, 1, none⟩ = some (.int .i64 y.f.fl) := HT9.out.cell 1
              have t2 : W9.cell? ⟨u, 2, none⟩ = some (.int .i64 y.f.st) := HT9.out.cell 2
              have t3 : W9.cell? ⟨u, 3, none⟩ = some (.int .i64 y.f.pad) := HT9.out.cell 3
              have t4 : W9.cell? ⟨u, 4, none⟩ = some (.slice D1 m cb) := HT9.out.cell 4
              have t5 : W9.cell? ⟨u, 5, none⟩ = some (.slice y.S y.sn y.sc) := HT9.out.cell 5
              have t6 : W9.cell? ⟨u, 6, none⟩ = some (.int .i64 y.f.wt) := HT9.out.cell 6
              have t7 : W9.cell? ⟨u, 7, none⟩ = some (.int .i64 y.f.par) := HT9.out.cell 7
              have t8 : W9.cell? ⟨u, 8, none⟩ = some (.bool y.f.alone) := HT9.out.cell 8
              have t9 : W9.cell? ⟨u, 9, none⟩ = some (.int .i64 y.f.prom) := HT9.out.cell 9
              have t10 : W9.cell? ⟨u, 10, none⟩ = some (.int .i64 y.f.last) := HT9.out.cell 10
              have t11 : W9.cell? ⟨u, 11, none⟩ = some (.int .i64 y.f.code) := HT9.out.cell 11
              have t12 : W9.cell? ⟨u, 12, none⟩ = some (.int .i64 y.f.step) := HT9.out.cell 12
              obtain ⟨W10, hW10⟩ : ∃ W10, W9.drew.setRow r #[.int .i64 y.f.ty, .int .i64 y.f.fl, .int .i64 y.f.st, .int .i64 y.f.pad, .slice D1 m cb, .slice y.S y.sn y.sc, .int .i64 y.f.wt, .int .i64 y.f.par, .bool y.f.alone, .int .i64 y.f.prom, .int .i64 y.f.last, .int .i64 y.f.code, .int .i64 y.f.step] = W10 := ⟨_, rfl⟩
              have HR10 : Hid (Blk W10 r 30 #[.int .i64 y.f.ty, .int .i64 y.f.fl, .int .i64 y.f.st, .int .i64 y.f.pad, .slice D1 m cb, .slice y.S y.sn y.sc, .int .i64 y.f.wt, .int .i64 y.f.par, .bool y.f.alone, .int .i64 y.f.prom, .int .i64 y.f.last, .int .i64 y.f.code, .int .i64 y.f.step]) := hide (by rw [← hW10]; exact HR9'.out.drew.setRow _)
              have HT10 : Hid (Blk W10 u 30 #[.int .i64 y.f.ty, .int .i64 y.f.fl, .int .i64 y.f.st, .int .i64 y.f.pad, .slice D1 m cb, .slice y.S y.sn y.sc, .int .i64 y.f.wt, .int .i64 y.f.par, .bool y.f.alone, .int .i64 y.f.prom, .int .i64 y.f.last, .int .i64 y.f.code, .int .i64 y.f.step]) := hide (by rw [← hW10]; exact HT9.out.drew.setRow_other HNU.out.1.symm _)
              have O10 : Hid (Only [r] W9 W10) := hide (by
                have h1 : Only [r] W9.drew W10 := by rw [← hW10]; exact Only.setRow _ _ _ (List.mem_singleton.2 rfl)
                exact ⟨h1.os, h1.tape, h1.output, h1.size, h1.block⟩)
              have HB10 : Hid (Below w.heap.size w W10) := hide (by
                have h1 := HB7.out
                have h2 := HNU.out
                have h3 := HRL.out
                have h4 : Only [u, r] w7 W10 := (O9'.out.mono (F1 := [u, r]) (fun b hb => by simp at hb; subst hb; simp)).next (O10.out.mono (F1 := [u, r]) (fun b hb => by simp at hb; subst hb; simp)) (fun b hb => .inl hb)
                exact h1.trans (h4.below h1.size (fun b hb => by simp at hb; omega)))
              have HO10 : Hid (W10.ownsRow wc.heap.size 5 1 (.slice D1 m cb) m (u8s (allD (l.map (·.f)) ++ f.data))) := hide (by
                have h1 := own_only HO7.out O9'.out (fun b hb => by have h2 := (HO7.out.lt b hb).2; simp; omega)
                exact own_only h1 O10.out (fun b hb => by have h2 := (HO7.out.lt b hb).1; have h3 := HRL.out; have h4 := HWC2.out; simp; omega))
              go_wp2_with fail
              refine wp_region_held_drew (S := fun w' => w'.cell? ⟨u, 0, none⟩ = some (.int .i64 y.f.ty) ∧ w'.cell? ⟨u, 1, none⟩ = some (.int .i64 y.f.fl) ∧ w'.cell? ⟨u, 2, none⟩ = some (.int .i64 y.f.st) ∧ w'.cell? ⟨u, 3, none⟩ = some (.int .i64 y.f.pad) ∧ w'.cell? ⟨u, 4, none⟩ = some (.slice D1 m cb) ∧ w'.cell? ⟨u, 5, none⟩ = some (.slice y.S y.sn y.sc) ∧ w'.cell? ⟨u, 6, none⟩ = some (.int .i64 y.f.wt) ∧ w'.cell? ⟨u, 7, none⟩ = some (.int .i64 y.f.par) ∧ w'.cell? ⟨u, 8, none⟩ = some (.bool y.f.alone) ∧ w'.cell? ⟨u, 9, none⟩ = some (.int .i64 y.f.prom) ∧ w'.cell? ⟨u, 10, none⟩ = some (.int .i64 y.f.last) ∧ w'.cell? ⟨u, 11, none⟩ = some (.int .i64 y.f.code) ∧ w'.cell? ⟨u, 12, none⟩ = some (.int .i64 y.f.step)) (by kernel_rfl) (⟨t0, t1, t2, t3, t4, t5, t6, t7, t8, t9, t10, t11, t12⟩) (fun hHeld => ?_)
              refine wpAnyH_take (i := 0) (v := ?_) rfl (by kernel_rfl) (by kernel_rfl) (by kernel_rfl) (fun _ _ _ h => h) (Or.inl ⟨by rfl, ?hy⟩) (by assumption) ?_
              case hy => intro w hSw; (try dsimp only at hSw); go_simp; (try with_reducible rfl)
              try simp only [Act.put, List.getElem_toArray, List.getElem_cons_zero, List.getElem_cons_succ, List.setIfInBounds_toArray, List.set_cons_zero, List.set_cons_succ]
              refine wpAnyH_take (i := 1) (v := ?_) rfl (by kernel_rfl) (by kernel_rfl) (by kernel_rfl) (fun _ _ _ h => h) (Or.inl ⟨by rfl, ?hy⟩) (by assumption) ?_
              case hy => intro w hSw; (try dsimp only at hSw); go_simp; (try with_reducible rfl)
              try simp only [Act.put, List.getElem_toArray, List.getElem_cons_zero, List.getElem_cons_succ, List.setIfInBounds_toArray, List.set_cons_zero, List.set_cons_succ]
              refine wpAnyH_ready (rs := [2]) (by kernel_rfl) (by simp) ?_
              refine AllReadyH.cons rfl (fun K' hK => ?_) ?_
              · rw [if_pos (by rfl)]
                refine wp_store_row 30 (.tmp 7) (.tmp 65) rfl r #[.int .i64 y.f.ty, .int .i64 y.f.fl, .int .i64 y.f.st, .int .i64 y.f.pad, .slice D1 m cb, .slice y.S y.sn y.sc, .int .i64 y.f.wt, .int .i64 y.f.par, .bool y.f.alone, .int .i64 y.f.prom, .int .i64 y.f.last, .int .i64 y.f.code, .int .i64 y.f.step] (by rfl) (by rfl) 30 #[.int .i64 0, .int .i64 0, .int .i64 0, .int .i64 0, .slice none 0 0, .slice none 0 0, .int .i64 0, .int .i64 0, .bool false, .int .i64 0, .int .i64 0, .int .i64 0, .int .i64 0] (by exact HR9'.out) (by kernel_rfl) rfl (by simp [Value.oneCell']) ?_
                rw [hW10]
                refine hK.out _ _ (⟨HT10.out.cell 0, HT10.out.cell 1, HT10.out.cell 2, HT10.out.cell 3, HT10.out.cell 4, HT10.out.cell 5, HT10.out.cell 6, HT10.out.cell 7, HT10.out.cell 8, HT10.out.cell 9, HT10.out.cell 10, HT10.out.cell 11, HT10.out.cell 12⟩) (fun hHeld => ?_)
                clear hK
                try simp only [Act.put, List.getElem_toArray, List.getElem_cons_zero, List.getElem_cons_succ, List.setIfInBounds_toArray, List.set_cons_zero, List.set_cons_succ]
                refine wpAnyH_take (i := 3) (v := ?_) rfl (by kernel_rfl) (by kernel_rfl) (by kernel_rfl) (fun _ _ _ h => h) (Or.inl ⟨by rfl, ?hy⟩) (by assumption) ?_
                case hy => intro w hSw; (try dsimp only at hSw); go_simp; (try with_reducible rfl)
                try simp only [Act.put, List.getElem_toArray, List.getElem_cons_zero, List.getElem_cons_succ, List.setIfInBounds_toArray, List.set_cons_zero, List.set_cons_succ]
                refine wpAnyH_take (i := 4) (v := ?_) rfl (by kernel_rfl) (by kernel_rfl) (by kernel_rfl) (fun _ _ _ h => h) (Or.inl ⟨by rfl, ?hy⟩) (by assumption) ?_
                case hy => intro w hSw; (try dsimp only at hSw); go_simp; (try with_reducible rfl)
                try simp only [Act.put, List.getElem_toArray, List.getElem_cons_zero, List.getElem_cons_succ, List.setIfInBounds_toArray, List.set_cons_zero, List.set_cons_succ]
                refine wpAnyH_done (by kernel_rfl) ?_ _
                try refine NoPanic.normal ?_
                go_wp2_with fail
                have r0 : W10.cell? ⟨r, 0, none⟩ = some (.int .i64 y.f.ty) := HR10.out.cell 0
                have r1 : W10.cell? ⟨r, 1, none⟩ = some (.int .i64 y.f.fl) := HR10.out.cell 1
                have r2 : W10.cell? ⟨r, 2, none⟩ = some (.int .i64 y.f.st) := HR10.out.cell 2
                have r3 : W10.cell? ⟨r, 3, none⟩ = some (.int .i64 y.f.pad) := HR10.out.cell 3
                have r4 : W10.cell? ⟨r, 4, none⟩ = some (.slice D1 m cb) := HR10.out.cell 4
                have r5 : W10.cell? ⟨r, 5, none⟩ = some (.slice y.S y.sn y.sc) := HR10.out.cell 5
                have r6 : W10.cell? ⟨r, 6, none⟩ = some (.int .i64 y.f.wt) := HR10.out.cell 6
                have r7 : W10.cell? ⟨r, 7, none⟩ = some (.int .i64 y.f.par) := HR10.out.cell 7
                have r8 : W10.cell? ⟨r, 8, none⟩ = some (.bool y.f.alone) := HR10.out.cell 8
                have r9 : W10.cell? ⟨r, 9, none⟩ = some (.int .i64 y.f.prom) := HR10.out.cell 9
                have r10 : W10.cell? ⟨r, 10, none⟩ = some (.int .i64 y.f.last) := HR10.out.cell 10
                have r11 : W10.cell? ⟨r, 11, none⟩ = some (.int .i64 y.f.code) := HR10.out.cell 11
                have r12 : W10.cell? ⟨r, 12, none⟩ = some (.int .i64 y.f.step) := HR10.out.cell 12
                refine bodyPost_ret (v := .tuple #[.slice none 0 0, .agg #[.int .i64 y.f.ty, .int .i64 y.f.fl, .int .i64 y.f.st, .int .i64 y.f.pad, .slice D1 m cb, .slice y.S y.sn y.sc, .int .i64 y.f.wt, .int .i64 y.f.par, .bool y.f.alone, .int .i64 y.f.prom, .int .i64 y.f.last, .int .i64 y.f.code, .int .i64 y.f.step], .bool true, .int .i64 0]) (by simp [results, Try.results12, go_sem, r0, r1, r2, r3, r4, r5, r6, r7, r8, r9, r10, r11, r12]) rfl ⟨HB10.out, .inr (.inr ⟨by dsimp only; rw [HM6.out]; exact HLG.out, HQ.out, y, D1, m, cb, by rw [HL1.out]; exact HY.out, rfl, (own_sl HO10.out).mono (fun g _ hg => by have := HWC.out; omega), HM6.out.symm⟩)⟩
              · exact AllReadyH.nil
          · have h2 : ¬ ((m : Int) > 0) := by omega
            clear h2'
            cases hh : hasB f.ty f.fl 4
            · have HQ := hide hh
              have HC := HENDS wr
              rw [hh] at HC
              clear hh
              go_wp2_with fail
              refine HC.out.mono ?_
              rintro e w7 ⟨rfl, hb⟩
              have HB7 := hide (below_nextB HB6.out HB6.out.size hb)
              have HR7 := hide (HR6.out.kept hb)
              have HRW7 := hide (HRW.out.kept hb)
              clear hb
              obtain ⟨W9, hW9⟩ : ∃ W9, w7.setRow r #[.int .i64 0, .int .i64 0, .int .i64 0, .int .i64 0, .slice none 0 0, .slice none 0 0, .int .i64 0, .int .i64 0, .bool false, .int .i64 0, .int .i64 0, .int .i64 0, .int .i64 0] = W9 := ⟨_, rfl⟩
              have HR9 : Hid (Blk W9 r 30 #[.int .i64 0, .int .i64 0, .int .i64 0, .int .i64 0, .slice none 0 0, .slice none 0 0, .int .i64 0, .int .i64 0, .bool false, .int .i64 0, .int .i64 0, .int .i64 0, .int .i64 0]) := hide (by rw [← hW9]; exact HR7.out.setRow _)
              have O9 : Hid (Only [r] w7 W9) := hide (by rw [← hW9]; exact Only.setRow _ _ _ (List.mem_singleton.2 rfl))
              have HB9 : Hid (Below w.heap.size w W9) := hide (by
                have h1 := HB7.out
                exact h1.trans (O9.out.below h1.size (fun b hb => by rw [List.mem_singleton.1 hb]; have := HN.out; omega)))
              have r0 : W9.cell? ⟨r, 0, none⟩ = some (.int .i64 0) := HR9.out.cell 0
              have r1 : W9.cell? ⟨r, 1, none⟩ = some (.int .i64 0) := HR9.out.cell 1
              have r2 : W9.cell? ⟨r, 2, none⟩ = some (.int .i64 0) := HR9.out.cell 2
              have r3 : W9.cell? ⟨r, 3, none⟩ = some (.int .i64 0) := HR9.out.cell 3
              have r4 : W9.cell? ⟨r, 4, none⟩ = some (.slice none 0 0) := HR9.out.cell 4
              have r5 : W9.cell? ⟨r, 5, none⟩ = some (.slice none 0 0) := HR9.out.cell 5
              have r6 : W9.cell? ⟨r, 6, none⟩ = some (.int .i64 0) := HR9.out.cell 6
              have r7 : W9.cell? ⟨r, 7, none⟩ = some (.int .i64 0) := HR9.out.cell 7
              have r8 : W9.cell? ⟨r, 8, none⟩ = some (.bool false) := HR9.out.cell 8
              have r9 : W9.cell? ⟨r, 9, none⟩ = some (.int .i64 0) := HR9.out.cell 9
              have r10 : W9.cell? ⟨r, 10, none⟩ = some (.int .i64 0) := HR9.out.cell 10
              have r11 : W9.cell? ⟨r, 11, none⟩ = some (.int .i64 0) := HR9.out.cell 11
              have r12 : W9.cell? ⟨r, 12, none⟩ = some (.int .i64 0) := HR9.out.cell 12
              go_wp2_with (((with_reducible refine wpList_store_row (o := { dst := none, op := .store 30 (.tmp 7) (.tmp 59), type := _, pos := _, after := _, guard := none }) rfl 30 (.tmp 7) (.tmp 59) rfl r #[.int .i64 0, .int .i64 0, .int .i64 0, .int .i64 0, .slice none 0 0, .slice none 0 0, .int .i64 0, .int .i64 0, .bool false, .int .i64 0, .int .i64 0, .int .i64 0, .int .i64 0] ?_ ?_ 30 #[.int .i64 0, .int .i64 0, .int .i64 0, .int .i64 0, .slice none 0 0, .slice none 0 0, .int .i64 0, .int .i64 0, .bool false, .int .i64 0, .int .i64 0, .int .i64 0, .int .i64 0] ?_ ?_ ?_ ?_ ?_); rfl; rfl; exact HR7.out; kernel_rfl; rfl; simp [Value.oneCell']))
              try rw [hW9]
              refine bodyPost_ret (v := .tuple #[.slice B (n + 1) c5, .agg #[.int .i64 0, .int .i64 0, .int .i64 0, .int .i64 0, .slice none 0 0, .slice none 0 0, .int .i64 0, .int .i64 0, .bool false, .int .i64 0, .int .i64 0, .int .i64 0, .int .i64 0], .bool false, .int .i64 0]) (by simp [results, Try.results12, go_sem, r0, r1, r2, r3, r4, r5, r6, r7, r8, r9, r10, r11, r12]) rfl ⟨HB9.out, .inr (.inl ⟨by dsimp only; rw [HM6.out]; exact HLG.out, HQ.out, B, c5, rfl, by rw [HL1.out]; exact (HRW7.out.only O9.out (fun g hg hm => by have h1 := HRL.out; rw [List.mem_singleton.1 hm] at hg; rcases hg with hg | hg <;> omega)).mono (fun g _ hg => by have h1 := HRL.out; rcases hg with hg | hg; exact .inl hg.1; exact .inr (by omega))⟩)⟩
            · have HQ := hide hh
              have HC := HENDS wr
              rw [hh] at HC
              clear hh
              obtain ⟨y, hy⟩ : ∃ y, l1[0]? = some y := ⟨_, List.getElem?_eq_getElem (by have := HLN.out; omega)⟩
              have HY := hide hy
              go_wp2_with fail
              refine HC.out.mono ?_
              rintro e w7 ⟨rfl, hb⟩
              have HB7 := hide (below_nextB HB6.out HB6.out.size hb)
              have HR7 := hide (HR6.out.kept hb)
              obtain ⟨gm, om, rfl, _, hcs⟩ := (HRW.out.kept hb).at hy
              have HO7 := hide (own_kept HO6.out hb)
              have HSZ7 : Hid (w.heap.size ≤ wc.heap.size) := hide (by have h1 := HWC.out; exact h1)
              clear hb hy
              have y0 : w7.cell? ⟨gm, om, none⟩ = some (.int .i64 y.f.ty) := by have := hcs 0 _ rfl; simpa using this
              have y1 : w7.cell? ⟨gm, om + 1, none⟩ = some (.int .i64 y.f.fl) := by have := hcs 1 _ rfl; rwa [Nat.zero_mul, Nat.zero_add] at this
              have y2 : w7.cell? ⟨gm, om + 2, none⟩ = some (.int .i64 y.f.st) := by have := hcs 2 _ rfl; rwa [Nat.zero_mul, Nat.zero_add] at this
              have y3 : w7.cell? ⟨gm, om + 3, none⟩ = some (.int .i64 y.f.pad) := by have := hcs 3 _ rfl; rwa [Nat.zero_mul, Nat.zero_add] at this
              have y4 : w7.cell? ⟨gm, om + 4, none⟩ = some (.slice y.D y.dn y.dc) := by have := hcs 4 _ rfl; rwa [Nat.zero_mul, Nat.zero_add] at this
              have y5 : w7.cell? ⟨gm, om + 5, none⟩ = some (.slice y.S y.sn y.sc) := by have := hcs 5 _ rfl; rwa [Nat.zero_mul, Nat.zero_add] at this
              have y6 : w7.cell? ⟨gm, om + 6, none⟩ = some (.int .i64 y.f.wt) := by have := hcs 6 _ rfl; rwa [Nat.zero_mul, Nat.zero_add] at this
              have y7 : w7.cell? ⟨gm, om + 7, none⟩ = some (.int .i64 y.f.par) := by have := hcs 7 _ rfl; rwa [Nat.zero_mul, Nat.zero_add] at this
              have y8 : w7.cell? ⟨gm, om + 8, none⟩ = some (.bool y.f.alone) := by have := hcs 8 _ rfl; rwa [Nat.zero_mul, Nat.zero_add] at this
              have y9 : w7.cell? ⟨gm, om + 9, none⟩ = some (.int .i64 y.f.prom) := by have := hcs 9 _ rfl; rwa [Nat.zero_mul, Nat.zero_add] at this
              have y10 : w7.cell? ⟨gm, om + 10, none⟩ = some (.int .i64 y.f.last) := by have := hcs 10 _ rfl; rwa [Nat.zero_mul, Nat.zero_add] at this
              have y11 : w7.cell? ⟨gm, om + 11, none⟩ = some (.int .i64 y.f.code) := by have := hcs 11 _ rfl; rwa [Nat.zero_mul, Nat.zero_add] at this
              have y12 : w7.cell? ⟨gm, om + 12, none⟩ = some (.int .i64 y.f.step) := by have := hcs 12 _ rfl; rwa [Nat.zero_mul, Nat.zero_add] at this
              clear hcs
              obtain ⟨W8, hW8⟩ : ∃ W8, w7.alloc (.cells #[.int .i64 y.f.ty, .int .i64 y.f.fl, .int .i64 y.f.st, .int .i64 y.f.pad, .slice y.D y.dn y.dc, .slice y.S y.sn y.sc, .int .i64 y.f.wt, .int .i64 y.f.par, .bool y.f.alone, .int .i64 y.f.prom, .int .i64 y.f.last, .int .i64 y.f.code, .int .i64 y.f.step] 30) = W8 := ⟨_, rfl⟩
              obtain ⟨u, hu⟩ : ∃ u, w7.heap.size = u := ⟨_, rfl⟩
              have HT8 : Hid (Blk W8 u 30 #[.int .i64 y.f.ty, .int .i64 y.f.fl, .int .i64 y.f.st, .int .i64 y.f.pad, .slice y.D y.dn y.dc, .slice y.S y.sn y.sc, .int .i64 y.f.wt, .int .i64 y.f.par, .bool y.f.alone, .int .i64 y.f.prom, .int .i64 y.f.last, .int .i64 y.f.code, .int .i64 y.f.step]) := hide (by rw [← hW8, ← hu]; exact Blk.born w7 30 _)
              have HR8 : Hid (Blk W8 r 30 #[.int .i64 0, .int .i64 0, .int .i64 0, .int .i64 0, .slice none 0 0, .slice none 0 0, .int .i64 0, .int .i64 0, .bool false, .int .i64 0, .int .i64 0, .int .i64 0, .int .i64 0]) := hide (by rw [← hW8]; exact HR7.out.alloc _)
              have HNU : Hid (r ≠ u ∧ w.heap.size ≤ u) := hide (by have h1 := HR7.out.lt; have h2 := HB7.out.size; omega)
              have u4 : W8.frozen? ⟨u, 4, none⟩ = false := HT8.out.free 4
              have v4 : W8.cell? ⟨u, 4, none⟩ = some (.slice y.D y.dn y.dc) := HT8.out.cell 4
              obtain ⟨W9, hW9⟩ : ∃ W9, W8.setCell ⟨u, 4, none⟩ (.slice D1 m cb) = W9 := ⟨_, rfl⟩
              have HT9 : Hid (Blk W9 u 30 #[.int .i64 y.f.ty, .int .i64 y.f.fl, .int .i64 y.f.st, .int .i64 y.f.pad, .slice D1 m cb, .slice y.S y.sn y.sc, .int .i64 y.f.wt, .int .i64 y.f.par, .bool y.f.alone, .int .i64 y.f.prom, .int .i64 y.f.last, .int .i64 y.f.code, .int .i64 y.f.step]) := hide (by rw [← hW9]; exact HT8.out.store 4 _)
              have HR9' : Hid (Blk W9 r 30 #[.int .i64 0, .int .i64 0, .int .i64 0, .int .i64 0, .slice none 0 0, .slice none 0 0, .int .i64 0, .int .i64 0, .bool false, .int .i64 0, .int .i64 0, .int .i64 0, .int .i64 0]) := hide (by rw [← hW9]; exact HR8.out.aside HNU.out.1 _)
              have O9' : Hid (Only [u] w7 W9) := hide (by
                have h1 : Only [u] w7 W8 := by rw [← hW8]; exact Only.alloc _ _
                have h2 : Only [u] W8 W9 := by rw [← hW9]; exact Only.store (p := ⟨u, 4, none⟩) _ (List.mem_singleton.2 rfl) _
                exact h1.next h2 (fun b hb => .inl hb))
              have t0 : W9.cell? ⟨u, 0, none⟩ = some (.int .i64 y.f.ty) := HT9.out.cell 0
              have t1 : W9.cell? ⟨u, 1, none⟩ = some (.int .i64 y.f.fl) := HT9.out.cell 1
              have t2 : W9.cell? ⟨u, 2, none⟩ = some (.int .i64 y.f.st) := HT9.out.cell 2
              have t3 : W9.cell? ⟨u, 3, none⟩ = some (.int .i64 y.f.pad) := HT9.out.cell 3
              have t4 : W9.cell? ⟨u, 4, none⟩ = some (.slice D1 m cb) := HT9.out.cell 4
              have t5 : W9.cell? ⟨u, 5, none⟩ = some (.slice y.S y.sn y.sc) := HT9.out.cell 5
              have t6 : W9.cell? ⟨u, 6, none⟩ = some (.int .i64 y.f.wt) := HT9.out.cell 6
              have t7 : W9.cell? ⟨u, 7, none⟩ = some (.int .i64 y.f.par) := HT9.out.cell 7
              have t8 : W9.cell? ⟨u, 8, none⟩ = some (.bool y.f.alone) := HT9.out.cell 8
              have t9 : W9.cell? ⟨u, 9, none⟩ = some (.int .i64 y.f.prom) := HT9.out.cell 9
              have t10 : W9.cell? ⟨u, 10, none⟩ = some (.int .i64 y.f.last) := HT9.out.cell 10
              have t11 : W9.cell? ⟨u, 11, none⟩ = some (.int .i64 y.f.code) := HT9.out.cell 11
              have t12 : W9.cell? ⟨u, 12, none⟩ = some (.int .i64 y.f.step) := HT9.out.cell 12
              obtain ⟨W10, hW10⟩ : ∃ W10, W9.drew.setRow r #[.int .i64 y.f.ty, .int .i64 y.f.fl, .int .i64 y.f.st, .int .i64 y.f.pad, .slice D1 m cb, .slice y.S y.sn y.sc, .int .i64 y.f.wt, .int .i64 y.f.par, .bool y.f.alone, .int .i64 y.f.prom, .int .i64 y.f.last, .int .i64 y.f.code, .int .i64 y.f.step] = W10 := ⟨_, rfl⟩
              have HR10 : Hid (Blk W10 r 30 #[.int .i64 y.f.ty, .int .i64 y.f.fl, .int .i64 y.f.st, .int .i64 y.f.pad, .slice D1 m cb, .slice y.S y.sn y.sc, .int .i64 y.f.wt, .int .i64 y.f.par, .bool y.f.alone, .int .i64 y.f.prom, .int .i64 y.f.last, .int .i64 y.f.code, .int .i64 y.f.step]) := hide (by rw [← hW10]; exact HR9'.out.drew.setRow _)
              have HT10 : Hid (Blk W10 u 30 #[.int .i64 y.f.ty, .int .i64 y.f.fl, .int .i64 y.f.st, .int .i64 y.f.pad, .slice D1 m cb, .slice y.S y.sn y.sc, .int .i64 y.f.wt, .int .i64 y.f.par, .bool y.f.alone, .int .i64 y.f.prom, .int .i64 y.f.last, .int .i64 y.f.code, .int .i64 y.f.step]) := hide (by rw [← hW10]; exact HT9.out.drew.setRow_other HNU.out.1.symm _)
              have O10 : Hid (Only [r] W9 W10) := hide (by
                have h1 : Only [r] W9.drew W10 := by rw [← hW10]; exact Only.setRow _ _ _ (List.mem_singleton.2 rfl)
                exact ⟨h1.os, h1.tape, h1.output, h1.size, h1.block⟩)
              have HB10 : Hid (Below w.heap.size w W10) := hide (by
                have h1 := HB7.out
                have h2 := HNU.out
                have h3 := HRL.out
                have h4 : Only [u, r] w7 W10 := (O9'.out.mono (F1 := [u, r]) (fun b hb => by simp at hb; subst hb; simp)).next (O10.out.mono (F1 := [u, r]) (fun b hb => by simp at hb; subst hb; simp)) (fun b hb => .inl hb)
                exact h1.trans (h4.below h1.size (fun b hb => by simp at hb; omega)))
              have HO10 : Hid (W10.ownsRow wc.heap.size 5 1 (.slice D1 m cb) m (u8s (allD (l.map (·.f)) ++ f.data))) := hide (by
                have h1 := own_only HO7.out O9'.out (fun b hb => by have h2 := (HO7.out.lt b hb).2; simp; omega)
                exact own_only h1 O10.out (fun b hb => by have h2 := (HO7.out.lt b hb).1; have h3 := HRL.out; have h4 := HWC2.out; simp; omega))
              go_wp2_with fail
              refine wp_region_held_drew (S := fun w' => w'.cell? ⟨u, 0, none⟩ = some (.int .i64 y.f.ty) ∧ w'.cell? ⟨u, 1, none⟩ = some (.int .i64 y.f.fl) ∧ w'.cell? ⟨u, 2, none⟩ = some (.int .i64 y.f.st) ∧ w'.cell? ⟨u, 3, none⟩ = some (.int .i64 y.f.pad) ∧ w'.cell? ⟨u, 4, none⟩ = some (.slice D1 m cb) ∧ w'.cell? ⟨u, 5, none⟩ = some (.slice y.S y.sn y.sc) ∧ w'.cell? ⟨u, 6, none⟩ = some (.int .i64 y.f.wt) ∧ w'.cell? ⟨u, 7, none⟩ = some (.int .i64 y.f.par) ∧ w'.cell? ⟨u, 8, none⟩ = some (.bool y.f.alone) ∧ w'.cell? ⟨u, 9, none⟩ = some (.int .i64 y.f.prom) ∧ w'.cell? ⟨u, 10, none⟩ = some (.int .i64 y.f.last) ∧ w'.cell? ⟨u, 11, none⟩ = some (.int .i64 y.f.code) ∧ w'.cell? ⟨u, 12, none⟩ = some (.int .i64 y.f.step)) (by kernel_rfl) (⟨t0, t1, t2, t3, t4, t5, t6, t7, t8, t9, t10, t11, t12⟩) (fun hHeld => ?_)
              refine wpAnyH_take (i := 0) (v := ?_) rfl (by kernel_rfl) (by kernel_rfl) (by kernel_rfl) (fun _ _ _ h => h) (Or.inl ⟨by rfl, ?hy⟩) (by assumption) ?_
              case hy => intro w hSw; (try dsimp only at hSw); go_simp; (try with_reducible rfl)
              try simp only [Act.put, List.getElem_toArray, List.getElem_cons_zero, List.getElem_cons_succ, List.setIfInBounds_toArray, List.set_cons_zero, List.set_cons_succ]
              refine wpAnyH_take (i := 1) (v := ?_) rfl (by kernel_rfl) (by kernel_rfl) (by kernel_rfl) (fun _ _ _ h => h) (Or.inl ⟨by rfl, ?hy⟩) (by assumption) ?_
              case hy => intro w hSw; (try dsimp only at hSw); go_simp; (try with_reducible rfl)
              try simp only [Act.put, List.getElem_toArray, List.getElem_cons_zero, List.getElem_cons_succ, List.setIfInBounds_toArray, List.set_cons_zero, List.set_cons_succ]
              refine wpAnyH_ready (rs := [2]) (by kernel_rfl) (by simp) ?_
              refine AllReadyH.cons rfl (fun K' hK => ?_) ?_
              · rw [if_pos (by rfl)]
                refine wp_store_row 30 (.tmp 7) (.tmp 65) rfl r #[.int .i64 y.f.ty, .int .i64 y.f.fl, .int .i64 y.f.st, .int .i64 y.f.pad, .slice D1 m cb, .slice y.S y.sn y.sc, .int .i64 y.f.wt, .int .i64 y.f.par, .bool y.f.alone, .int .i64 y.f.prom, .int .i64 y.f.last, .int .i64 y.f.code, .int .i64 y.f.step] (by rfl) (by rfl) 30 #[.int .i64 0, .int .i64 0, .int .i64 0, .int .i64 0, .slice none 0 0, .slice none 0 0, .int .i64 0, .int .i64 0, .bool false, .int .i64 0, .int .i64 0, .int .i64 0, .int .i64 0] (by exact HR9'.out) (by kernel_rfl) rfl (by simp [Value.oneCell']) ?_
                rw [hW10]
                refine hK.out _ _ (⟨HT10.out.cell 0, HT10.out.cell 1, HT10.out.cell 2, HT10.out.cell 3, HT10.out.cell 4, HT10.out.cell 5, HT10.out.cell 6, HT10.out.cell 7, HT10.out.cell 8, HT10.out.cell 9, HT10.out.cell 10, HT10.out.cell 11, HT10.out.cell 12⟩) (fun hHeld => ?_)
                clear hK
                try simp only [Act.put, List.getElem_toArray, List.getElem_cons_zero, List.getElem_cons_succ, List.setIfInBounds_toArray, List.set_cons_zero, List.set_cons_succ]
                refine wpAnyH_take (i := 3) (v := ?_) rfl (by kernel_rfl) (by kernel_rfl) (by kernel_rfl) (fun _ _ _ h => h) (Or.inl ⟨by rfl, ?hy⟩) (by assumption) ?_
                case hy => intro w hSw; (try dsimp only at hSw); go_simp; (try with_reducible rfl)
                try simp only [Act.put, List.getElem_toArray, List.getElem_cons_zero, List.getElem_cons_succ, List.setIfInBounds_toArray, List.set_cons_zero, List.set_cons_succ]
                refine wpAnyH_take (i := 4) (v := ?_) rfl (by kernel_rfl) (by kernel_rfl) (by kernel_rfl) (fun _ _ _ h => h) (Or.inl ⟨by rfl, ?hy⟩) (by assumption) ?_
                case hy => intro w hSw; (try dsimp only at hSw); go_simp; (try with_reducible rfl)
                try simp only [Act.put, List.getElem_toArray, List.getElem_cons_zero, List.getElem_cons_succ, List.setIfInBounds_toArray, List.set_cons_zero, List.set_cons_succ]
                refine wpAnyH_done (by kernel_rfl) ?_ _
                try refine NoPanic.normal ?_
                go_wp2_with fail
                have r0 : W10.cell? ⟨r, 0, none⟩ = some (.int .i64 y.f.ty) := HR10.out.cell 0
                have r1 : W10.cell? ⟨r, 1, none⟩ = some (.int .i64 y.f.fl) := HR10.out.cell 1
                have r2 : W10.cell? ⟨r, 2, none⟩ = some (.int .i64 y.f.st) := HR10.out.cell 2
                have r3 : W10.cell? ⟨r, 3, none⟩ = some (.int .i64 y.f.pad) := HR10.out.cell 3
                have r4 : W10.cell? ⟨r, 4, none⟩ = some (.slice D1 m cb) := HR10.out.cell 4
                have r5 : W10.cell? ⟨r, 5, none⟩ = some (.slice y.S y.sn y.sc) := HR10.out.cell 5
                have r6 : W10.cell? ⟨r, 6, none⟩ = some (.int .i64 y.f.wt) := HR10.out.cell 6
                have r7 : W10.cell? ⟨r, 7, none⟩ = some (.int .i64 y.f.par) := HR10.out.cell 7
                have r8 : W10.cell? ⟨r, 8, none⟩ = some (.bool y.f.alone) := HR10.out.cell 8
                have r9 : W10.cell? ⟨r, 9, none⟩ = some (.int .i64 y.f.prom) := HR10.out.cell 9
                have r10 : W10.cell? ⟨r, 10, none⟩ = some (.int .i64 y.f.last) := HR10.out.cell 10
                have r11 : W10.cell? ⟨r, 11, none⟩ = some (.int .i64 y.f.code) := HR10.out.cell 11
                have r12 : W10.cell? ⟨r, 12, none⟩ = some (.int .i64 y.f.step) := HR10.out.cell 12
                refine bodyPost_ret (v := .tuple #[.slice none 0 0, .agg #[.int .i64 y.f.ty, .int .i64 y.f.fl, .int .i64 y.f.st, .int .i64 y.f.pad, .slice D1 m cb, .slice y.S y.sn y.sc, .int .i64 y.f.wt, .int .i64 y.f.par, .bool y.f.alone, .int .i64 y.f.prom, .int .i64 y.f.last, .int .i64 y.f.code, .int .i64 y.f.step], .bool true, .int .i64 0]) (by simp [results, Try.results12, go_sem, r0, r1, r2, r3, r4, r5, r6, r7, r8, r9, r10, r11, r12]) rfl ⟨HB10.out, .inr (.inr ⟨by dsimp only; rw [HM6.out]; exact HLG.out, HQ.out, y, D1, m, cb, by rw [HL1.out]; exact HY.out, rfl, (own_sl HO10.out).mono (fun g _ hg => by have := HWC.out; omega), HM6.out.symm⟩)⟩
              · exact AllReadyH.nil
end Go.Proofs.Ytpjibdnoiioaoaa
