/- Contract: Add, where nothing is taken. -/
import Derived.Test.YtpjibdnoiioaoaaP
namespace Go.Proofs.Ytpjibdnoiioaoaa
open Go.RowKit
set_option linter.unusedSimpArgs false
set_option linter.unusedVariables false

/-- An assembly's memory, with a block (on) or without. -/
def Asm (w : World) (g : Nat) (M : Int) (on : Bool) (a : Fr) (D0 S0 : Option Addr) (dn0 dc0 sn0 sc0 : Nat) (A : Option Addr) (n c : Nat) : Prop := Blk w g 45 #[.int .i64 M, .bool on, .int .i64 a.ty, .int .i64 a.fl, .int .i64 a.st, .int .i64 a.pad, .slice D0 dn0 dc0, .slice S0 sn0 sc0, .int .i64 a.wt, .int .i64 a.par, .bool a.alone, .int .i64 a.prom, .int .i64 a.last, .int .i64 a.code, .int .i64 a.step, .slice A n c]
theorem Asm.lt {w : World} {g : Nat} {M : Int} {on : Bool} {a : Fr} {D0 S0 : Option Addr} {dn0 dc0 sn0 sc0 : Nat} {A : Option Addr} {n c : Nat} (h : Asm w g M on a D0 S0 dn0 dc0 sn0 sc0 A n c) : g < w.heap.size := Blk.lt h
set_option maxRecDepth 100000 in
set_option maxHeartbeats 2000000 in
theorem add_nil (f : Fr) (D S : Option Addr) (dn dc sn sc : Nat) (w : World) : Calls Try.prog 11 #[.pointer none, .agg #[.int .i64 f.ty, .int .i64 f.fl, .int .i64 f.st, .int .i64 f.pad, .slice D dn dc, .slice S sn sc, .int .i64 f.wt, .int .i64 f.par, .bool f.alone, .int .i64 f.prom, .int .i64 f.last, .int .i64 f.code, .int .i64 f.step]] w fun e w' => e = .returned (.tuple #[.agg #[.int .i64 0, .int .i64 0, .int .i64 0, .int .i64 0, .slice none 0 0, .slice none 0 0, .int .i64 0, .int .i64 0, .bool false, .int .i64 0, .int .i64 0, .int .i64 0, .int .i64 0], .bool false, .int .i64 2]) ∧ Below w.heap.size w w' := by
  obtain ⟨W1, hW1⟩ : ∃ W1, w.alloc (.cells #[.int .i64 f.ty, .int .i64 f.fl, .int .i64 f.st, .int .i64 f.pad, .slice D dn dc, .slice S sn sc, .int .i64 f.wt, .int .i64 f.par, .bool f.alone, .int .i64 f.prom, .int .i64 f.last, .int .i64 f.code, .int .i64 f.step] 30) = W1 := ⟨_, rfl⟩
  obtain ⟨r, hr⟩ : ∃ r, W1.heap.size = r := ⟨_, rfl⟩
  obtain ⟨W2, hW2⟩ : ∃ W2, W1.alloc (.cells #[.int .i64 0, .int .i64 0, .int .i64 0, .int .i64 0, .slice none 0 0, .slice none 0 0, .int .i64 0, .int .i64 0, .bool false, .int .i64 0, .int .i64 0, .int .i64 0, .int .i64 0] 30) = W2 := ⟨_, rfl⟩
  have HN : Hid (w.heap.size ≤ r) := hide (by
    have h1 : W1.heap.size = w.heap.size + 1 := by rw [← hW1]; simp
    omega)
  have HB2 : Hid (Below w.heap.size w W2) := hide (by
    rw [← hW2, ← hW1]; exact ((Below.refl _ _).alloc (Nat.le_refl _) _).alloc (by simp) _)
  have HR2 : Hid (Blk W2 r 30 #[.int .i64 0, .int .i64 0, .int .i64 0, .int .i64 0, .slice none 0 0, .slice none 0 0, .int .i64 0, .int .i64 0, .bool false, .int .i64 0, .int .i64 0, .int .i64 0, .int .i64 0]) := hide (by rw [← hW2, ← hr]; exact Blk.born W1 30 _)
  obtain ⟨W9, hW9⟩ : ∃ W9, W2.setRow r #[.int .i64 0, .int .i64 0, .int .i64 0, .int .i64 0, .slice none 0 0, .slice none 0 0, .int .i64 0, .int .i64 0, .bool false, .int .i64 0, .int .i64 0, .int .i64 0, .int .i64 0] = W9 := ⟨_, rfl⟩
  have HR9 : Hid (Blk W9 r 30 #[.int .i64 0, .int .i64 0, .int .i64 0, .int .i64 0, .slice none 0 0, .slice none 0 0, .int .i64 0, .int .i64 0, .bool false, .int .i64 0, .int .i64 0, .int .i64 0, .int .i64 0]) := hide (by rw [← hW9]; exact HR2.out.setRow _)
  have HB9 : Hid (Below w.heap.size w W9) := hide (by
    have h1 := HB2.out
    have h2 : Only [r] W2 W9 := by rw [← hW9]; exact Only.setRow _ _ _ (List.mem_singleton.2 rfl)
    exact h1.trans (h2.below h1.size (fun b hb => by rw [List.mem_singleton.1 hb]; have := HN.out; omega)))
  have r0 : W9.cell? ⟨r, 0, none⟩ = some (.int .i64 0) := HR9.out.cell 0
  have r1 : W9.cell? ⟨r, 1, none⟩ = some (.int .i64 0) := HR9.out.cell 1
  have r2 : W9.cell? ⟨r, 2, none⟩ = some (.int .i64 0) := HR9.out.cell 2
  have r3 : W9.cell? ⟨r, 3, none⟩ = some (.int .i64 0) := HR9.out.cell 3
  have r4 : W9.cell? ⟨r, 4, none⟩ = some (.slice none 0 0) := HR9.out.cell 4
  have r5 : W9.cell? ⟨r, 5, none⟩ = some (.slice none 0 0) := HR9.out.cell 5
  have r6 : W9.cell? ⟨r, 6, none⟩ = some (.int .i64 0) := HR9.out.cell 6
  have r7 : W9.cell? ⟨r, 7, none⟩ = some (.int .i64 0) := HR9.out.cell 7
  have r8 : W9.cell? ⟨r, 8, none⟩ = some (.bool false) := HR9.out.cell 8
  have r9 : W9.cell? ⟨r, 9, none⟩ = some (.int .i64 0) := HR9.out.cell 9
  have r10 : W9.cell? ⟨r, 10, none⟩ = some (.int .i64 0) := HR9.out.cell 10
  have r11 : W9.cell? ⟨r, 11, none⟩ = some (.int .i64 0) := HR9.out.cell 11
  have r12 : W9.cell? ⟨r, 12, none⟩ = some (.int .i64 0) := HR9.out.cell 12
  go_enter Try.func11, Try.ntmps11
  go_wp2_with (((with_reducible refine wpList_store_row (o := { dst := none, op := .store 30 (.tmp 4) (.tmp 10), type := _, pos := _, after := _, guard := none }) rfl 30 (.tmp 4) (.tmp 10) rfl r #[.int .i64 0, .int .i64 0, .int .i64 0, .int .i64 0, .slice none 0 0, .slice none 0 0, .int .i64 0, .int .i64 0, .bool false, .int .i64 0, .int .i64 0, .int .i64 0, .int .i64 0] ?_ ?_ 30 #[.int .i64 0, .int .i64 0, .int .i64 0, .int .i64 0, .slice none 0 0, .slice none 0 0, .int .i64 0, .int .i64 0, .bool false, .int .i64 0, .int .i64 0, .int .i64 0, .int .i64 0] ?_ ?_ ?_ ?_ ?_); rfl; rfl; exact HR2.out; kernel_rfl; rfl; simp [Value.oneCell']))
  try rw [hW9]
  refine bodyPost_ret (v := .tuple #[.agg #[.int .i64 0, .int .i64 0, .int .i64 0, .int .i64 0, .slice none 0 0, .slice none 0 0, .int .i64 0, .int .i64 0, .bool false, .int .i64 0, .int .i64 0, .int .i64 0, .int .i64 0], .bool false, .int .i64 2]) (by simp [results, Try.results11, go_sem, r0, r1, r2, r3, r4, r5, r6, r7, r8, r9, r10, r11, r12]) rfl ⟨rfl, HB9.out⟩

set_option maxRecDepth 100000 in
set_option maxHeartbeats 2000000 in
theorem add_no (g : Nat) (M : Int) (on : Bool) (a : Fr) (D0 S0 : Option Addr) (dn0 dc0 sn0 sc0 : Nat) (A : Option Addr) (n c : Nat) (f : Fr) (D S : Option Addr) (dn dc sn sc : Nat) (w : World) (h : Asm w g M on a D0 S0 dn0 dc0 sn0 sc0 A n c) (ht : takeV on a.st f.ty f.st = false) :
    Calls Try.prog 11 #[.pointer (some ⟨g, 0, none⟩), .agg #[.int .i64 f.ty, .int .i64 f.fl, .int .i64 f.st, .int .i64 f.pad, .slice D dn dc, .slice S sn sc, .int .i64 f.wt, .int .i64 f.par, .bool f.alone, .int .i64 f.prom, .int .i64 f.last, .int .i64 f.code, .int .i64 f.step]] w fun e w' => e = .returned (.tuple #[.agg #[.int .i64 0, .int .i64 0, .int .i64 0, .int .i64 0, .slice none 0 0, .slice none 0 0, .int .i64 0, .int .i64 0, .bool false, .int .i64 0, .int .i64 0, .int .i64 0, .int .i64 0], .bool false, .int .i64 4]) ∧ Below w.heap.size w w' := by
  obtain ⟨bx, hbx⟩ : ∃ bx, w.heap.size = bx := ⟨_, rfl⟩
  obtain ⟨W1, hW1⟩ : ∃ W1, w.alloc (.cells #[.int .i64 f.ty, .int .i64 f.fl, .int .i64 f.st, .int .i64 f.pad, .slice D dn dc, .slice S sn sc, .int .i64 f.wt, .int .i64 f.par, .bool f.alone, .int .i64 f.prom, .int .i64 f.last, .int .i64 f.code, .int .i64 f.step] 30) = W1 := ⟨_, rfl⟩
  obtain ⟨r, hr⟩ : ∃ r, W1.heap.size = r := ⟨_, rfl⟩
  obtain ⟨W2, hW2⟩ : ∃ W2, W1.alloc (.cells #[.int .i64 0, .int .i64 0, .int .i64 0, .int .i64 0, .slice none 0 0, .slice none 0 0, .int .i64 0, .int .i64 0, .bool false, .int .i64 0, .int .i64 0, .int .i64 0, .int .i64 0] 30) = W2 := ⟨_, rfl⟩
  have HN : Hid (g ≠ bx ∧ g ≠ r ∧ bx ≠ r ∧ bx ≤ r ∧ w.heap.size = bx) := hide (by
    have h1 : W1.heap.size = w.heap.size + 1 := by rw [← hW1]; simp
    have h2 := h.lt
    omega)
  have HB2 : Hid (Below w.heap.size w W2) := hide (by
    rw [← hW2, ← hW1]; exact ((Below.refl _ _).alloc (Nat.le_refl _) _).alloc (by simp) _)
  have HA2 : Hid (Blk W2 g 45 #[.int .i64 M, .bool on, .int .i64 a.ty, .int .i64 a.fl, .int .i64 a.st, .int .i64 a.pad, .slice D0 dn0 dc0, .slice S0 sn0 sc0, .int .i64 a.wt, .int .i64 a.par, .bool a.alone, .int .i64 a.prom, .int .i64 a.last, .int .i64 a.code, .int .i64 a.step, .slice A n c]) := hide (Blk.kept h HB2.out)
  have HF2 : Hid (Blk W2 bx 30 #[.int .i64 f.ty, .int .i64 f.fl, .int .i64 f.st, .int .i64 f.pad, .slice D dn dc, .slice S sn sc, .int .i64 f.wt, .int .i64 f.par, .bool f.alone, .int .i64 f.prom, .int .i64 f.last, .int .i64 f.code, .int .i64 f.step]) := hide (by rw [← hW2, ← hW1, ← hbx]; exact (Blk.born w 30 _).alloc _)
  have HR2 : Hid (Blk W2 r 30 #[.int .i64 0, .int .i64 0, .int .i64 0, .int .i64 0, .slice none 0 0, .slice none 0 0, .int .i64 0, .int .i64 0, .bool false, .int .i64 0, .int .i64 0, .int .i64 0, .int .i64 0]) := hide (by rw [← hW2, ← hr]; exact Blk.born W1 30 _)
  have b1 : W2.cell? ⟨g, 1, none⟩ = some (.bool on) := HA2.out.cell 1
  have b4 : W2.cell? ⟨g, 4, none⟩ = some (.int .i64 a.st) := HA2.out.cell 4
  have x0 : W2.cell? ⟨bx, 0, none⟩ = some (.int .i64 f.ty) := HF2.out.cell 0
  have x1 : W2.cell? ⟨bx, 1, none⟩ = some (.int .i64 f.fl) := HF2.out.cell 1
  have x2 : W2.cell? ⟨bx, 2, none⟩ = some (.int .i64 f.st) := HF2.out.cell 2
  have x3 : W2.cell? ⟨bx, 3, none⟩ = some (.int .i64 f.pad) := HF2.out.cell 3
  have x4 : W2.cell? ⟨bx, 4, none⟩ = some (.slice D dn dc) := HF2.out.cell 4
  have x5 : W2.cell? ⟨bx, 5, none⟩ = some (.slice S sn sc) := HF2.out.cell 5
  have x6 : W2.cell? ⟨bx, 6, none⟩ = some (.int .i64 f.wt) := HF2.out.cell 6
  have x7 : W2.cell? ⟨bx, 7, none⟩ = some (.int .i64 f.par) := HF2.out.cell 7
  have x8 : W2.cell? ⟨bx, 8, none⟩ = some (.bool f.alone) := HF2.out.cell 8
  have x9 : W2.cell? ⟨bx, 9, none⟩ = some (.int .i64 f.prom) := HF2.out.cell 9
  have x10 : W2.cell? ⟨bx, 10, none⟩ = some (.int .i64 f.last) := HF2.out.cell 10
  have x11 : W2.cell? ⟨bx, 11, none⟩ = some (.int .i64 f.code) := HF2.out.cell 11
  have x12 : W2.cell? ⟨bx, 12, none⟩ = some (.int .i64 f.step) := HF2.out.cell 12
  clear h
  have hc := takes_any f D S dn dc sn sc g on a.st W2 b1 b4
  rw [ht] at hc
  clear ht
  go_enter Try.func11, Try.ntmps11
  go_wp2_with fail
  refine hc.mono ?_
  rintro e w3 ⟨rfl, hb⟩
  have HB3 := hide (below_nextB HB2.out HB2.out.size hb)
  have HA3 := hide (HA2.out.kept hb)
  have HF3 := hide (HF2.out.kept hb)
  have HR3 := hide (HR2.out.kept hb)
  clear hb
  obtain ⟨W9, hW9⟩ : ∃ W9, w3.setRow r #[.int .i64 0, .int .i64 0, .int .i64 0, .int .i64 0, .slice none 0 0, .slice none 0 0, .int .i64 0, .int .i64 0, .bool false, .int .i64 0, .int .i64 0, .int .i64 0, .int .i64 0] = W9 := ⟨_, rfl⟩
  have HR9 : Hid (Blk W9 r 30 #[.int .i64 0, .int .i64 0, .int .i64 0, .int .i64 0, .slice none 0 0, .slice none 0 0, .int .i64 0, .int .i64 0, .bool false, .int .i64 0, .int .i64 0, .int .i64 0, .int .i64 0]) := hide (by rw [← hW9]; exact HR3.out.setRow _)
  have HB9 : Hid (Below w.heap.size w W9) := hide (by
    have h1 := HB3.out
    have h2 : Only [r] w3 W9 := by rw [← hW9]; exact Only.setRow _ _ _ (List.mem_singleton.2 rfl)
    exact h1.trans (h2.below h1.size (fun b hb => by rw [List.mem_singleton.1 hb]; have := HN.out; omega)))
  have r0 : W9.cell? ⟨r, 0, none⟩ = some (.int .i64 0) := HR9.out.cell 0
  have r1 : W9.cell? ⟨r, 1, none⟩ = some (.int .i64 0) := HR9.out.cell 1
  have r2 : W9.cell? ⟨r, 2, none⟩ = some (.int .i64 0) := HR9.out.cell 2
  have r3 : W9.cell? ⟨r, 3, none⟩ = some (.int .i64 0) := HR9.out.cell 3
  have r4 : W9.cell? ⟨r, 4, none⟩ = some (.slice none 0 0) := HR9.out.cell 4
  have r5 : W9.cell? ⟨r, 5, none⟩ = some (.slice none 0 0) := HR9.out.cell 5
  have r6 : W9.cell? ⟨r, 6, none⟩ = some (.int .i64 0) := HR9.out.cell 6
  have r7 : W9.cell? ⟨r, 7, none⟩ = some (.int .i64 0) := HR9.out.cell 7
  have r8 : W9.cell? ⟨r, 8, none⟩ = some (.bool false) := HR9.out.cell 8
  have r9 : W9.cell? ⟨r, 9, none⟩ = some (.int .i64 0) := HR9.out.cell 9
  have r10 : W9.cell? ⟨r, 10, none⟩ = some (.int .i64 0) := HR9.out.cell 10
  have r11 : W9.cell? ⟨r, 11, none⟩ = some (.int .i64 0) := HR9.out.cell 11
  have r12 : W9.cell? ⟨r, 12, none⟩ = some (.int .i64 0) := HR9.out.cell 12
  go_wp2_with (((with_reducible refine wpList_store_row (o := { dst := none, op := .store 30 (.tmp 4) (.tmp 16), type := _, pos := _, after := _, guard := none }) rfl 30 (.tmp 4) (.tmp 16) rfl r #[.int .i64 0, .int .i64 0, .int .i64 0, .int .i64 0, .slice none 0 0, .slice none 0 0, .int .i64 0, .int .i64 0, .bool false, .int .i64 0, .int .i64 0, .int .i64 0, .int .i64 0] ?_ ?_ 30 #[.int .i64 0, .int .i64 0, .int .i64 0, .int .i64 0, .slice none 0 0, .slice none 0 0, .int .i64 0, .int .i64 0, .bool false, .int .i64 0, .int .i64 0, .int .i64 0, .int .i64 0] ?_ ?_ ?_ ?_ ?_); rfl; rfl; exact HR3.out; kernel_rfl; rfl; simp [Value.oneCell']))
  try rw [hW9]
  refine bodyPost_ret (v := .tuple #[.agg #[.int .i64 0, .int .i64 0, .int .i64 0, .int .i64 0, .slice none 0 0, .slice none 0 0, .int .i64 0, .int .i64 0, .bool false, .int .i64 0, .int .i64 0, .int .i64 0, .int .i64 0], .bool false, .int .i64 4]) (by simp [results, Try.results11, go_sem, r0, r1, r2, r3, r4, r5, r6, r7, r8, r9, r10, r11, r12]) rfl ⟨rfl, HB9.out⟩

set_option maxRecDepth 100000 in
set_option maxHeartbeats 2000000 in
theorem add_other (g : Nat) (M : Int) (on : Bool) (a : Fr) (D0 S0 : Option Addr) (dn0 dc0 sn0 sc0 : Nat) (A : Option Addr) (n c : Nat) (f : Fr) (D S : Option Addr) (dn dc sn sc : Nat) (w : World) (h : Asm w g M on a D0 S0 dn0 dc0 sn0 sc0 A n c) (ht : takeV on a.st f.ty f.st = true) (hp : partB f.ty = false) :
    Calls Try.prog 11 #[.pointer (some ⟨g, 0, none⟩), .agg #[.int .i64 f.ty, .int .i64 f.fl, .int .i64 f.st, .int .i64 f.pad, .slice D dn dc, .slice S sn sc, .int .i64 f.wt, .int .i64 f.par, .bool f.alone, .int .i64 f.prom, .int .i64 f.last, .int .i64 f.code, .int .i64 f.step]] w fun e w' => e = .returned (.tuple #[.agg #[.int .i64 0, .int .i64 0, .int .i64 0, .int .i64 0, .slice none 0 0, .slice none 0 0, .int .i64 0, .int .i64 0, .bool false, .int .i64 0, .int .i64 0, .int .i64 0, .int .i64 0], .bool false, .int .i64 0]) ∧ Below w.heap.size w w' := by
  obtain ⟨bx, hbx⟩ : ∃ bx, w.heap.size = bx := ⟨_, rfl⟩
  obtain ⟨W1, hW1⟩ : ∃ W1, w.alloc (.cells #[.int .i64 f.ty, .int .i64 f.fl, .int .i64 f.st, .int .i64 f.pad, .slice D dn dc, .slice S sn sc, .int .i64 f.wt, .int .i64 f.par, .bool f.alone, .int .i64 f.prom, .int .i64 f.last, .int .i64 f.code, .int .i64 f.step] 30) = W1 := ⟨_, rfl⟩
  obtain ⟨r, hr⟩ : ∃ r, W1.heap.size = r := ⟨_, rfl⟩
  obtain ⟨W2, hW2⟩ : ∃ W2, W1.alloc (.cells #[.int .i64 0, .int .i64 0, .int .i64 0, .int .i64 0, .slice none 0 0, .slice none 0 0, .int .i64 0, .int .i64 0, .bool false, .int .i64 0, .int .i64 0, .int .i64 0, .int .i64 0] 30) = W2 := ⟨_, rfl⟩
  have HN : Hid (g ≠ bx ∧ g ≠ r ∧ bx ≠ r ∧ bx ≤ r ∧ w.heap.size = bx) := hide (by
    have h1 : W1.heap.size = w.heap.size + 1 := by rw [← hW1]; simp
    have h2 := h.lt
    omega)
  have HB2 : Hid (Below w.heap.size w W2) := hide (by
    rw [← hW2, ← hW1]; exact ((Below.refl _ _).alloc (Nat.le_refl _) _).alloc (by simp) _)
  have HA2 : Hid (Blk W2 g 45 #[.int .i64 M, .bool on, .int .i64 a.ty, .int .i64 a.fl, .int .i64 a.st, .int .i64 a.pad, .slice D0 dn0 dc0, .slice S0 sn0 sc0, .int .i64 a.wt, .int .i64 a.par, .bool a.alone, .int .i64 a.prom, .int .i64 a.last, .int .i64 a.code, .int .i64 a.step, .slice A n c]) := hide (Blk.kept h HB2.out)
  have HF2 : Hid (Blk W2 bx 30 #[.int .i64 f.ty, .int .i64 f.fl, .int .i64 f.st, .int .i64 f.pad, .slice D dn dc, .slice S sn sc, .int .i64 f.wt, .int .i64 f.par, .bool f.alone, .int .i64 f.prom, .int .i64 f.last, .int .i64 f.code, .int .i64 f.step]) := hide (by rw [← hW2, ← hW1, ← hbx]; exact (Blk.born w 30 _).alloc _)
  have HR2 : Hid (Blk W2 r 30 #[.int .i64 0, .int .i64 0, .int .i64 0, .int .i64 0, .slice none 0 0, .slice none 0 0, .int .i64 0, .int .i64 0, .bool false, .int .i64 0, .int .i64 0, .int .i64 0, .int .i64 0]) := hide (by rw [← hW2, ← hr]; exact Blk.born W1 30 _)
  have b1 : W2.cell? ⟨g, 1, none⟩ = some (.bool on) := HA2.out.cell 1
  have b4 : W2.cell? ⟨g, 4, none⟩ = some (.int .i64 a.st) := HA2.out.cell 4
  have x0 : W2.cell? ⟨bx, 0, none⟩ = some (.int .i64 f.ty) := HF2.out.cell 0
  have x1 : W2.cell? ⟨bx, 1, none⟩ = some (.int .i64 f.fl) := HF2.out.cell 1
  have x2 : W2.cell? ⟨bx, 2, none⟩ = some (.int .i64 f.st) := HF2.out.cell 2
  have x3 : W2.cell? ⟨bx, 3, none⟩ = some (.int .i64 f.pad) := HF2.out.cell 3
  have x4 : W2.cell? ⟨bx, 4, none⟩ = some (.slice D dn dc) := HF2.out.cell 4
  have x5 : W2.cell? ⟨bx, 5, none⟩ = some (.slice S sn sc) := HF2.out.cell 5
  have x6 : W2.cell? ⟨bx, 6, none⟩ = some (.int .i64 f.wt) := HF2.out.cell 6
  have x7 : W2.cell? ⟨bx, 7, none⟩ = some (.int .i64 f.par) := HF2.out.cell 7
  have x8 : W2.cell? ⟨bx, 8, none⟩ = some (.bool f.alone) := HF2.out.cell 8
  have x9 : W2.cell? ⟨bx, 9, none⟩ = some (.int .i64 f.prom) := HF2.out.cell 9
  have x10 : W2.cell? ⟨bx, 10, none⟩ = some (.int .i64 f.last) := HF2.out.cell 10
  have x11 : W2.cell? ⟨bx, 11, none⟩ = some (.int .i64 f.code) := HF2.out.cell 11
  have x12 : W2.cell? ⟨bx, 12, none⟩ = some (.int .i64 f.step) := HF2.out.cell 12
  clear h
  have hc := takes_any f D S dn dc sn sc g on a.st W2 b1 b4
  have hd := fun w => hide (part_any f D S dn dc sn sc w)
  rw [ht] at hc
  simp only [hp] at hd
  clear ht hp
  go_enter Try.func11, Try.ntmps11
  go_wp2_with fail
  refine hc.mono ?_
  rintro e w3 ⟨rfl, hb⟩
  have HB3 := hide (below_nextB HB2.out HB2.out.size hb)
  have HA3 := hide (HA2.out.kept hb)
  have HF3 := hide (HF2.out.kept hb)
  have HR3 := hide (HR2.out.kept hb)
  clear hb
  have y0 : w3.cell? ⟨bx, 0, none⟩ = some (.int .i64 f.ty) := HF3.out.cell 0
  have y1 : w3.cell? ⟨bx, 1, none⟩ = some (.int .i64 f.fl) := HF3.out.cell 1
  have y2 : w3.cell? ⟨bx, 2, none⟩ = some (.int .i64 f.st) := HF3.out.cell 2
  have y3 : w3.cell? ⟨bx, 3, none⟩ = some (.int .i64 f.pad) := HF3.out.cell 3
  have y4 : w3.cell? ⟨bx, 4, none⟩ = some (.slice D dn dc) := HF3.out.cell 4
  have y5 : w3.cell? ⟨bx, 5, none⟩ = some (.slice S sn sc) := HF3.out.cell 5
  have y6 : w3.cell? ⟨bx, 6, none⟩ = some (.int .i64 f.wt) := HF3.out.cell 6
  have y7 : w3.cell? ⟨bx, 7, none⟩ = some (.int .i64 f.par) := HF3.out.cell 7
  have y8 : w3.cell? ⟨bx, 8, none⟩ = some (.bool f.alone) := HF3.out.cell 8
  have y9 : w3.cell? ⟨bx, 9, none⟩ = some (.int .i64 f.prom) := HF3.out.cell 9
  have y10 : w3.cell? ⟨bx, 10, none⟩ = some (.int .i64 f.last) := HF3.out.cell 10
  have y11 : w3.cell? ⟨bx, 11, none⟩ = some (.int .i64 f.code) := HF3.out.cell 11
  have y12 : w3.cell? ⟨bx, 12, none⟩ = some (.int .i64 f.step) := HF3.out.cell 12
  go_wp2_with fail
  refine (hd w3).out.mono ?_
  rintro e w4 ⟨rfl, hb⟩
  have HB4 := hide (below_nextB HB3.out HB3.out.size hb)
  have HA4 := hide (HA3.out.kept hb)
  have HF4 := hide (HF3.out.kept hb)
  have HR4 := hide (HR3.out.kept hb)
  clear hb
  obtain ⟨W9, hW9⟩ : ∃ W9, w4.setRow r #[.int .i64 0, .int .i64 0, .int .i64 0, .int .i64 0, .slice none 0 0, .slice none 0 0, .int .i64 0, .int .i64 0, .bool false, .int .i64 0, .int .i64 0, .int .i64 0, .int .i64 0] = W9 := ⟨_, rfl⟩
  have HR9 : Hid (Blk W9 r 30 #[.int .i64 0, .int .i64 0, .int .i64 0, .int .i64 0, .slice none 0 0, .slice none 0 0, .int .i64 0, .int .i64 0, .bool false, .int .i64 0, .int .i64 0, .int .i64 0, .int .i64 0]) := hide (by rw [← hW9]; exact HR4.out.setRow _)
  have HB9 : Hid (Below w.heap.size w W9) := hide (by
    have h1 := HB4.out
    have h2 : Only [r] w4 W9 := by rw [← hW9]; exact Only.setRow _ _ _ (List.mem_singleton.2 rfl)
    exact h1.trans (h2.below h1.size (fun b hb => by rw [List.mem_singleton.1 hb]; have := HN.out; omega)))
  have r0 : W9.cell? ⟨r, 0, none⟩ = some (.int .i64 0) := HR9.out.cell 0
  have r1 : W9.cell? ⟨r, 1, none⟩ = some (.int .i64 0) := HR9.out.cell 1
  have r2 : W9.cell? ⟨r, 2, none⟩ = some (.int .i64 0) := HR9.out.cell 2
  have r3 : W9.cell? ⟨r, 3, none⟩ = some (.int .i64 0) := HR9.out.cell 3
  have r4 : W9.cell? ⟨r, 4, none⟩ = some (.slice none 0 0) := HR9.out.cell 4
  have r5 : W9.cell? ⟨r, 5, none⟩ = some (.slice none 0 0) := HR9.out.cell 5
  have r6 : W9.cell? ⟨r, 6, none⟩ = some (.int .i64 0) := HR9.out.cell 6
  have r7 : W9.cell? ⟨r, 7, none⟩ = some (.int .i64 0) := HR9.out.cell 7
  have r8 : W9.cell? ⟨r, 8, none⟩ = some (.bool false) := HR9.out.cell 8
  have r9 : W9.cell? ⟨r, 9, none⟩ = some (.int .i64 0) := HR9.out.cell 9
  have r10 : W9.cell? ⟨r, 10, none⟩ = some (.int .i64 0) := HR9.out.cell 10
  have r11 : W9.cell? ⟨r, 11, none⟩ = some (.int .i64 0) := HR9.out.cell 11
  have r12 : W9.cell? ⟨r, 12, none⟩ = some (.int .i64 0) := HR9.out.cell 12
  go_wp2_with (((with_reducible refine wpList_store_row (o := { dst := none, op := .store 30 (.tmp 4) (.tmp 21), type := _, pos := _, after := _, guard := none }) rfl 30 (.tmp 4) (.tmp 21) rfl r #[.int .i64 0, .int .i64 0, .int .i64 0, .int .i64 0, .slice none 0 0, .slice none 0 0, .int .i64 0, .int .i64 0, .bool false, .int .i64 0, .int .i64 0, .int .i64 0, .int .i64 0] ?_ ?_ 30 #[.int .i64 0, .int .i64 0, .int .i64 0, .int .i64 0, .slice none 0 0, .slice none 0 0, .int .i64 0, .int .i64 0, .bool false, .int .i64 0, .int .i64 0, .int .i64 0, .int .i64 0] ?_ ?_ ?_ ?_ ?_); rfl; rfl; exact HR4.out; kernel_rfl; rfl; simp [Value.oneCell']))
  try rw [hW9]
  refine bodyPost_ret (v := .tuple #[.agg #[.int .i64 0, .int .i64 0, .int .i64 0, .int .i64 0, .slice none 0 0, .slice none 0 0, .int .i64 0, .int .i64 0, .bool false, .int .i64 0, .int .i64 0, .int .i64 0, .int .i64 0], .bool false, .int .i64 0]) (by simp [results, Try.results11, go_sem, r0, r1, r2, r3, r4, r5, r6, r7, r8, r9, r10, r11, r12]) rfl ⟨rfl, HB9.out⟩

set_option maxRecDepth 100000 in
set_option maxHeartbeats 2000000 in
theorem add_long (g : Nat) (M : Int) (on : Bool) (a : Fr) (D0 S0 : Option Addr) (dn0 dc0 sn0 sc0 : Nat) (A : Option Addr) (n c : Nat) (f : Fr) (D S : Option Addr) (dn dc sn sc : Nat) (w : World) (h : Asm w g M on a D0 S0 dn0 dc0 sn0 sc0 A n c) (ht : takeV on a.st f.ty f.st = true) (hp : partB f.ty = true) (hM : 0 ≤ M) (hM1 : M ≤ 9223372036854775807) (hn : n ≤ 1000000) (hd : dn ≤ 1000000) (hl : M < (n : Int) + dn) :
    Calls Try.prog 11 #[.pointer (some ⟨g, 0, none⟩), .agg #[.int .i64 f.ty, .int .i64 f.fl, .int .i64 f.st, .int .i64 f.pad, .slice D dn dc, .slice S sn sc, .int .i64 f.wt, .int .i64 f.par, .bool f.alone, .int .i64 f.prom, .int .i64 f.last, .int .i64 f.code, .int .i64 f.step]] w fun e w' => e = .returned (.tuple #[.agg #[.int .i64 0, .int .i64 0, .int .i64 0, .int .i64 0, .slice none 0 0, .slice none 0 0, .int .i64 0, .int .i64 0, .bool false, .int .i64 0, .int .i64 0, .int .i64 0, .int .i64 0], .bool false, .int .i64 9]) ∧ Below w.heap.size w w' := by
  obtain ⟨bx, hbx⟩ : ∃ bx, w.heap.size = bx := ⟨_, rfl⟩
  obtain ⟨W1, hW1⟩ : ∃ W1, w.alloc (.cells #[.int .i64 f.ty, .int .i64 f.fl, .int .i64 f.st, .int .i64 f.pad, .slice D dn dc, .slice S sn sc, .int .i64 f.wt, .int .i64 f.par, .bool f.alone, .int .i64 f.prom, .int .i64 f.last, .int .i64 f.code, .int .i64 f.step] 30) = W1 := ⟨_, rfl⟩
  obtain ⟨r, hr⟩ : ∃ r, W1.heap.size = r := ⟨_, rfl⟩
  obtain ⟨W2, hW2⟩ : ∃ W2, W1.alloc (.cells #[.int .i64 0, .int .i64 0, .int .i64 0, .int .i64 0, .slice none 0 0, .slice none 0 0, .int .i64 0, .int .i64 0, .bool false, .int .i64 0, .int .i64 0, .int .i64 0, .int .i64 0] 30) = W2 := ⟨_, rfl⟩
  have HN : Hid (g ≠ bx ∧ g ≠ r ∧ bx ≠ r ∧ bx ≤ r ∧ w.heap.size = bx) := hide (by
    have h1 : W1.heap.size = w.heap.size + 1 := by rw [← hW1]; simp
    have h2 := h.lt
    omega)
  have HB2 : Hid (Below w.heap.size w W2) := hide (by
    rw [← hW2, ← hW1]; exact ((Below.refl _ _).alloc (Nat.le_refl _) _).alloc (by simp) _)
  have HA2 : Hid (Blk W2 g 45 #[.int .i64 M, .bool on, .int .i64 a.ty, .int .i64 a.fl, .int .i64 a.st, .int .i64 a.pad, .slice D0 dn0 dc0, .slice S0 sn0 sc0, .int .i64 a.wt, .int .i64 a.par, .bool a.alone, .int .i64 a.prom, .int .i64 a.last, .int .i64 a.code, .int .i64 a.step, .slice A n c]) := hide (Blk.kept h HB2.out)
  have HF2 : Hid (Blk W2 bx 30 #[.int .i64 f.ty, .int .i64 f.fl, .int .i64 f.st, .int .i64 f.pad, .slice D dn dc, .slice S sn sc, .int .i64 f.wt, .int .i64 f.par, .bool f.alone, .int .i64 f.prom, .int .i64 f.last, .int .i64 f.code, .int .i64 f.step]) := hide (by rw [← hW2, ← hW1, ← hbx]; exact (Blk.born w 30 _).alloc _)
  have HR2 : Hid (Blk W2 r 30 #[.int .i64 0, .int .i64 0, .int .i64 0, .int .i64 0, .slice none 0 0, .slice none 0 0, .int .i64 0, .int .i64 0, .bool false, .int .i64 0, .int .i64 0, .int .i64 0, .int .i64 0]) := hide (by rw [← hW2, ← hr]; exact Blk.born W1 30 _)
  have b1 : W2.cell? ⟨g, 1, none⟩ = some (.bool on) := HA2.out.cell 1
  have b4 : W2.cell? ⟨g, 4, none⟩ = some (.int .i64 a.st) := HA2.out.cell 4
  have x0 : W2.cell? ⟨bx, 0, none⟩ = some (.int .i64 f.ty) := HF2.out.cell 0
  have x1 : W2.cell? ⟨bx, 1, none⟩ = some (.int .i64 f.fl) := HF2.out.cell 1
  have x2 : W2.cell? ⟨bx, 2, none⟩ = some (.int .i64 f.st) := HF2.out.cell 2
  have x3 : W2.cell? ⟨bx, 3, none⟩ = some (.int .i64 f.pad) := HF2.out.cell 3
  have x4 : W2.cell? ⟨bx, 4, none⟩ = some (.slice D dn dc) := HF2.out.cell 4
  have x5 : W2.cell? ⟨bx, 5, none⟩ = some (.slice S sn sc) := HF2.out.cell 5
  have x6 : W2.cell? ⟨bx, 6, none⟩ = some (.int .i64 f.wt) := HF2.out.cell 6
  have x7 : W2.cell? ⟨bx, 7, none⟩ = some (.int .i64 f.par) := HF2.out.cell 7
  have x8 : W2.cell? ⟨bx, 8, none⟩ = some (.bool f.alone) := HF2.out.cell 8
  have x9 : W2.cell? ⟨bx, 9, none⟩ = some (.int .i64 f.prom) := HF2.out.cell 9
  have x10 : W2.cell? ⟨bx, 10, none⟩ = some (.int .i64 f.last) := HF2.out.cell 10
  have x11 : W2.cell? ⟨bx, 11, none⟩ = some (.int .i64 f.code) := HF2.out.cell 11
  have x12 : W2.cell? ⟨bx, 12, none⟩ = some (.int .i64 f.step) := HF2.out.cell 12
  clear h
  have hc := takes_any f D S dn dc sn sc g on a.st W2 b1 b4
  have hd2 := fun w => hide (part_any f D S dn dc sn sc w)
  rw [ht] at hc
  simp only [hp] at hd2
  have hgt : (dn : Int) > M - (n : Int) := by omega
  have hq1 : -9223372036854775808 ≤ M - (n : Int) := by omega
  have hq2 : M - (n : Int) ≤ 9223372036854775807 := by omega
  clear ht hp
  go_enter Try.func11, Try.ntmps11
  go_wp2_with fail
  refine hc.mono ?_
  rintro e w3 ⟨rfl, hb⟩
  have HB3 := hide (below_nextB HB2.out HB2.out.size hb)
  have HA3 := hide (HA2.out.kept hb)
  have HF3 := hide (HF2.out.kept hb)
  have HR3 := hide (HR2.out.kept hb)
  clear hb
  have y0 : w3.cell? ⟨bx, 0, none⟩ = some (.int .i64 f.ty) := HF3.out.cell 0
  have y1 : w3.cell? ⟨bx, 1, none⟩ = some (.int .i64 f.fl) := HF3.out.cell 1
  have y2 : w3.cell? ⟨bx, 2, none⟩ = some (.int .i64 f.st) := HF3.out.cell 2
  have y3 : w3.cell? ⟨bx, 3, none⟩ = some (.int .i64 f.pad) := HF3.out.cell 3
  have y4 : w3.cell? ⟨bx, 4, none⟩ = some (.slice D dn dc) := HF3.out.cell 4
  have y5 : w3.cell? ⟨bx, 5, none⟩ = some (.slice S sn sc) := HF3.out.cell 5
  have y6 : w3.cell? ⟨bx, 6, none⟩ = some (.int .i64 f.wt) := HF3.out.cell 6
  have y7 : w3.cell? ⟨bx, 7, none⟩ = some (.int .i64 f.par) := HF3.out.cell 7
  have y8 : w3.cell? ⟨bx, 8, none⟩ = some (.bool f.alone) := HF3.out.cell 8
  have y9 : w3.cell? ⟨bx, 9, none⟩ = some (.int .i64 f.prom) := HF3.out.cell 9
  have y10 : w3.cell? ⟨bx, 10, none⟩ = some (.int .i64 f.last) := HF3.out.cell 10
  have y11 : w3.cell? ⟨bx, 11, none⟩ = some (.int .i64 f.code) := HF3.out.cell 11
  have y12 : w3.cell? ⟨bx, 12, none⟩ = some (.int .i64 f.step) := HF3.out.cell 12
  go_wp2_with fail
  refine (hd2 w3).out.mono ?_
  rintro e w4 ⟨rfl, hb⟩
  have HB4 := hide (below_nextB HB3.out HB3.out.size hb)
  have HA4 := hide (HA3.out.kept hb)
  have HF4 := hide (HF3.out.kept hb)
  have HR4 := hide (HR3.out.kept hb)
  clear hb
  have z4 : w4.cell? ⟨bx, 4, none⟩ = some (.slice D dn dc) := HF4.out.cell 4
  have q0 : w4.cell? ⟨g, 0, none⟩ = some (.int .i64 M) := HA4.out.cell 0
  have q15 : w4.cell? ⟨g, 15, none⟩ = some (.slice A n c) := HA4.out.cell 15
  go_wp2_with fail
  go_quiet (fail)
  have HR5 := hide (HR4.out.drewN nq)
  have HB5 := hide (below_drewN HB4.out nq)
  obtain ⟨w5, hw5⟩ : ∃ w5, w4.drewN nq = w5 := ⟨_, rfl⟩
  rw [hw5] at HR5 HB5
  rw [hw5]
  obtain ⟨W9, hW9⟩ : ∃ W9, w5.setRow r #[.int .i64 0, .int .i64 0, .int .i64 0, .int .i64 0, .slice none 0 0, .slice none 0 0, .int .i64 0, .int .i64 0, .bool false, .int .i64 0, .int .i64 0, .int .i64 0, .int .i64 0] = W9 := ⟨_, rfl⟩
  have HR9 : Hid (Blk W9 r 30 #[.int .i64 0, .int .i64 0, .int .i64 0, .int .i64 0, .slice none 0 0, .slice none 0 0, .int .i64 0, .int .i64 0, .bool false, .int .i64 0, .int .i64 0, .int .i64 0, .int .i64 0]) := hide (by rw [← hW9]; exact HR5.out.setRow _)
  have HB9 : Hid (Below w.heap.size w W9) := hide (by
    have h1 := HB5.out
    have h2 : Only [r] w5 W9 := by rw [← hW9]; exact Only.setRow _ _ _ (List.mem_singleton.2 rfl)
    exact h1.trans (h2.below h1.size (fun b hb => by rw [List.mem_singleton.1 hb]; have := HN.out; omega)))
  have r0 : W9.cell? ⟨r, 0, none⟩ = some (.int .i64 0) := HR9.out.cell 0
  have r1 : W9.cell? ⟨r, 1, none⟩ = some (.int .i64 0) := HR9.out.cell 1
  have r2 : W9.cell? ⟨r, 2, none⟩ = some (.int .i64 0) := HR9.out.cell 2
  have r3 : W9.cell? ⟨r, 3, none⟩ = some (.int .i64 0) := HR9.out.cell 3
  have r4 : W9.cell? ⟨r, 4, none⟩ = some (.slice none 0 0) := HR9.out.cell 4
  have r5 : W9.cell? ⟨r, 5, none⟩ = some (.slice none 0 0) := HR9.out.cell 5
  have r6 : W9.cell? ⟨r, 6, none⟩ = some (.int .i64 0) := HR9.out.cell 6
  have r7 : W9.cell? ⟨r, 7, none⟩ = some (.int .i64 0) := HR9.out.cell 7
  have r8 : W9.cell? ⟨r, 8, none⟩ = some (.bool false) := HR9.out.cell 8
  have r9 : W9.cell? ⟨r, 9, none⟩ = some (.int .i64 0) := HR9.out.cell 9
  have r10 : W9.cell? ⟨r, 10, none⟩ = some (.int .i64 0) := HR9.out.cell 10
  have r11 : W9.cell? ⟨r, 11, none⟩ = some (.int .i64 0) := HR9.out.cell 11
  have r12 : W9.cell? ⟨r, 12, none⟩ = some (.int .i64 0) := HR9.out.cell 12
  go_wp2_with (((with_reducible refine wpList_store_row (o := { dst := none, op := .store 30 (.tmp 4) (.tmp 37), type := _, pos := _, after := _, guard := none }) rfl 30 (.tmp 4) (.tmp 37) rfl r #[.int .i64 0, .int .i64 0, .int .i64 0, .int .i64 0, .slice none 0 0, .slice none 0 0, .int .i64 0, .int .i64 0, .bool false, .int .i64 0, .int .i64 0, .int .i64 0, .int .i64 0] ?_ ?_ 30 #[.int .i64 0, .int .i64 0, .int .i64 0, .int .i64 0, .slice none 0 0, .slice none 0 0, .int .i64 0, .int .i64 0, .bool false, .int .i64 0, .int .i64 0, .int .i64 0, .int .i64 0] ?_ ?_ ?_ ?_ ?_); rfl; rfl; exact HR5.out; kernel_rfl; rfl; simp [Value.oneCell']))
  try rw [hW9]
  refine bodyPost_ret (v := .tuple #[.agg #[.int .i64 0, .int .i64 0, .int .i64 0, .int .i64 0, .slice none 0 0, .slice none 0 0, .int .i64 0, .int .i64 0, .bool false, .int .i64 0, .int .i64 0, .int .i64 0, .int .i64 0], .bool false, .int .i64 9]) (by simp [results, Try.results11, go_sem, r0, r1, r2, r3, r4, r5, r6, r7, r8, r9, r10, r11, r12]) rfl ⟨rfl, HB9.out⟩

end Go.Proofs.Ytpjibdnoiioaoaa
