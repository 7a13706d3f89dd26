/- Contract: Add, the first part of a block. -/
import Derived.Test.YtpjibdnoiioaoaaS
namespace Go.Proofs.Ytpjibdnoiioaoaa
open Go.RowKit
set_option linter.unusedSimpArgs false
set_option linter.unusedVariables false

set_option maxRecDepth 100000 in
set_option maxHeartbeats 2000000 in
theorem add_first (g : Nat) (M : Int) (f : Fr) (D S : Option Addr) (dn dc sn sc : Nat) (w : World) (G : Nat → Prop) (hG : ∀ b, G b → b < w.heap.size) (h0 : AsmN w g M) (ht : takeV false 0 f.ty f.st = true) (hp : partB f.ty = true) (hM1 : M ≤ 9223372036854775807) (hn : 0 ≤ 1000000) (hdn : dn ≤ 1000000) (hsn : sn ≤ 1000) (hl : (0 : Int) + dn ≤ M) (hff : f.fl ≤ 9223372036854775807) (hfs : FS w (fun b => b ∉ [g]) f D dn dc S sn sc) :
    Calls Try.prog 11 #[.pointer (some ⟨g, 0, none⟩), .agg #[.int .i64 f.ty, .int .i64 f.fl, .int .i64 f.st, .int .i64 f.pad, .slice D dn dc, .slice S sn sc, .int .i64 f.wt, .int .i64 f.par, .bool f.alone, .int .i64 f.prom, .int .i64 f.last, .int .i64 f.code, .int .i64 f.step]] w (fun e w' => (hasB f.ty f.fl 4 = true ∧ AddPost g M [g] G w false Fr.zero [] f true 0 e w') ∨ (hasB f.ty f.fl 4 = false ∧ AddPost g M [g] G w true f f.data Fr.zero false 0 e w')) := by
  have h : Blk w g 45 #[.int .i64 M, .bool false, .int .i64 0, .int .i64 0, .int .i64 0, .int .i64 0, .slice none 0 0, .slice none 0 0, .int .i64 0, .int .i64 0, .bool false, .int .i64 0, .int .i64 0, .int .i64 0, .int .i64 0, .slice none 0 0] := h0
  have HI := hide h0
  obtain ⟨bx, hbx⟩ : ∃ bx, w.heap.size = bx := ⟨_, rfl⟩
  obtain ⟨W1, hW1⟩ : ∃ W1, w.alloc (.cells #[.int .i64 f.ty, .int .i64 f.fl, .int .i64 f.st, .int .i64 f.pad, .slice D dn dc, .slice S sn sc, .int .i64 f.wt, .int .i64 f.par, .bool f.alone, .int .i64 f.prom, .int .i64 f.last, .int .i64 f.code, .int .i64 f.step] 30) = W1 := ⟨_, rfl⟩
  obtain ⟨r, hr⟩ : ∃ r, W1.heap.size = r := ⟨_, rfl⟩
  obtain ⟨W2, hW2⟩ : ∃ W2, W1.alloc (.cells #[.int .i64 0, .int .i64 0, .int .i64 0, .int .i64 0, .slice none 0 0, .slice none 0 0, .int .i64 0, .int .i64 0, .bool false, .int .i64 0, .int .i64 0, .int .i64 0, .int .i64 0] 30) = W2 := ⟨_, rfl⟩
  have HN : Hid (g ≠ bx ∧ g ≠ r ∧ bx ≠ r ∧ bx ≤ r ∧ w.heap.size = bx) := hide (by
    have h1 : W1.heap.size = w.heap.size + 1 := by rw [← hW1]; simp
    have h2 := h.lt
    omega)
  have HB2 : Hid (Below w.heap.size w W2) := hide (by
    rw [← hW2, ← hW1]; exact ((Below.refl _ _).alloc (Nat.le_refl _) _).alloc (by simp) _)
  have HA2 : Hid (Blk W2 g 45 #[.int .i64 M, .bool false, .int .i64 0, .int .i64 0, .int .i64 0, .int .i64 0, .slice none 0 0, .slice none 0 0, .int .i64 0, .int .i64 0, .bool false, .int .i64 0, .int .i64 0, .int .i64 0, .int .i64 0, .slice none 0 0]) := hide (Blk.kept h HB2.out)
  have HF2 : Hid (Blk W2 bx 30 #[.int .i64 f.ty, .int .i64 f.fl, .int .i64 f.st, .int .i64 f.pad, .slice D dn dc, .slice S sn sc, .int .i64 f.wt, .int .i64 f.par, .bool f.alone, .int .i64 f.prom, .int .i64 f.last, .int .i64 f.code, .int .i64 f.step]) := hide (by rw [← hW2, ← hW1, ← hbx]; exact (Blk.born w 30 _).alloc _)
  have HR2 : Hid (Blk W2 r 30 #[.int .i64 0, .int .i64 0, .int .i64 0, .int .i64 0, .slice none 0 0, .slice none 0 0, .int .i64 0, .int .i64 0, .bool false, .int .i64 0, .int .i64 0, .int .i64 0, .int .i64 0]) := hide (by rw [← hW2, ← hr]; exact Blk.born W1 30 _)
  have b1 : W2.cell? ⟨g, 1, none⟩ = some (.bool false) := HA2.out.cell 1
  have b4 : W2.cell? ⟨g, 4, none⟩ = some (.int .i64 0) := HA2.out.cell 4
  have x0 : W2.cell? ⟨bx, 0, none⟩ = some (.int .i64 f.ty) := HF2.out.cell 0
  have x1 : W2.cell? ⟨bx, 1, none⟩ = some (.int .i64 f.fl) := HF2.out.cell 1
  have x2 : W2.cell? ⟨bx, 2, none⟩ = some (.int .i64 f.st) := HF2.out.cell 2
  have x3 : W2.cell? ⟨bx, 3, none⟩ = some (.int .i64 f.pad) := HF2.out.cell 3
  have x4 : W2.cell? ⟨bx, 4, none⟩ = some (.slice D dn dc) := HF2.out.cell 4
  have x5 : W2.cell? ⟨bx, 5, none⟩ = some (.slice S sn sc) := HF2.out.cell 5
  have x6 : W2.cell? ⟨bx, 6, none⟩ = some (.int .i64 f.wt) := HF2.out.cell 6
  have x7 : W2.cell? ⟨bx, 7, none⟩ = some (.int .i64 f.par) := HF2.out.cell 7
  have x8 : W2.cell? ⟨bx, 8, none⟩ = some (.bool f.alone) := HF2.out.cell 8
  have x9 : W2.cell? ⟨bx, 9, none⟩ = some (.int .i64 f.prom) := HF2.out.cell 9
  have x10 : W2.cell? ⟨bx, 10, none⟩ = some (.int .i64 f.last) := HF2.out.cell 10
  have x11 : W2.cell? ⟨bx, 11, none⟩ = some (.int .i64 f.code) := HF2.out.cell 11
  have x12 : W2.cell? ⟨bx, 12, none⟩ = some (.int .i64 f.step) := HF2.out.cell 12
  clear h
  have HFS := hide hfs
  have HGG := hide hG
  clear hG
  have hc := takes_any f D S dn dc sn sc g false 0 W2 b1 b4
  have hd2 := fun w => hide (part_any f D S dn dc sn sc w)
  have HHas := fun w => hide (has_any f.ty f.fl 4 w hff)
  rw [ht] at hc
  simp only [hp] at hd2
  have hgt : ¬ (dn : Int) > M - (0 : Int) := by omega
  have hq1 : -9223372036854775808 ≤ M - (0 : Int) := by omega
  have hq2 : M - (0 : Int) ≤ 9223372036854775807 := by omega
  clear ht hp hfs hff
  go_enter Try.func11, Try.ntmps11
  go_wp2_with fail
  refine hc.mono ?_
  rintro e w3 ⟨rfl, hb⟩
  have HB3 := hide (below_nextB HB2.out HB2.out.size hb)
  have HA3 := hide (HA2.out.kept hb)
  have HF3 := hide (HF2.out.kept hb)
  have HR3 := hide (HR2.out.kept hb)
  clear hb
  have y0 : w3.cell? ⟨bx, 0, none⟩ = some (.int .i64 f.ty) := HF3.out.cell 0
  have y1 : w3.cell? ⟨bx, 1, none⟩ = some (.int .i64 f.fl) := HF3.out.cell 1
  have y2 : w3.cell? ⟨bx, 2, none⟩ = some (.int .i64 f.st) := HF3.out.cell 2
  have y3 : w3.cell? ⟨bx, 3, none⟩ = some (.int .i64 f.pad) := HF3.out.cell 3
  have y4 : w3.cell? ⟨bx, 4, none⟩ = some (.slice D dn dc) := HF3.out.cell 4
  have y5 : w3.cell? ⟨bx, 5, none⟩ = some (.slice S sn sc) := HF3.out.cell 5
  have y6 : w3.cell? ⟨bx, 6, none⟩ = some (.int .i64 f.wt) := HF3.out.cell 6
  have y7 : w3.cell? ⟨bx, 7, none⟩ = some (.int .i64 f.par) := HF3.out.cell 7
  have y8 : w3.cell? ⟨bx, 8, none⟩ = some (.bool f.alone) := HF3.out.cell 8
  have y9 : w3.cell? ⟨bx, 9, none⟩ = some (.int .i64 f.prom) := HF3.out.cell 9
  have y10 : w3.cell? ⟨bx, 10, none⟩ = some (.int .i64 f.last) := HF3.out.cell 10
  have y11 : w3.cell? ⟨bx, 11, none⟩ = some (.int .i64 f.code) := HF3.out.cell 11
  have y12 : w3.cell? ⟨bx, 12, none⟩ = some (.int .i64 f.step) := HF3.out.cell 12
  go_wp2_with fail
  refine (hd2 w3).out.mono ?_
  rintro e w4 ⟨rfl, hb⟩
  have HB4 := hide (below_nextB HB3.out HB3.out.size hb)
  have HA4 := hide (HA3.out.kept hb)
  have HF4 := hide (HF3.out.kept hb)
  have HR4 := hide (HR3.out.kept hb)
  clear hb
  have z4 : w4.cell? ⟨bx, 4, none⟩ = some (.slice D dn dc) := HF4.out.cell 4
  have q0 : w4.cell? ⟨g, 0, none⟩ = some (.int .i64 M) := HA4.out.cell 0
  have q1 : (w4.cell? ⟨g, 1, none⟩) = some (.bool false) := HA4.out.cell 1
  have q15 : w4.cell? ⟨g, 15, none⟩ = some (.slice none 0 0) := HA4.out.cell 15
  clear hc hd2 HA2 HF2 HR2 HB2 HA3 HF3 HR3 HB3 b1 b4
  clear x0 y0 x1 y1 x2 y2 x3 y3 x4 y4 x5 y5 x6 y6 x7 y7 x8 y8 x9 y9 x10 y10 x11 y11 x12 y12
  go_wp2_with fail
  go_quiet (fail)
  have HA5 := hide (HA4.out.drewN nq)
  have HF5 := hide (HF4.out.drewN nq)
  have HR5 := hide (HR4.out.drewN nq)
  have HB5 := hide (below_drewN HB4.out nq)
  obtain ⟨w5, hw5⟩ : ∃ w5, w4.drewN nq = w5 := ⟨_, rfl⟩
  rw [hw5] at HA5 HF5 HR5 HB5
  rw [hw5]
  clear hw5 HA4 HF4 HR4 HB4 z4 q0 q1 q15
  have q1 : w5.cell? ⟨g, 1, none⟩ = some (.bool false) := HA5.out.cell 1
  have u1 : w5.frozen? ⟨g, 1, none⟩ = false := HA5.out.free 1
  obtain ⟨v1, hv1⟩ : ∃ v1, w5.setCell ⟨g, 1, none⟩ (.bool true) = v1 := ⟨_, rfl⟩
  have HA6 : Hid (Blk v1 g 45 #[.int .i64 M, .bool true, .int .i64 0, .int .i64 0, .int .i64 0, .int .i64 0, .slice none 0 0, .slice none 0 0, .int .i64 0, .int .i64 0, .bool false, .int .i64 0, .int .i64 0, .int .i64 0, .int .i64 0, .slice none 0 0]) := hide (by rw [← hv1]; exact HA5.out.store 1 _)
  have HF6 : Hid (Blk v1 bx 30 #[.int .i64 f.ty, .int .i64 f.fl, .int .i64 f.st, .int .i64 f.pad, .slice D dn dc, .slice S sn sc, .int .i64 f.wt, .int .i64 f.par, .bool f.alone, .int .i64 f.prom, .int .i64 f.last, .int .i64 f.code, .int .i64 f.step]) := hide (by rw [← hv1]; exact HF5.out.aside HN.out.1.symm _)
  have HR6 : Hid (Blk v1 r 30 #[.int .i64 0, .int .i64 0, .int .i64 0, .int .i64 0, .slice none 0 0, .slice none 0 0, .int .i64 0, .int .i64 0, .bool false, .int .i64 0, .int .i64 0, .int .i64 0, .int .i64 0]) := hide (by rw [← hv1]; exact HR5.out.aside HN.out.2.1.symm _)
  have HM6 : Hid (Only [g] w v1) := hide (by rw [← hv1]; exact (Only.of_below HB5.out).next (Only.store (p := ⟨g, 1, none⟩) _ (List.mem_singleton.2 rfl) _) (fun b hb => .inl hb))
  have x0 : v1.cell? ⟨bx, 0, none⟩ = some (.int .i64 f.ty) := HF6.out.cell 0
  have x1 : v1.cell? ⟨bx, 1, none⟩ = some (.int .i64 f.fl) := HF6.out.cell 1
  have x2 : v1.cell? ⟨bx, 2, none⟩ = some (.int .i64 f.st) := HF6.out.cell 2
  have x3 : v1.cell? ⟨bx, 3, none⟩ = some (.int .i64 f.pad) := HF6.out.cell 3
  have x4 : v1.cell? ⟨bx, 4, none⟩ = some (.slice D dn dc) := HF6.out.cell 4
  have x5 : v1.cell? ⟨bx, 5, none⟩ = some (.slice S sn sc) := HF6.out.cell 5
  have x6 : v1.cell? ⟨bx, 6, none⟩ = some (.int .i64 f.wt) := HF6.out.cell 6
  have x7 : v1.cell? ⟨bx, 7, none⟩ = some (.int .i64 f.par) := HF6.out.cell 7
  have x8 : v1.cell? ⟨bx, 8, none⟩ = some (.bool f.alone) := HF6.out.cell 8
  have x9 : v1.cell? ⟨bx, 9, none⟩ = some (.int .i64 f.prom) := HF6.out.cell 9
  have x10 : v1.cell? ⟨bx, 10, none⟩ = some (.int .i64 f.last) := HF6.out.cell 10
  have x11 : v1.cell? ⟨bx, 11, none⟩ = some (.int .i64 f.code) := HF6.out.cell 11
  have x12 : v1.cell? ⟨bx, 12, none⟩ = some (.int .i64 f.step) := HF6.out.cell 12
  obtain ⟨v2, hv2⟩ : ∃ v2, v1.setCells g 2 (#[.int .i64 f.ty, .int .i64 f.fl, .int .i64 f.st, .int .i64 f.pad, .slice D dn dc, .slice S sn sc, .int .i64 f.wt, .int .i64 f.par, .bool f.alone, .int .i64 f.prom, .int .i64 f.last, .int .i64 f.code, .int .i64 f.step] : Array Value).toList = v2 := ⟨_, rfl⟩
  have HA7 : Hid (Blk v2 g 45 #[.int .i64 M, .bool true, .int .i64 f.ty, .int .i64 f.fl, .int .i64 f.st, .int .i64 f.pad, .slice D dn dc, .slice S sn sc, .int .i64 f.wt, .int .i64 f.par, .bool f.alone, .int .i64 f.prom, .int .i64 f.last, .int .i64 f.code, .int .i64 f.step, .slice none 0 0]) := hide (by
    have h1 := Blk.setCells (#[.int .i64 f.ty, .int .i64 f.fl, .int .i64 f.st, .int .i64 f.pad, .slice D dn dc, .slice S sn sc, .int .i64 f.wt, .int .i64 f.par, .bool f.alone, .int .i64 f.prom, .int .i64 f.last, .int .i64 f.code, .int .i64 f.step] : Array Value).toList 2 v1 _ HA6.out
    rw [hv2] at h1
    simp only [setL, List.setIfInBounds_toArray, List.set_cons_zero, List.set_cons_succ] at h1
    exact h1)
  have HM7' : Hid (Only [g] v1 v2) := hide (by
    rw [← hv2]
    exact Only.setCells (List.mem_singleton.2 rfl) _ _ _)
  have HF7 : Hid (Blk v2 bx 30 #[.int .i64 f.ty, .int .i64 f.fl, .int .i64 f.st, .int .i64 f.pad, .slice D dn dc, .slice S sn sc, .int .i64 f.wt, .int .i64 f.par, .bool f.alone, .int .i64 f.prom, .int .i64 f.last, .int .i64 f.code, .int .i64 f.step]) := hide (HF6.out.only HM7'.out (by simp; exact HN.out.1.symm))
  have HR7 : Hid (Blk v2 r 30 #[.int .i64 0, .int .i64 0, .int .i64 0, .int .i64 0, .slice none 0 0, .slice none 0 0, .int .i64 0, .int .i64 0, .bool false, .int .i64 0, .int .i64 0, .int .i64 0, .int .i64 0]) := hide (HR6.out.only HM7'.out (by simp; exact HN.out.2.1.symm))
  have HM7 : Hid (Only [g] w v2) := hide (HM6.out.next HM7'.out (fun b hb => .inl hb))
  have HTH : Hid (v1.there g 2 13) := hide (fun j hj => by
    have h1 := HA6.out.cell (2 + j)
    refine ⟨?_, HA6.out.free (2 + j)⟩
    rw [h1]
    have : j = 0 ∨ j = 1 ∨ j = 2 ∨ j = 3 ∨ j = 4 ∨ j = 5 ∨ j = 6 ∨ j = 7 ∨ j = 8 ∨ j = 9 ∨ j = 10 ∨ j = 11 ∨ j = 12 := by omega
    rcases this with rfl | rfl | rfl | rfl | rfl | rfl | rfl | rfl | rfl | rfl | rfl | rfl | rfl <;> rfl)
  have s5 : v2.cell? ⟨bx, 5, none⟩ = some (.slice S sn sc) := HF7.out.cell 5
  have HCL := hide (clone_any S sn sc f.sets v2 HFS.out.sl hsn HFS.out.s.nn ((HFS.out.s.only HM7.out (fun b hb => hb)).sees.sees))
  clear HB5 HA5 HF5 HR5 HM6 HM7'
  go_wp2_with ((with_reducible refine wpList_store_mid (op := { dst := none, op := .store 30 (.tmp 49) (.tmp 47), type := _, pos := _, after := _, guard := none }) rfl 30 (.tmp 49) (.tmp 47) rfl g 2 #[.int .i64 f.ty, .int .i64 f.fl, .int .i64 f.st, .int .i64 f.pad, .slice D dn dc, .slice S sn sc, .int .i64 f.wt, .int .i64 f.par, .bool f.alone, .int .i64 f.prom, .int .i64 f.last, .int .i64 f.code, .int .i64 f.step] ?_ ?_ ?_ ?_ ?_ ?_); rfl; rfl; exact HTH.out; kernel_rfl; simp [Value.oneCell'])
  go_at_call 18
  refine HCL.out.mono ?_
  rintro e v3 ⟨S0, c0, rfl, hos, hb⟩
  have HA8 := hide (HA7.out.kept hb)
  have HF8 := hide (HF7.out.kept hb)
  have HR8 := hide (HR7.out.kept hb)
  have HM8 : Hid (Only [g] w v3) := hide (HM7.out.next (F1 := []) (Only.of_below hb) (fun b hb => by simp at hb))
  have HTS := hide (own_sl hos)
  have HZ8 : Hid (w.heap.size ≤ v2.heap.size) := hide HM7.out.size
  clear hb hos HCL s5
  have u7 : v3.frozen? ⟨g, 7, none⟩ = false := HA8.out.free 7
  have q7 : v3.cell? ⟨g, 7, none⟩ = some (.slice S sn sc) := HA8.out.cell 7
  obtain ⟨v4, hv4⟩ : ∃ v4, v3.setCell ⟨g, 7, none⟩ (.slice S0 sn c0) = v4 := ⟨_, rfl⟩
  have HA9 : Hid (Blk v4 g 45 #[.int .i64 M, .bool true, .int .i64 f.ty, .int .i64 f.fl, .int .i64 f.st, .int .i64 f.pad, .slice D dn dc, .slice S0 sn c0, .int .i64 f.wt, .int .i64 f.par, .bool f.alone, .int .i64 f.prom, .int .i64 f.last, .int .i64 f.code, .int .i64 f.step, .slice none 0 0]) := hide (by rw [← hv4]; exact HA8.out.store 7 _)
  have HF9 : Hid (Blk v4 bx 30 #[.int .i64 f.ty, .int .i64 f.fl, .int .i64 f.st, .int .i64 f.pad, .slice D dn dc, .slice S sn sc, .int .i64 f.wt, .int .i64 f.par, .bool f.alone, .int .i64 f.prom, .int .i64 f.last, .int .i64 f.code, .int .i64 f.step]) := hide (by rw [← hv4]; exact HF8.out.aside HN.out.1.symm _)
  have HR9 : Hid (Blk v4 r 30 #[.int .i64 0, .int .i64 0, .int .i64 0, .int .i64 0, .slice none 0 0, .slice none 0 0, .int .i64 0, .int .i64 0, .bool false, .int .i64 0, .int .i64 0, .int .i64 0, .int .i64 0]) := hide (by rw [← hv4]; exact HR8.out.aside HN.out.2.1.symm _)
  have HM5 : Hid (Only [g] w v4) := hide (by rw [← hv4]; exact HM8.out.next (Only.store (p := ⟨g, 7, none⟩) _ (List.mem_singleton.2 rfl) _) (fun b hb => .inl hb))
  obtain ⟨H, hH⟩ : ∃ H, v4.heap.size = H := ⟨_, rfl⟩
  have HH : Hid (v4.heap.size = H ∧ r < H ∧ w.heap.size ≤ H) := hide ⟨hH, by have := HR9.out.lt; omega, by have := HM5.out.size; omega⟩
  have HT5 : Hid (Sl v4 (fun b => b ∉ [g] ∧ b ≠ r ∧ b < H ∧ ¬ G b) S0 sn c0 (cellsS f.sets)) := hide (by
    have h1 : Only [g] v3 v4 := by rw [← hv4]; exact Only.store (p := ⟨g, 7, none⟩) _ (List.mem_singleton.2 rfl) _
    have hgl : g < w.heap.size := Blk.lt HI.out
    have hrl := HR7.out.lt
    have hsz : v3.heap.size ≤ H := by rw [← hH]; exact h1.size
    have h2 : Sl v3 (fun b => b ∉ [g] ∧ b ≠ r ∧ b < H ∧ ¬ G b) S0 sn c0 (cellsS f.sets) := HTS.out.mono (fun b hbl hb => ⟨by have := HZ8.out; simp; omega, by omega, by omega, fun hg => by have h5 := HGG.out b hg; have h6 := HZ8.out; omega⟩)
    exact h2.only h1 (fun b hb => hb.1))
  clear hH
  go_wp2_with fail
  try rw [hv4]
  have HF5 := HF9
  have HR5 := HR9
  have HA5 := HA9
  have z4 : v4.cell? ⟨bx, 4, none⟩ = some (.slice D dn dc) := HF9.out.cell 4
  have q15 : v4.cell? ⟨g, 15, none⟩ = some (.slice none 0 0) := HA9.out.cell 15
  have HO5 : Hid (v4.ownsRow 0 5 1 (.slice none 0 0) 0 (u8s [])) := hide (World.ownsRow_nil _ _ _ _)
  have HS5 : Hid (Sl v4 (fun b => b ∉ [g]) D dn dc (u8s f.data)) := hide (HFS.out.d.only HM5.out (fun b hb => hb))
  have HSL := hide HFS.out.sl
  have HDL := hide HFS.out.dl
  have HZ5 : Hid (w.heap.size ≤ v4.heap.size) := hide HM5.out.size
  have HROW : Hid (∀ b, (Value.slice none 0 0).ownBlock = some b → b ∈ [g] ∧ b ≠ g) := hide (fun b hb => by cases hb)
  have HMEM : Hid (g ∈ [g]) := hide (List.mem_singleton.2 rfl)
  have HLT : Hid (∀ b ∈ [g], b < w.heap.size) := hide (fun b hb => by rw [List.mem_singleton.1 hb]; exact Blk.lt HI.out)
  clear HA6 HA7 HA8 HA9 HF6 HF7 HF8 HF9 HR6 HR7 HR8 HR9 HM7 HM8 HTS HI HFS hv4 hv2 hv1 HTH u7 q7 q1 u1
  clear x0 x1 x2 x3 x4 x5 x6 x7 x8 x9 x10 x11 x12
  have hgb : bx ≠ g := HN.out.1.symm
  refine wp_region_held_drew (S := fun w' => w'.cell? ⟨bx, 4, none⟩ = some (.slice D dn dc)) (by kernel_rfl) (z4) (fun hHeld => ?_)
  refine wpAnyH_take (i := 0) (v := ?_) rfl (by kernel_rfl) (by kernel_rfl) (by kernel_rfl) (fun _ _ _ h => h) (Or.inl ⟨by rfl, ?hy⟩) (by assumption) ?_
  case hy => intro w hSw; (try dsimp only at hSw); go_simp; (try with_reducible rfl)
  try simp only [Act.put, List.setIfInBounds_toArray, List.set_cons_zero, List.set_cons_succ]
  refine wpAnyH_take (i := 1) (v := ?_) rfl (by kernel_rfl) (by kernel_rfl) (by kernel_rfl) (fun _ _ _ h => h) (Or.inl ⟨by rfl, ?hy⟩) (by assumption) ?_
  case hy => intro w hSw; (try dsimp only at hSw); go_simp; (try with_reducible rfl)
  try simp only [Act.put, List.setIfInBounds_toArray, List.set_cons_zero, List.set_cons_succ]
  refine wpAnyH_take (i := 2) (v := ?_) rfl (by kernel_rfl) (by kernel_rfl) (by kernel_rfl) (fun _ _ _ h => h) (Or.inl ⟨by rfl, ?hy⟩) (by assumption) ?_
  case hy => intro w hSw; (try dsimp only at hSw); go_simp; (try with_reducible rfl)
  try simp only [Act.put, List.setIfInBounds_toArray, List.set_cons_zero, List.set_cons_succ]
  refine wpAnyH_take (i := 3) (v := ?_) rfl (by kernel_rfl) (by kernel_rfl) (by kernel_rfl) (fun _ _ _ h => h) (Or.inl ⟨by rfl, ?hy⟩) (by assumption) ?_
  case hy => intro w hSw; (try dsimp only at hSw); go_simp; (try with_reducible rfl)
  try simp only [Act.put, List.setIfInBounds_toArray, List.set_cons_zero, List.set_cons_succ]
  refine wpAnyH_take (i := 5) (v := ?_) rfl (by kernel_rfl) (by kernel_rfl) (by kernel_rfl) (fun _ _ _ h => h) (Or.inl ⟨by rfl, ?hy⟩) (by assumption) ?_
  case hy => intro w hSw; (try dsimp only at hSw); go_simp; (try with_reducible rfl)
  try simp only [Act.put, List.setIfInBounds_toArray, List.set_cons_zero, List.set_cons_succ]
  refine wpAnyH_take (i := 6) (v := ?_) rfl (by kernel_rfl) (by kernel_rfl) (by kernel_rfl) (fun _ _ _ h => h) (Or.inl ⟨by rfl, ?hy⟩) (by assumption) ?_
  case hy => intro w hSw; (try dsimp only at hSw); go_simp; (try with_reducible rfl)
  try simp only [Act.put, List.setIfInBounds_toArray, List.set_cons_zero, List.set_cons_succ]
  refine wpAnyH_ready (rs := [4]) (by kernel_rfl) (by simp) ?_
  refine AllReadyH.cons rfl (fun K' hK => ?_) ?_
  · go_simp
    refine hK.out _ _ (z4) (fun hHeld => ?_)
    clear hK
    try simp only [Act.put, List.setIfInBounds_toArray, List.set_cons_zero, List.set_cons_succ]
    refine wpAnyH_ready (rs := [7]) (by kernel_rfl) (by simp) ?_
    refine AllReadyH.cons rfl (fun K' hK => ?_) ?_
    · refine step_pour rfl (.tmp 61) (.tmp 63) 27 rfl 0 5 1 info5 rfl (by decide) Try.underlying27 (.slice none 0 0) 0 (u8s []) (by rfl) (by exact HO5.out) D dn dc (u8s f.data) (by rfl) (by rw [u8s_length, HDL.out, Nat.mul_one]) HS5.out.nn (by exact HS5.out.sees.sees) oneB (by unfold maxLen; omega) (by omega) (Nat.zero_le _) ?_
      intro B cB w6 ho hg hat
      simp only [Nat.zero_add] at ho hat ⊢
      have HX : Hid (∀ b, (Value.slice B dn cB).ownBlock = some b → (b ∈ [g] ∨ (w.heap.size ≤ b ∧ b = H)) ∧ b ≠ g ∧ b ≠ r) := hide (fun b hb => by
        have h4 := HH.out
        have h5 := HN.out
        have h6 := HLT.out g HMEM.out
        rcases hat with h1 | h1
        · rw [h1] at hb; have h2 := HROW.out b hb; have h3 := HLT.out b h2.1; exact ⟨.inl h2.1, h2.2, by omega⟩
        · rw [h1] at hb
          have e : v4.heap.size = b := Option.some.inj hb
          exact ⟨.inr ⟨by omega, by omega⟩, by omega, by omega⟩)
      have hrow6 : ∀ b, (Value.slice none 0 0).ownBlock = some b → b ∈ [g] := fun b hb => (HROW.out b hb).1
      have o6' : Only [g] v4.drew w6 := Only.of_grown hg (fun b hb => .inl (hrow6 b hb))
      have o6 : Only [g] v4 w6 := ⟨o6'.os, o6'.tape, o6'.output, o6'.size, o6'.block⟩
      have HM6 : Hid (Only [g] w w6) := hide (HM5.out.next o6 (fun b hb => .inl hb))
      have HA6 : Hid (Blk w6 g 45 #[.int .i64 M, .bool true, .int .i64 f.ty, .int .i64 f.fl, .int .i64 f.st, .int .i64 f.pad, .slice D dn dc, .slice S0 sn c0, .int .i64 f.wt, .int .i64 f.par, .bool f.alone, .int .i64 f.prom, .int .i64 f.last, .int .i64 f.code, .int .i64 f.step, .slice none 0 0]) := hide (Blk.grown (w := v4.drew) HA5.out hg (fun e => (HROW.out g e.symm).2 rfl))
      have hbn : bx ∉ [g] := fun hm => by have h1 := HLT.out bx hm; have h2 := HN.out; omega
      have hrn : r ∉ [g] := fun hm => by have h1 := HLT.out r hm; have h2 := HN.out; omega
      have HF6 : Hid (Blk w6 bx 30 #[.int .i64 f.ty, .int .i64 f.fl, .int .i64 f.st, .int .i64 f.pad, .slice D dn dc, .slice S sn sc, .int .i64 f.wt, .int .i64 f.par, .bool f.alone, .int .i64 f.prom, .int .i64 f.last, .int .i64 f.code, .int .i64 f.step]) := hide (HF5.out.only o6 hbn)
      have HR6 : Hid (Blk w6 r 30 #[.int .i64 0, .int .i64 0, .int .i64 0, .int .i64 0, .slice none 0 0, .slice none 0 0, .int .i64 0, .int .i64 0, .bool false, .int .i64 0, .int .i64 0, .int .i64 0, .int .i64 0]) := hide (HR5.out.only o6 hrn)
      have HT6 := hide (HT5.out.only o6 (fun b hb => hb.1))
      have ho2 : w6.ownsRow 0 5 1 (.slice B dn cB) dn (u8s ([] ++ f.data)) := by rw [u8s_append]; exact ho
      have HO6 := hide ho2
      have k4 : w6.cell? ⟨bx, 4, none⟩ = some (.slice D dn dc) := HF6.out.cell 4
      have k15 : w6.cell? ⟨g, 15, none⟩ = some (.slice none 0 0) := HA6.out.cell 15
      clear ho ho2 hg hat o6 o6' hrow6
      refine hK.out _ _ (k4) (fun hHeld => ?_)
      clear hK
      try simp only [Act.put, List.setIfInBounds_toArray, List.set_cons_zero, List.set_cons_succ]
      refine wpAnyH_take (i := 8) (v := ?_) rfl (by kernel_rfl) (by kernel_rfl) (by kernel_rfl) (fun _ _ _ h => h) (Or.inl ⟨by rfl, ?hy⟩) (by assumption) ?_
      case hy => intro w hSw; (try dsimp only at hSw); go_simp; (try with_reducible rfl)
      try simp only [Act.put, List.setIfInBounds_toArray, List.set_cons_zero, List.set_cons_succ]
      refine wpAnyH_take (i := 9) (v := ?_) rfl (by kernel_rfl) (by kernel_rfl) (by kernel_rfl) (fun _ _ _ h => h) (Or.inl ⟨by rfl, ?hy⟩) (by assumption) ?_
      case hy => intro w hSw; (try dsimp only at hSw); go_simp; (try with_reducible rfl)
      try simp only [Act.put, List.setIfInBounds_toArray, List.set_cons_zero, List.set_cons_succ]
      have u15 : w6.frozen? ⟨g, 15, none⟩ = false := HA6.out.free 15
      refine wpAnyH_ready (rs := [10]) (by kernel_rfl) (by simp) ?_
      refine AllReadyH.cons rfl (fun K' hK => ?_) ?_
      · go_simp
        refine hK.out _ _ (by rw [World.cell?_setCell_far _ _ _ _ hgb.symm]; exact k4) (fun hHeld => ?_)
        clear hK
        try simp only [Act.put, List.setIfInBounds_toArray, List.set_cons_zero, List.set_cons_succ]
        refine wpAnyH_done (by kernel_rfl) ?_ _
        try refine NoPanic.normal ?_
        obtain ⟨w7, hw7⟩ : ∃ w7, w6.setCell ⟨g, 15, none⟩ (.slice B dn cB) = w7 := ⟨_, rfl⟩
        have HA7 : Hid (Blk w7 g 45 #[.int .i64 M, .bool true, .int .i64 f.ty, .int .i64 f.fl, .int .i64 f.st, .int .i64 f.pad, .slice D dn dc, .slice S0 sn c0, .int .i64 f.wt, .int .i64 f.par, .bool f.alone, .int .i64 f.prom, .int .i64 f.last, .int .i64 f.code, .int .i64 f.step, .slice B dn cB]) := hide (by rw [← hw7]; exact HA6.out.store 15 _)
        have o7 : Only [g] w6 w7 := by rw [← hw7]; exact Only.store (p := ⟨g, 15, none⟩) _ (List.mem_singleton.2 rfl) _
        have HM7 : Hid (Only [g] w w7) := hide (HM6.out.next o7 (fun b hb => by rw [List.mem_singleton.1 hb]; exact .inl HMEM.out))
        have HF7 : Hid (Blk w7 bx 30 #[.int .i64 f.ty, .int .i64 f.fl, .int .i64 f.st, .int .i64 f.pad, .slice D dn dc, .slice S sn sc, .int .i64 f.wt, .int .i64 f.par, .bool f.alone, .int .i64 f.prom, .int .i64 f.last, .int .i64 f.code, .int .i64 f.step]) := hide (HF6.out.only o7 (by simp; exact HN.out.1.symm))
        have HR7 : Hid (Blk w7 r 30 #[.int .i64 0, .int .i64 0, .int .i64 0, .int .i64 0, .slice none 0 0, .slice none 0 0, .int .i64 0, .int .i64 0, .bool false, .int .i64 0, .int .i64 0, .int .i64 0, .int .i64 0]) := hide (HR6.out.only o7 (by simp; exact HN.out.2.1.symm))
        have HT7 : Hid (Sl w7 (fun b => b ∉ [g] ∧ b ≠ r ∧ b < H ∧ ¬ G b) S0 sn c0 (cellsS f.sets)) := hide (HT6.out.only o7 (fun b hb => by simp; rintro rfl; exact hb.1 HMEM.out))
        have HO7 : Hid (w7.ownsRow 0 5 1 (.slice B dn cB) dn (u8s ([] ++ f.data))) := hide (own_only HO6.out o7 (fun b hb => by simp; exact (HX.out b hb).2.1))
        have h0c : w7.cell? ⟨bx, 0, none⟩ = some (.int .i64 f.ty) := HF7.out.cell 0
        have h1c : w7.cell? ⟨bx, 1, none⟩ = some (.int .i64 f.fl) := HF7.out.cell 1
        rw [hw7]
        clear o7 hw7 HA6 HF6 HR6 HT6 HO6 HM6 k4 k15 u15 HA5 HF5 HR5 HO5 HS5 HT5 HM5 z4 q15 hHeld
        cases hh : hasB f.ty f.fl 4
        · have HC := fun w => (HHas w).out
          simp only [hh] at HC
          have HQ := hide hh
          clear hh
          obtain ⟨w8, hw8⟩ : ∃ w8, w7.setRow r #[.int .i64 0, .int .i64 0, .int .i64 0, .int .i64 0, .slice none 0 0, .slice none 0 0, .int .i64 0, .int .i64 0, .bool false, .int .i64 0, .int .i64 0, .int .i64 0, .int .i64 0] = w8 := ⟨_, rfl⟩
          have HR8 : Hid (Blk w8 r 30 #[.int .i64 0, .int .i64 0, .int .i64 0, .int .i64 0, .slice none 0 0, .slice none 0 0, .int .i64 0, .int .i64 0, .bool false, .int .i64 0, .int .i64 0, .int .i64 0, .int .i64 0]) := hide (by rw [← hw8]; exact HR7.out.setRow _)
          have o8 : Only [r] w7 w8 := by rw [← hw8]; exact Only.setRow _ _ _ (List.mem_singleton.2 rfl)
          have HEND : Hid (AsmI w8 g M true f D S0 dn dc sn c0 B dn cB ([] ++ f.data) (g :: ((Value.slice B dn cB).ownBlock.toList)) G ∧ Only [g] w w8 ∧ (∀ b ∈ g :: ((Value.slice B dn cB).ownBlock.toList), b ∈ [g] ∨ w.heap.size ≤ b)) := hide (by
            refine ⟨⟨?_, ?_, ?_, ?_, HSL.out, by simp, ?_⟩, ?_, ?_⟩
            · exact HA7.out.only o8 (by simp; exact HN.out.2.1)
            · exact own_only HO7.out o8 (fun b hb => by simp; exact (HX.out b hb).2.2)
            · intro b hb; rw [hb]; simp; exact (HX.out b hb).2.1
            · refine (HT7.out.mono (K' := fun b => (b ∉ g :: (Value.slice B dn cB).ownBlock.toList ∧ ¬ G b) ∧ b ≠ r) ?_ |>.only o8 (fun b hb => by simp; exact hb.2)).mono (fun b _ hb => hb.1)
              intro b hbl hb
              refine ⟨⟨fun hm => ?_, hb.2.2.2⟩, hb.2.1⟩
              rcases List.mem_cons.1 hm with rfl | hm
              · exact hb.1 HMEM.out
              · rw [Option.mem_toList] at hm
                rcases (HX.out b hm).1 with h1 | h1
                · exact hb.1 h1
                · have := hb.2.2.1; omega
            · intro b hb
              rcases List.mem_cons.1 hb with rfl | hb
              · exact Nat.lt_of_lt_of_le HA7.out.lt o8.size
              · rw [Option.mem_toList] at hb
                exact Nat.lt_of_lt_of_le (HO7.out.lt b hb).2 o8.size
            · exact HM7.out.next o8 (fun b hb => by rw [List.mem_singleton.1 hb]; right; have := HN.out; omega)
            · intro b hb
              rcases List.mem_cons.1 hb with rfl | hb
              · exact .inl HMEM.out
              · rw [Option.mem_toList] at hb
                rcases (HX.out b hb).1 with h1 | h1
                · exact .inl h1
                · exact .inr h1.1)
          clear o8
        
          have r0 : w8.cell? ⟨r, 0, none⟩ = some (.int .i64 0) := HR8.out.cell 0
          have r1 : w8.cell? ⟨r, 1, none⟩ = some (.int .i64 0) := HR8.out.cell 1
          have r2 : w8.cell? ⟨r, 2, none⟩ = some (.int .i64 0) := HR8.out.cell 2
          have r3 : w8.cell? ⟨r, 3, none⟩ = some (.int .i64 0) := HR8.out.cell 3
          have r4 : w8.cell? ⟨r, 4, none⟩ = some (.slice none 0 0) := HR8.out.cell 4
          have r5 : w8.cell? ⟨r, 5, none⟩ = some (.slice none 0 0) := HR8.out.cell 5
          have r6 : w8.cell? ⟨r, 6, none⟩ = some (.int .i64 0) := HR8.out.cell 6
          have r7 : w8.cell? ⟨r, 7, none⟩ = some (.int .i64 0) := HR8.out.cell 7
          have r8 : w8.cell? ⟨r, 8, none⟩ = some (.bool false) := HR8.out.cell 8
          have r9 : w8.cell? ⟨r, 9, none⟩ = some (.int .i64 0) := HR8.out.cell 9
          have r10 : w8.cell? ⟨r, 10, none⟩ = some (.int .i64 0) := HR8.out.cell 10
          have r11 : w8.cell? ⟨r, 11, none⟩ = some (.int .i64 0) := HR8.out.cell 11
          have r12 : w8.cell? ⟨r, 12, none⟩ = some (.int .i64 0) := HR8.out.cell 12
          go_wp2_with (first | (go_at_call_of 19 (Value.int .i64 4); refine (HC _).mono ?_; rintro e w9 ⟨rfl, rfl⟩) | ((with_reducible refine wpList_store_row (o := { dst := none, op := .store 30 (.tmp 4) (.tmp 73), type := _, pos := _, after := _, guard := none }) rfl 30 (.tmp 4) (.tmp 73) rfl r #[.int .i64 0, .int .i64 0, .int .i64 0, .int .i64 0, .slice none 0 0, .slice none 0 0, .int .i64 0, .int .i64 0, .bool false, .int .i64 0, .int .i64 0, .int .i64 0, .int .i64 0] ?_ ?_ 30 #[.int .i64 0, .int .i64 0, .int .i64 0, .int .i64 0, .slice none 0 0, .slice none 0 0, .int .i64 0, .int .i64 0, .bool false, .int .i64 0, .int .i64 0, .int .i64 0, .int .i64 0] ?_ ?_ ?_ ?_ ?_); rfl; rfl; exact HR7.out; kernel_rfl; rfl; simp [Value.oneCell']))
          try rw [hw8]
          refine bodyPost_ret (v := .tuple #[.agg #[.int .i64 0, .int .i64 0, .int .i64 0, .int .i64 0, .slice none 0 0, .slice none 0 0, .int .i64 0, .int .i64 0, .bool false, .int .i64 0, .int .i64 0, .int .i64 0, .int .i64 0], .bool false, .int .i64 0]) (by simp [results, Try.results11, go_sem, r0, r1, r2, r3, r4, r5, r6, r7, r8, r9, r10, r11, r12]) rfl (.inr ⟨HQ.out, D, S0, dn, dc, sn, c0, B, dn, cB, g :: ((Value.slice B dn cB).ownBlock.toList), none, none, 0, 0, 0, 0, rfl, HEND.out.1, HEND.out.2.1, HEND.out.2.2, FS.zero _ _, (fun h => by cases h)⟩)
        · have HC := fun w => (HHas w).out
          simp only [hh] at HC
          have HQ := hide hh
          clear hh
          have HE := hide (end_any g M f D S0 dn dc sn c0 B dn cB w7 HA7.out)
          go_wp2_with (go_at_call_of 19 (Value.int .i64 4); refine (HC _).mono ?_; rintro e w9 ⟨rfl, rfl⟩)
          refine HE.out.mono ?_
          rintro e w8 ⟨rfl, hN8, o8⟩
          have HR8 : Hid (Blk w8 r 30 #[.int .i64 0, .int .i64 0, .int .i64 0, .int .i64 0, .slice none 0 0, .slice none 0 0, .int .i64 0, .int .i64 0, .bool false, .int .i64 0, .int .i64 0, .int .i64 0, .int .i64 0]) := hide (HR7.out.only o8 (by simp; exact HN.out.2.1.symm))
          obtain ⟨w9, hw9⟩ : ∃ w9, w8.setRow r #[.int .i64 f.ty, .int .i64 f.fl, .int .i64 f.st, .int .i64 f.pad, .slice B dn cB, .slice S0 sn c0, .int .i64 f.wt, .int .i64 f.par, .bool f.alone, .int .i64 f.prom, .int .i64 f.last, .int .i64 f.code, .int .i64 f.step] = w9 := ⟨_, rfl⟩
          have HR9 : Hid (Blk w9 r 30 #[.int .i64 f.ty, .int .i64 f.fl, .int .i64 f.st, .int .i64 f.pad, .slice B dn cB, .slice S0 sn c0, .int .i64 f.wt, .int .i64 f.par, .bool f.alone, .int .i64 f.prom, .int .i64 f.last, .int .i64 f.code, .int .i64 f.step]) := hide (by rw [← hw9]; exact HR8.out.setRow _)
          have o9 : Only [r] w8 w9 := by rw [← hw9]; exact Only.setRow _ _ _ (List.mem_singleton.2 rfl)
          have HEND : Hid (AsmI w9 g M false Fr.zero none none 0 0 0 0 none 0 0 [] [g] G ∧ Only [g] w w9 ∧ (∀ b ∈ [g], b ∈ [g] ∨ w.heap.size ≤ b) ∧ FS w9 (fun b => b ∉ [g]) f B dn cB S0 sn c0) := hide (by
            refine ⟨AsmI.none ?_, ?_, fun b hb => by rw [List.mem_singleton.1 hb]; exact .inl HMEM.out, ⟨?_, HSL.out, ?_, ?_⟩⟩
            · exact Blk.only hN8 o9 (by simp; exact HN.out.2.1)
            · exact (HM7.out.next o8 (fun b hb => by rw [List.mem_singleton.1 hb]; exact .inl HMEM.out)).next o9 (fun b hb => by rw [List.mem_singleton.1 hb]; right; have := HN.out; omega)
            · have h1 := HO7.out.1
              rw [u8s_length] at h1
              simpa using h1
            · have h1 : Sl w7 (fun b => b ∉ [g] ∧ b ≠ r) B dn cB (u8s ([] ++ f.data)) := (own_slv HO7.out).mono (fun b _ hb => ⟨by simp; exact (HX.out b hb).2.1, (HX.out b hb).2.2⟩)
              exact ((h1.only o8 (fun b hb => hb.1)).only o9 (fun b hb => by simp; exact hb.2)).mono (fun b _ hb => hb.1)
            · have h1 : Sl w7 (fun b => b ∉ [g] ∧ b ≠ r) S0 sn c0 (cellsS f.sets) := HT7.out.mono (fun b _ hb => ⟨by simp; rintro rfl; exact hb.1 HMEM.out, hb.2.1⟩)
              exact ((h1.only o8 (fun b hb => hb.1)).only o9 (fun b hb => by simp; exact hb.2)).mono (fun b _ hb => hb.1))
          clear o8 o9 hN8
          have r0 : w9.cell? ⟨r, 0, none⟩ = some (.int .i64 f.ty) := HR9.out.cell 0
          have r1 : w9.cell? ⟨r, 1, none⟩ = some (.int .i64 f.fl) := HR9.out.cell 1
          have r2 : w9.cell? ⟨r, 2, none⟩ = some (.int .i64 f.st) := HR9.out.cell 2
          have r3 : w9.cell? ⟨r, 3, none⟩ = some (.int .i64 f.pad) := HR9.out.cell 3
          have r4 : w9.cell? ⟨r, 4, none⟩ = some (.slice B dn cB) := HR9.out.cell 4
          have r5 : w9.cell? ⟨r, 5, none⟩ = some (.slice S0 sn c0) := HR9.out.cell 5
          have r6 : w9.cell? ⟨r, 6, none⟩ = some (.int .i64 f.wt) := HR9.out.cell 6
          have r7 : w9.cell? ⟨r, 7, none⟩ = some (.int .i64 f.par) := HR9.out.cell 7
          have r8 : w9.cell? ⟨r, 8, none⟩ = some (.bool f.alone) := HR9.out.cell 8
          have r9 : w9.cell? ⟨r, 9, none⟩ = some (.int .i64 f.prom) := HR9.out.cell 9
          have r10 : w9.cell? ⟨r, 10, none⟩ = some (.int .i64 f.last) := HR9.out.cell 10
          have r11 : w9.cell? ⟨r, 11, none⟩ = some (.int .i64 f.code) := HR9.out.cell 11
          have r12 : w9.cell? ⟨r, 12, none⟩ = some (.int .i64 f.step) := HR9.out.cell 12
          go_wp2_with (((with_reducible refine wpList_store_row (o := { dst := none, op := .store 30 (.tmp 4) (.tmp 75), type := _, pos := _, after := _, guard := none }) rfl 30 (.tmp 4) (.tmp 75) rfl r #[.int .i64 f.ty, .int .i64 f.fl, .int .i64 f.st, .int .i64 f.pad, .slice B dn cB, .slice S0 sn c0, .int .i64 f.wt, .int .i64 f.par, .bool f.alone, .int .i64 f.prom, .int .i64 f.last, .int .i64 f.code, .int .i64 f.step] ?_ ?_ 30 #[.int .i64 0, .int .i64 0, .int .i64 0, .int .i64 0, .slice none 0 0, .slice none 0 0, .int .i64 0, .int .i64 0, .bool false, .int .i64 0, .int .i64 0, .int .i64 0, .int .i64 0] ?_ ?_ ?_ ?_ ?_); rfl; rfl; exact HR8.out; kernel_rfl; rfl; simp [Value.oneCell']))
          try rw [hw9]
          refine bodyPost_ret (v := .tuple #[.agg #[.int .i64 f.ty, .int .i64 f.fl, .int .i64 f.st, .int .i64 f.pad, .slice B dn cB, .slice S0 sn c0, .int .i64 f.wt, .int .i64 f.par, .bool f.alone, .int .i64 f.prom, .int .i64 f.last, .int .i64 f.code, .int .i64 f.step], .bool true, .int .i64 0]) (by simp [results, Try.results11, go_sem, r0, r1, r2, r3, r4, r5, r6, r7, r8, r9, r10, r11, r12]) rfl (.inl ⟨HQ.out, none, none, 0, 0, 0, 0, none, 0, 0, [g], B, S0, dn, cB, sn, c0, rfl, HEND.out.1, HEND.out.2.1, HEND.out.2.2.1, HEND.out.2.2.2, (fun _ => rfl)⟩)
      · exact AllReadyH.nil
    · exact AllReadyH.nil
  · exact AllReadyH.nil
end Go.Proofs.Ytpjibdnoiioaoaa
