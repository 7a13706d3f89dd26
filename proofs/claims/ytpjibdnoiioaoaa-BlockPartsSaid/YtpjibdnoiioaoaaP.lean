/- Contract: end. -/
import Derived.Test.YtpjibdnoiioaoaaN
import Derived.Deep.MidRow
namespace Go.Proofs.Ytpjibdnoiioaoaa
open Go.RowKit
set_option linter.unusedSimpArgs false
set_option linter.unusedVariables false

section
variable {w : World} {g g' : Nat} {t t' : TypeId} {old old' cells : Array Value}
theorem Blk.setRow (h : Blk w g t old) (cells : Array Value) : Blk (w.setRow g cells) g t cells := setRow_heap w g old cells t (0, 0) h
theorem Blk.setRow_other (h : Blk w g t old) (hne : g ≠ g') (cells : Array Value) : Blk (w.setRow g' cells) g t old := (Go.setRow_other w g' g cells hne).trans h
theorem Only.setRow (w : World) (g : Nat) (cells : Array Value) {F : List Nat} (hg : g ∈ F) : Only F w (w.setRow g cells) :=
  ⟨rfl, rfl, rfl, by simp, fun i _ hn => Go.setRow_other w g i cells fun e => hn (e ▸ hg)⟩
end
/-- An assembly with a block. -/
def AsmB (w : World) (g : Nat) (M : Int) (f : Fr) (D S : Option Addr) (dn dc sn sc : Nat) (A : Option Addr) (n c : Nat) : Prop := Blk w g 45 #[.int .i64 M, .bool true, .int .i64 f.ty, .int .i64 f.fl, .int .i64 f.st, .int .i64 f.pad, .slice D dn dc, .slice S sn sc, .int .i64 f.wt, .int .i64 f.par, .bool f.alone, .int .i64 f.prom, .int .i64 f.last, .int .i64 f.code, .int .i64 f.step, .slice A n c]
set_option maxRecDepth 100000 in
set_option maxHeartbeats 2000000 in
theorem end_any (g : Nat) (M : Int) (f : Fr) (D S : Option Addr) (dn dc sn sc : Nat) (A : Option Addr) (n c : Nat) (w : World) (h : AsmB w g M f D S dn dc sn sc A n c) :
    Calls Try.prog 20 #[.pointer (some ⟨g, 0, none⟩)] w fun e w' => e = .returned (.agg #[.int .i64 f.ty, .int .i64 f.fl, .int .i64 f.st, .int .i64 f.pad, .slice A n c, .slice S sn sc, .int .i64 f.wt, .int .i64 f.par, .bool f.alone, .int .i64 f.prom, .int .i64 f.last, .int .i64 f.code, .int .i64 f.step]) ∧ AsmN w' g M ∧ Only [g] w w' := by
  obtain ⟨r, hr⟩ : ∃ r, w.heap.size = r := ⟨_, rfl⟩
  obtain ⟨W1, hW1⟩ : ∃ W1, w.alloc (.cells #[.int .i64 0, .int .i64 0, .int .i64 0, .int .i64 0, .slice none 0 0, .slice none 0 0, .int .i64 0, .int .i64 0, .bool false, .int .i64 0, .int .i64 0, .int .i64 0, .int .i64 0] 30) = W1 := ⟨_, rfl⟩
  have HX1 : Hid (Blk W1 g 45 #[.int .i64 M, .bool true, .int .i64 f.ty, .int .i64 f.fl, .int .i64 f.st, .int .i64 f.pad, .slice D dn dc, .slice S sn sc, .int .i64 f.wt, .int .i64 f.par, .bool f.alone, .int .i64 f.prom, .int .i64 f.last, .int .i64 f.code, .int .i64 f.step, .slice A n c]) := hide (by rw [← hW1]; exact Blk.alloc h _)
  have HR1 : Hid (Blk W1 r 30 #[.int .i64 0, .int .i64 0, .int .i64 0, .int .i64 0, .slice none 0 0, .slice none 0 0, .int .i64 0, .int .i64 0, .bool false, .int .i64 0, .int .i64 0, .int .i64 0, .int .i64 0]) := hide (by rw [← hW1, ← hr]; exact Blk.born w 30 _)
  obtain ⟨u, hu⟩ : ∃ u, W1.heap.size = u := ⟨_, rfl⟩
  have HN : Hid (g ≠ u ∧ r ≠ u ∧ g ≠ r) := hide (by
    have h1 : W1.heap.size = w.heap.size + 1 := by rw [← hW1]; simp
    have h2 := h.lt
    omega)
  obtain ⟨W2, hW2⟩ : ∃ W2, W1.alloc (.cells #[.int .i64 f.ty, .int .i64 f.fl, .int .i64 f.st, .int .i64 f.pad, .slice D dn dc, .slice S sn sc, .int .i64 f.wt, .int .i64 f.par, .bool f.alone, .int .i64 f.prom, .int .i64 f.last, .int .i64 f.code, .int .i64 f.step] 30) = W2 := ⟨_, rfl⟩
  have HX2 : Hid (Blk W2 g 45 #[.int .i64 M, .bool true, .int .i64 f.ty, .int .i64 f.fl, .int .i64 f.st, .int .i64 f.pad, .slice D dn dc, .slice S sn sc, .int .i64 f.wt, .int .i64 f.par, .bool f.alone, .int .i64 f.prom, .int .i64 f.last, .int .i64 f.code, .int .i64 f.step, .slice A n c]) := hide (by rw [← hW2]; exact HX1.out.alloc _)
  have HR2 : Hid (Blk W2 r 30 #[.int .i64 0, .int .i64 0, .int .i64 0, .int .i64 0, .slice none 0 0, .slice none 0 0, .int .i64 0, .int .i64 0, .bool false, .int .i64 0, .int .i64 0, .int .i64 0, .int .i64 0]) := hide (by rw [← hW2]; exact HR1.out.alloc _)
  have HT2 : Hid (Blk W2 u 30 #[.int .i64 f.ty, .int .i64 f.fl, .int .i64 f.st, .int .i64 f.pad, .slice D dn dc, .slice S sn sc, .int .i64 f.wt, .int .i64 f.par, .bool f.alone, .int .i64 f.prom, .int .i64 f.last, .int .i64 f.code, .int .i64 f.step]) := hide (by rw [← hW2, ← hu]; exact Blk.born W1 30 _)
  obtain ⟨W3, hW3⟩ : ∃ W3, W2.setCell ⟨u, 4, none⟩ (.slice A n c) = W3 := ⟨_, rfl⟩
  have HX3 : Hid (Blk W3 g 45 #[.int .i64 M, .bool true, .int .i64 f.ty, .int .i64 f.fl, .int .i64 f.st, .int .i64 f.pad, .slice D dn dc, .slice S sn sc, .int .i64 f.wt, .int .i64 f.par, .bool f.alone, .int .i64 f.prom, .int .i64 f.last, .int .i64 f.code, .int .i64 f.step, .slice A n c]) := hide (by rw [← hW3]; exact HX2.out.aside HN.out.1 _)
  have HR3 : Hid (Blk W3 r 30 #[.int .i64 0, .int .i64 0, .int .i64 0, .int .i64 0, .slice none 0 0, .slice none 0 0, .int .i64 0, .int .i64 0, .bool false, .int .i64 0, .int .i64 0, .int .i64 0, .int .i64 0]) := hide (by rw [← hW3]; exact HR2.out.aside HN.out.2.1 _)
  have HT3 : Hid (Blk W3 u 30 #[.int .i64 f.ty, .int .i64 f.fl, .int .i64 f.st, .int .i64 f.pad, .slice A n c, .slice S sn sc, .int .i64 f.wt, .int .i64 f.par, .bool f.alone, .int .i64 f.prom, .int .i64 f.last, .int .i64 f.code, .int .i64 f.step]) := hide (by rw [← hW3]; exact HT2.out.store 4 _)
  obtain ⟨W4, hW4⟩ : ∃ W4, W3.setRow g #[.int .i64 M, .bool false, .int .i64 0, .int .i64 0, .int .i64 0, .int .i64 0, .slice none 0 0, .slice none 0 0, .int .i64 0, .int .i64 0, .bool false, .int .i64 0, .int .i64 0, .int .i64 0, .int .i64 0, .slice none 0 0] = W4 := ⟨_, rfl⟩
  have HX4 : Hid (Blk W4 g 45 #[.int .i64 M, .bool false, .int .i64 0, .int .i64 0, .int .i64 0, .int .i64 0, .slice none 0 0, .slice none 0 0, .int .i64 0, .int .i64 0, .bool false, .int .i64 0, .int .i64 0, .int .i64 0, .int .i64 0, .slice none 0 0]) := hide (by rw [← hW4]; exact HX3.out.setRow _)
  have HR4 : Hid (Blk W4 r 30 #[.int .i64 0, .int .i64 0, .int .i64 0, .int .i64 0, .slice none 0 0, .slice none 0 0, .int .i64 0, .int .i64 0, .bool false, .int .i64 0, .int .i64 0, .int .i64 0, .int .i64 0]) := hide (by rw [← hW4]; exact HR3.out.setRow_other HN.out.2.2.symm _)
  have HT4 : Hid (Blk W4 u 30 #[.int .i64 f.ty, .int .i64 f.fl, .int .i64 f.st, .int .i64 f.pad, .slice A n c, .slice S sn sc, .int .i64 f.wt, .int .i64 f.par, .bool f.alone, .int .i64 f.prom, .int .i64 f.last, .int .i64 f.code, .int .i64 f.step]) := hide (by rw [← hW4]; exact HT3.out.setRow_other HN.out.1.symm _)
  obtain ⟨W5, hW5⟩ : ∃ W5, W4.setRow r #[.int .i64 f.ty, .int .i64 f.fl, .int .i64 f.st, .int .i64 f.pad, .slice A n c, .slice S sn sc, .int .i64 f.wt, .int .i64 f.par, .bool f.alone, .int .i64 f.prom, .int .i64 f.last, .int .i64 f.code, .int .i64 f.step] = W5 := ⟨_, rfl⟩
  have HX5 : Hid (Blk W5 g 45 #[.int .i64 M, .bool false, .int .i64 0, .int .i64 0, .int .i64 0, .int .i64 0, .slice none 0 0, .slice none 0 0, .int .i64 0, .int .i64 0, .bool false, .int .i64 0, .int .i64 0, .int .i64 0, .int .i64 0, .slice none 0 0]) := hide (by rw [← hW5]; exact HX4.out.setRow_other HN.out.2.2 _)
  have HR5 : Hid (Blk W5 r 30 #[.int .i64 f.ty, .int .i64 f.fl, .int .i64 f.st, .int .i64 f.pad, .slice A n c, .slice S sn sc, .int .i64 f.wt, .int .i64 f.par, .bool f.alone, .int .i64 f.prom, .int .i64 f.last, .int .i64 f.code, .int .i64 f.step]) := hide (by rw [← hW5]; exact HR4.out.setRow _)
  have HO5 : Hid (Only [g] w W5) := hide (by
    have o1 : Only [g] w W1 := by rw [← hW1]; exact Only.alloc _ _
    have o2 : Only [g] W1 W2 := by rw [← hW2]; exact Only.alloc _ _
    have o3 : Only [u] W2 W3 := by rw [← hW3]; exact Only.store (p := ⟨u, 4, none⟩) _ (List.mem_singleton.2 rfl) _
    have o4 : Only [g] W3 W4 := by rw [← hW4]; exact Only.setRow _ _ _ (List.mem_singleton.2 rfl)
    have o5 : Only [r] W4 W5 := by rw [← hW5]; exact Only.setRow _ _ _ (List.mem_singleton.2 rfl)
    have s1 := o1.size
    refine ((((o1.next o2 (fun b hb => .inl hb)).next o3 ?_).next o4 (fun b hb => .inl hb)).next o5 ?_)
    · intro b hb; rw [List.mem_singleton.1 hb]; right; omega
    · intro b hb; rw [List.mem_singleton.1 hb]; right; omega)
  have f4 : W2.frozen? ⟨u, 4, none⟩ = false := HT2.out.free 4
  have b15 : W2.cell? ⟨g, 15, none⟩ = some (.slice A n c) := HX2.out.cell 15
  have t4 : W2.cell? ⟨u, 4, none⟩ = some (.slice D dn dc) := HT2.out.cell 4
  have d0 : W3.cell? ⟨g, 0, none⟩ = some (.int .i64 M) := HX3.out.cell 0
  have a0 : W1.cell? ⟨g, 0, none⟩ = some (.int .i64 M) := HX1.out.cell 0
  have a1 : W1.cell? ⟨g, 1, none⟩ = some (.bool true) := HX1.out.cell 1
  have a2 : W1.cell? ⟨g, 2, none⟩ = some (.int .i64 f.ty) := HX1.out.cell 2
  have a3 : W1.cell? ⟨g, 3, none⟩ = some (.int .i64 f.fl) := HX1.out.cell 3
  have a4 : W1.cell? ⟨g, 4, none⟩ = some (.int .i64 f.st) := HX1.out.cell 4
  have a5 : W1.cell? ⟨g, 5, none⟩ = some (.int .i64 f.pad) := HX1.out.cell 5
  have a6 : W1.cell? ⟨g, 6, none⟩ = some (.slice D dn dc) := HX1.out.cell 6
  have a7 : W1.cell? ⟨g, 7, none⟩ = some (.slice S sn sc) := HX1.out.cell 7
  have a8 : W1.cell? ⟨g, 8, none⟩ = some (.int .i64 f.wt) := HX1.out.cell 8
  have a9 : W1.cell? ⟨g, 9, none⟩ = some (.int .i64 f.par) := HX1.out.cell 9
  have a10 : W1.cell? ⟨g, 10, none⟩ = some (.bool f.alone) := HX1.out.cell 10
  have a11 : W1.cell? ⟨g, 11, none⟩ = some (.int .i64 f.prom) := HX1.out.cell 11
  have a12 : W1.cell? ⟨g, 12, none⟩ = some (.int .i64 f.last) := HX1.out.cell 12
  have a13 : W1.cell? ⟨g, 13, none⟩ = some (.int .i64 f.code) := HX1.out.cell 13
  have a14 : W1.cell? ⟨g, 14, none⟩ = some (.int .i64 f.step) := HX1.out.cell 14
  have a15 : W1.cell? ⟨g, 15, none⟩ = some (.slice A n c) := HX1.out.cell 15
  have e0 : W4.cell? ⟨u, 0, none⟩ = some (.int .i64 f.ty) := HT4.out.cell 0
  have e1 : W4.cell? ⟨u, 1, none⟩ = some (.int .i64 f.fl) := HT4.out.cell 1
  have e2 : W4.cell? ⟨u, 2, none⟩ = some (.int .i64 f.st) := HT4.out.cell 2
  have e3 : W4.cell? ⟨u, 3, none⟩ = some (.int .i64 f.pad) := HT4.out.cell 3
  have e4 : W4.cell? ⟨u, 4, none⟩ = some (.slice A n c) := HT4.out.cell 4
  have e5 : W4.cell? ⟨u, 5, none⟩ = some (.slice S sn sc) := HT4.out.cell 5
  have e6 : W4.cell? ⟨u, 6, none⟩ = some (.int .i64 f.wt) := HT4.out.cell 6
  have e7 : W4.cell? ⟨u, 7, none⟩ = some (.int .i64 f.par) := HT4.out.cell 7
  have e8 : W4.cell? ⟨u, 8, none⟩ = some (.bool f.alone) := HT4.out.cell 8
  have e9 : W4.cell? ⟨u, 9, none⟩ = some (.int .i64 f.prom) := HT4.out.cell 9
  have e10 : W4.cell? ⟨u, 10, none⟩ = some (.int .i64 f.last) := HT4.out.cell 10
  have e11 : W4.cell? ⟨u, 11, none⟩ = some (.int .i64 f.code) := HT4.out.cell 11
  have e12 : W4.cell? ⟨u, 12, none⟩ = some (.int .i64 f.step) := HT4.out.cell 12
  have r0 : W5.cell? ⟨r, 0, none⟩ = some (.int .i64 f.ty) := HR5.out.cell 0
  have r1 : W5.cell? ⟨r, 1, none⟩ = some (.int .i64 f.fl) := HR5.out.cell 1
  have r2 : W5.cell? ⟨r, 2, none⟩ = some (.int .i64 f.st) := HR5.out.cell 2
  have r3 : W5.cell? ⟨r, 3, none⟩ = some (.int .i64 f.pad) := HR5.out.cell 3
  have r4 : W5.cell? ⟨r, 4, none⟩ = some (.slice A n c) := HR5.out.cell 4
  have r5 : W5.cell? ⟨r, 5, none⟩ = some (.slice S sn sc) := HR5.out.cell 5
  have r6 : W5.cell? ⟨r, 6, none⟩ = some (.int .i64 f.wt) := HR5.out.cell 6
  have r7 : W5.cell? ⟨r, 7, none⟩ = some (.int .i64 f.par) := HR5.out.cell 7
  have r8 : W5.cell? ⟨r, 8, none⟩ = some (.bool f.alone) := HR5.out.cell 8
  have r9 : W5.cell? ⟨r, 9, none⟩ = some (.int .i64 f.prom) := HR5.out.cell 9
  have r10 : W5.cell? ⟨r, 10, none⟩ = some (.int .i64 f.last) := HR5.out.cell 10
  have r11 : W5.cell? ⟨r, 11, none⟩ = some (.int .i64 f.code) := HR5.out.cell 11
  have r12 : W5.cell? ⟨r, 12, none⟩ = some (.int .i64 f.step) := HR5.out.cell 12

  clear h
  go_enter Try.func20, Try.ntmps20
  go_wp2_with (first | ((with_reducible refine wpList_store_row (o := { dst := none, op := .store 45 (.tmp 19) (.tmp 18), type := _, pos := _, after := _, guard := none }) rfl 45 (.tmp 19) (.tmp 18) rfl g #[.int .i64 M, .bool false, .int .i64 0, .int .i64 0, .int .i64 0, .int .i64 0, .slice none 0 0, .slice none 0 0, .int .i64 0, .int .i64 0, .bool false, .int .i64 0, .int .i64 0, .int .i64 0, .int .i64 0, .slice none 0 0] ?_ ?_ 45 #[.int .i64 M, .bool true, .int .i64 f.ty, .int .i64 f.fl, .int .i64 f.st, .int .i64 f.pad, .slice D dn dc, .slice S sn sc, .int .i64 f.wt, .int .i64 f.par, .bool f.alone, .int .i64 f.prom, .int .i64 f.last, .int .i64 f.code, .int .i64 f.step, .slice A n c] ?_ ?_ ?_ ?_ ?_); rfl; rfl; exact HX3.out; kernel_rfl; rfl; simp [Value.oneCell']) | ((with_reducible refine wpList_store_row (o := { dst := none, op := .store 30 (.tmp 2) (.tmp 20), type := _, pos := _, after := _, guard := none }) rfl 30 (.tmp 2) (.tmp 20) rfl r #[.int .i64 f.ty, .int .i64 f.fl, .int .i64 f.st, .int .i64 f.pad, .slice A n c, .slice S sn sc, .int .i64 f.wt, .int .i64 f.par, .bool f.alone, .int .i64 f.prom, .int .i64 f.last, .int .i64 f.code, .int .i64 f.step] ?_ ?_ 30 #[.int .i64 0, .int .i64 0, .int .i64 0, .int .i64 0, .slice none 0 0, .slice none 0 0, .int .i64 0, .int .i64 0, .bool false, .int .i64 0, .int .i64 0, .int .i64 0, .int .i64 0] ?_ ?_ ?_ ?_ ?_); rfl; rfl; exact HR4.out; kernel_rfl; rfl; simp [Value.oneCell']))
  rw [hW5]
  refine bodyPost_ret (v := .agg #[.int .i64 f.ty, .int .i64 f.fl, .int .i64 f.st, .int .i64 f.pad, .slice A n c, .slice S sn sc, .int .i64 f.wt, .int .i64 f.par, .bool f.alone, .int .i64 f.prom, .int .i64 f.last, .int .i64 f.code, .int .i64 f.step]) (by simp [results, Try.results20, go_sem, r0, r1, r2, r3, r4, r5, r6, r7, r8, r9, r10, r11, r12]) rfl ⟨rfl, HX5.out, HO5.out⟩
end Go.Proofs.Ytpjibdnoiioaoaa
