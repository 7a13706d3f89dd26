/- Contracts: step, want, alive. -/
import Derived.Test.YtphbmbenkbefhaaY
namespace Go.Proofs.Ytphbmbenkbefhaa
open Go.RowKit

def stepS (g : Bool) (a b side n ini : Int) : Int × Int × Bool := if g then giveS a b side n ini else takeS a b side n ini
theorem below_base3 {w w' : World} {o o' o'' : Obj} (hb : Below (((w.alloc o).alloc o').alloc o'').heap.size (((w.alloc o).alloc o').alloc o'') w') : Below w.heap.size w w' :=
  below_next1 (((Below.refl _ w).alloc (Nat.le_refl _) o).alloc (by simp) o') hb
theorem take_am {a b side n ini x y : Int} {q : Bool} (ha : Am a) (hb : Am b) (h : takeS a b side n ini = (x, y, q)) : Am x ∧ Am y := by
  unfold takeS at h
  split at h
  · obtain ⟨rfl, rfl, rfl⟩ : 0 = x ∧ 0 = y ∧ false = q := by simpa using h
    exact ⟨am0, am0⟩
  · rename_i hh
    have hm : mayS side ini := Classical.byContradiction fun h2 => hh (.inl h2)
    obtain ⟨_, _, _, h1, h2⟩ := both_move a b side _ x y q ha hb hm.1 h
    exact ⟨h1, h2⟩
theorem give_am {a b side n ini x y : Int} {q : Bool} (ha : Am a) (hb : Am b) (h : giveS a b side n ini = (x, y, q)) : Am x ∧ Am y := by
  unfold giveS at h
  split at h
  · obtain ⟨rfl, rfl, rfl⟩ : 0 = x ∧ 0 = y ∧ false = q := by simpa using h
    exact ⟨am0, am0⟩
  · rename_i hh
    have hm : mayS side ini := Classical.byContradiction fun h2 => hh (.inl h2)
    obtain ⟨_, _, _, h1, h2⟩ := both_move a b side _ x y q ha hb hm.1 h
    exact ⟨h1, h2⟩
theorem step_am {g : Bool} {a b side n ini x y : Int} {q : Bool} (ha : Am a) (hb : Am b) (h : stepS g a b side n ini = (x, y, q)) : Am x ∧ Am y := by
  cases g
  · exact take_am ha hb h
  · exact give_am ha hb h
theorem move_no {a b side n x y : Int} {q : Bool} (hq : q = false) (h : moveS a b side n = (x, y, q)) : x = 0 ∧ y = 0 := by
  subst hq
  unfold moveS at h
  split at h <;> split at h <;> simp at h <;> exact ⟨h.1.symm, h.2.symm⟩
theorem step_no {g : Bool} {a b side n ini x y : Int} {q : Bool} (hq : q = false) (h : stepS g a b side n ini = (x, y, q)) : x = 0 ∧ y = 0 := by
  cases g
  · change takeS a b side n ini = _ at h
    unfold takeS at h
    split at h
    · simp at h; exact ⟨h.1.symm, h.2.1.symm⟩
    · exact move_no hq h
  · change giveS a b side n ini = _ at h
    unfold giveS at h
    split at h
    · simp at h; exact ⟨h.1.symm, h.2.1.symm⟩
    · exact move_no hq h

set_option maxRecDepth 10000 in
theorem step7 (g : Bool) (a b side n ini x y : Int) (q : Bool) (w : World) (ha : Hid (Am a)) (hb : Hid (Am b)) (h : Hid (stepS g a b side n ini = (x, y, q))) : Calls Try.prog 7 #[.agg #[.complex .f64 (fw a) (fw b)], .agg #[.bool g, .int .i64 side, .int .i64 n, .int .i64 ini]] w (WPost x y q w) := by
  have hst := st_cx
  cases g
  · go_enter Try.func7, Try.ntmps7
    go_wp2_with fail
    refine (take11 a b side n ini x y q _ ha hb h).mono ?_
    rintro e w1 ⟨rfl, hb1⟩
    have R1 : Blk w1 (w.heap.size + 2) 26 #[.complex .f64 0 0] := by have := (Blk.born ((w.alloc (.cells #[.complex .f64 (fw a) (fw b)] 26)).alloc (.cells #[.bool false, .int .i64 side, .int .i64 n, .int .i64 ini] 30)) 26 #[.complex .f64 0 0]).kept hb1; simpa using this
    have c0 : w1.cell? ⟨w.heap.size + 2, 0, none⟩ = some (.complex .f64 0 0) := R1.cell 0
    have f0 : w1.frozen? ⟨w.heap.size + 2, 0, none⟩ = false := R1.free 0
    have HW1 := hide (below_base3 hb1)
    clear hb1
    go_wp2_with fail
    have RR := (R1.store 0 (.complex .f64 (fw x) (fw y)))
    have d0 := RR.cell 0
    refine bodyPost_ret (v := .tuple #[.agg #[.complex .f64 (fw x) (fw y)], .bool q]) (by simp [results, Try.results7, go_sem, d0]) rfl ⟨rfl, ?_⟩
    exact (HW1.out.setCell (by simp; omega) (.complex .f64 (fw x) (fw y)))
  · go_enter Try.func7, Try.ntmps7
    go_wp2_with fail
    refine (give12 a b side n ini x y q _ ha hb h).mono ?_
    rintro e w1 ⟨rfl, hb1⟩
    have R1 : Blk w1 (w.heap.size + 2) 26 #[.complex .f64 0 0] := by have := (Blk.born ((w.alloc (.cells #[.complex .f64 (fw a) (fw b)] 26)).alloc (.cells #[.bool true, .int .i64 side, .int .i64 n, .int .i64 ini] 30)) 26 #[.complex .f64 0 0]).kept hb1; simpa using this
    have c0 : w1.cell? ⟨w.heap.size + 2, 0, none⟩ = some (.complex .f64 0 0) := R1.cell 0
    have f0 : w1.frozen? ⟨w.heap.size + 2, 0, none⟩ = false := R1.free 0
    have HW1 := hide (below_base3 hb1)
    clear hb1
    go_wp2_with fail
    have RR := (R1.store 0 (.complex .f64 (fw x) (fw y)))
    have d0 := RR.cell 0
    refine bodyPost_ret (v := .tuple #[.agg #[.complex .f64 (fw x) (fw y)], .bool q]) (by simp [results, Try.results7, go_sem, d0]) rfl ⟨rfl, ?_⟩
    exact (HW1.out.setCell (by simp; omega) (.complex .f64 (fw x) (fw y)))

set_option maxRecDepth 10000 in
theorem want8 (g : Bool) (a b side n ini x y : Int) (q : Bool) (w : World) (ha : Hid (Am a)) (hb : Hid (Am b)) (h : Hid (stepS g a b side n ini = (x, y, q))) : Calls Try.prog 8 #[.agg #[.int .i64 a, .int .i64 b], .agg #[.bool g, .int .i64 side, .int .i64 n, .int .i64 ini]] w (PPost x y q w) := by
  cases g
  · go_enter Try.func8, Try.ntmps8
    go_wp2_with fail
    refine (take14 a b side n ini x y q _ ha hb h).mono ?_
    rintro e w1 ⟨rfl, hb1⟩
    have R1 : Blk w1 (w.heap.size + 2) 28 #[.int .i64 0, .int .i64 0] := by have := (Blk.born ((w.alloc (.cells #[.int .i64 a, .int .i64 b] 28)).alloc (.cells #[.bool false, .int .i64 side, .int .i64 n, .int .i64 ini] 30)) 28 #[.int .i64 0, .int .i64 0]).kept hb1; simpa using this
    have c0 : w1.cell? ⟨w.heap.size + 2, 0, none⟩ = some (.int .i64 0) := R1.cell 0
    have f0 : w1.frozen? ⟨w.heap.size + 2, 0, none⟩ = false := R1.free 0
    have c1 : w1.cell? ⟨w.heap.size + 2, 1, none⟩ = some (.int .i64 0) := R1.cell 1
    have f1 : w1.frozen? ⟨w.heap.size + 2, 1, none⟩ = false := R1.free 1
    have HW1 := hide (below_base3 hb1)
    clear hb1
    go_wp2_with fail
    have RR := ((R1.store 0 (.int .i64 x)).store 1 (.int .i64 y))
    have d0 := RR.cell 0
    have d1 := RR.cell 1
    refine bodyPost_ret (v := .tuple #[.agg #[.int .i64 x, .int .i64 y], .bool q]) (by simp [results, Try.results8, go_sem, d0, d1]) rfl ⟨rfl, ?_⟩
    exact ((HW1.out.setCell (by simp; omega) (.int .i64 x)).setCell (by simp; omega) (.int .i64 y))
  · go_enter Try.func8, Try.ntmps8
    go_wp2_with fail
    refine (give13 a b side n ini x y q _ ha hb h).mono ?_
    rintro e w1 ⟨rfl, hb1⟩
    have R1 : Blk w1 (w.heap.size + 2) 28 #[.int .i64 0, .int .i64 0] := by have := (Blk.born ((w.alloc (.cells #[.int .i64 a, .int .i64 b] 28)).alloc (.cells #[.bool true, .int .i64 side, .int .i64 n, .int .i64 ini] 30)) 28 #[.int .i64 0, .int .i64 0]).kept hb1; simpa using this
    have c0 : w1.cell? ⟨w.heap.size + 2, 0, none⟩ = some (.int .i64 0) := R1.cell 0
    have f0 : w1.frozen? ⟨w.heap.size + 2, 0, none⟩ = false := R1.free 0
    have c1 : w1.cell? ⟨w.heap.size + 2, 1, none⟩ = some (.int .i64 0) := R1.cell 1
    have f1 : w1.frozen? ⟨w.heap.size + 2, 1, none⟩ = false := R1.free 1
    have HW1 := hide (below_base3 hb1)
    clear hb1
    go_wp2_with fail
    have RR := ((R1.store 0 (.int .i64 x)).store 1 (.int .i64 y))
    have d0 := RR.cell 0
    have d1 := RR.cell 1
    refine bodyPost_ret (v := .tuple #[.agg #[.int .i64 x, .int .i64 y], .bool q]) (by simp [results, Try.results8, go_sem, d0, d1]) rfl ⟨rfl, ?_⟩
    exact ((HW1.out.setCell (by simp; omega) (.int .i64 x)).setCell (by simp; omega) (.int .i64 y))

set_option maxRecDepth 10000 in
theorem alive_any (w : World) : Calls Try.prog 6 #[] w fun e w' => e = .returned (.bool true) ∧ Below w.heap.size w w' := by
  have H0 : Hid (Am 0) := hide am0
  have H10 : Hid (Am (-10)) := hide (by decide)
  have HT : Hid (∀ w, Calls Try.prog 11 #[.agg #[.complex .f64 0 0], .int .i64 0, .int .i64 10, .int .i64 30] w (WPost (-10) 0 true w)) := hide fun w => by
    have := take11 0 0 0 10 30 (-10) 0 true w H0 H0 (hide (by decide))
    rw [fw_zero] at this; exact this
  have hst := st_cx
  go_enter Try.func6, Try.ntmps6
  go_wp2_with fail
  refine (HT.out _).mono ?_
  rintro e w1 ⟨rfl, hb1⟩
  have HW1 := hide (below_base1 hb1)
  clear hb1
  go_wp2_with fail
  refine (room9_q (-10) 0 0 30 20 _ H10 H0 (hide (by decide))).mono ?_
  rintro e w2 ⟨rfl, hb2⟩
  have B2 := (Blk.born w1 26 #[.complex .f64 (fw (-10)) (fw 0)]).kept hb2
  have k0 : w2.cell? ⟨w1.heap.size, 0, none⟩ = some (.complex .f64 (fw (-10)) (fw 0)) := B2.cell 0
  have HW2 := hide (below_next1 HW1.out hb2)
  clear hb2
  go_wp2_with fail
  refine (room9_q (-10) 0 0 5 (-5) _ H10 H0 (hide (by decide))).mono ?_
  rintro e w3 ⟨rfl, hb3⟩
  have B3 := B2.kept hb3
  clear k0
  have k0 : w3.cell? ⟨w1.heap.size, 0, none⟩ = some (.complex .f64 (fw (-10)) (fw 0)) := B3.cell 0
  have HW3 := hide (below_next HW2.out hb3)
  clear hb3
  go_wp2_with fail
  refine (room9_q (-10) 0 1 5 5 _ H10 H0 (hide (by decide))).mono ?_
  rintro e w4 ⟨rfl, hb4⟩
  have HW4 := hide (below_next HW3.out hb4)
  clear hb4
  go_wp2_with fail
  go_ret
  exact ⟨rfl, HW4.out⟩

end Go.Proofs.Ytphbmbenkbefhaa
