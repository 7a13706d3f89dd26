/- Contracts: Same of bytes, of settings, of frames; Clone of settings. -/
import Derived.Test.YtpjibdnoiioaoaaM
namespace Go.Proofs.Ytpjibdnoiioaoaa
open Go.RowKit
set_option linter.unusedSimpArgs false
set_option linter.unusedVariables false

set_option maxRecDepth 10000 in
theorem same16 (A B : Option Addr) (n c d : Nat) (xs : List Int) (w : World) (hl : xs.length = n) (hn : n ≤ 1000000) (hs : Sees w A (u8s xs)) (ht : Sees w B (u8s xs)) :
    Calls Try.prog 16 #[.slice A n c, .slice B n d] w fun e w' => e = .returned (.bool true) ∧ Below w.heap.size w w' := by
  have HL := hide hl
  have HA := hide hs
  have HB := hide ht
  clear hl hs ht
  go_enter Try.func16, Try.ntmps16
  go_wp2_with fail
  go_loopw [5] (fun i wr => ∃ k : Nat, k ≤ n ∧ i = .int .i64 k ∧ Hid (Below w.heap.size w wr)) (fun i _ => n - (intOf i).toNat)
  case atStart => exact ⟨0, Nat.zero_le _, rfl, hide (Below.refl _ _)⟩
  case round =>
    obtain ⟨k, hk, rfl, HW⟩ := hrel
    by_cases hlt : k < n
    · have hkl : k < xs.length := by have := HL.out; omega
      obtain ⟨y, hy⟩ : ∃ y, xs[k] = y := ⟨_, rfl⟩
      have hu : (u8s xs)[k]? = some (.int .u8 y) := by unfold u8s; rw [List.getElem?_map, List.getElem?_eq_getElem hkl, hy]; rfl
      obtain ⟨b, o, rfl, hc⟩ := (HA.out.kept HW.out) k _ hu
      obtain ⟨b', o', rfl, hc'⟩ := (HB.out.kept HW.out) k _ hu
      have i1 : (k : Int) < (n : Int) := by omega
      have i3 : (0 : Int) ≤ (k : Int) := by omega
      clear hy hu hkl
      go_wp2_with fail
      go_quiet (fail)
      go_wp2_with fail
      go_roundw
      case rel => exact ⟨k + 1, by omega, by go_num, hide (below_drewN HW.out _)⟩
      case measure => simp [intOf]; omega
    · go_wp2_with fail
      go_ret
      exact ⟨rfl, HW.out⟩
set_option maxRecDepth 10000 in
theorem same23 (A B : Option Addr) (n c d : Nat) (xs : List (Int × Int)) (w : World) (hl : xs.length = n) (hn : n ≤ 1000) (hs : Sees w A (cellsS xs)) (ht : Sees w B (cellsS xs)) :
    Calls Try.prog 23 #[.slice A n c, .slice B n d] w fun e w' => e = .returned (.bool true) ∧ Below w.heap.size w w' := by
  have HL := hide hl
  have HA := hide hs
  have HB := hide ht
  clear hl hs ht
  go_enter Try.func23, Try.ntmps23
  go_wp2_with fail
  go_loopw [5] (fun i wr => ∃ k : Nat, k ≤ n ∧ i = .int .i64 k ∧ Hid (Below w.heap.size w wr)) (fun i _ => n - (intOf i).toNat)
  case atStart => exact ⟨0, Nat.zero_le _, rfl, hide (Below.refl _ _)⟩
  case round =>
    obtain ⟨k, hk, rfl, HW⟩ := hrel
    by_cases hlt : k < n
    · have hkl : k < xs.length := by have := HL.out; omega
      obtain ⟨x, y, hy⟩ : ∃ x y, xs[k] = (x, y) := ⟨_, _, rfl⟩
      obtain ⟨u1, u2⟩ := cellsS_get (l := xs) (i := k) (p := (x, y)) (by rw [List.getElem?_eq_getElem hkl, hy])
      obtain ⟨b, o, rfl, hc⟩ := (HA.out.kept HW.out) _ _ u1
      obtain ⟨b1, o1, e1, hc1⟩ := (HA.out.kept HW.out) _ _ u2
      injection e1 with e1; injection e1 with e1 e2; subst e1 e2
      obtain ⟨b', o', rfl, hc'⟩ := (HB.out.kept HW.out) _ _ u1
      obtain ⟨b1, o1, e1, hc1'⟩ := (HB.out.kept HW.out) _ _ u2
      injection e1 with e1; injection e1 with e1 e2; subst e1 e2
      have k1 : wr.cell? ⟨b, o + k * 2 + 1, none⟩ = some (.int .i64 y) := hc1
      have k1' : wr.cell? ⟨b', o' + k * 2 + 1, none⟩ = some (.int .i64 y) := hc1'
      have i1 : (k : Int) < (n : Int) := by omega
      have i3 : (0 : Int) ≤ (k : Int) := by omega
      clear hy u1 u2 hkl
      go_wp2_with fail
      go_quiet (fail)
      go_wp2_with fail
      go_roundw
      case rel => exact ⟨k + 1, by omega, by go_num, hide (below_drewN HW.out _)⟩
      case measure => simp [intOf]; omega
    · go_wp2_with fail
      go_ret
      exact ⟨rfl, HW.out⟩
set_option maxRecDepth 10000 in
set_option maxHeartbeats 2000000 in
theorem same14 (f : Fr) (D S D' S' : Option Addr) (dn dc sn sc dc' sc' : Nat) (w : World) (hd : dn ≤ 1000000) (hs : sn ≤ 1000) (hdl : f.data.length = dn) (hsl : f.sets.length = sn)
    (d1 : Sees w D (u8s f.data)) (d2 : Sees w D' (u8s f.data)) (s1 : Sees w S (cellsS f.sets)) (s2 : Sees w S' (cellsS f.sets)) :
    Calls Try.prog 14 #[.agg #[.int .i64 f.ty, .int .i64 f.fl, .int .i64 f.st, .int .i64 f.pad, .slice D dn dc, .slice S sn sc, .int .i64 f.wt, .int .i64 f.par, .bool f.alone, .int .i64 f.prom, .int .i64 f.last, .int .i64 f.code, .int .i64 f.step], .agg #[.int .i64 f.ty, .int .i64 f.fl, .int .i64 f.st, .int .i64 f.pad, .slice D' dn dc', .slice S' sn sc', .int .i64 f.wt, .int .i64 f.par, .bool f.alone, .int .i64 f.prom, .int .i64 f.last, .int .i64 f.code, .int .i64 f.step]] w fun e w' => e = .returned (.bool true) ∧ Below w.heap.size w w' := by
  have C16 : ∀ w1, Below w.heap.size w w1 → Hid (Calls Try.prog 16 #[.slice D dn dc, .slice D' dn dc'] w1 fun e w' => e = .returned (.bool true) ∧ Below w1.heap.size w1 w') := fun w1 hb => hide (same16 D D' dn dc dc' f.data w1 hdl hd (d1.kept hb) (d2.kept hb))
  have C23 : ∀ w1, Below w.heap.size w w1 → Hid (Calls Try.prog 23 #[.slice S sn sc, .slice S' sn sc'] w1 fun e w' => e = .returned (.bool true) ∧ Below w1.heap.size w1 w') := fun w1 hb => hide (same23 S S' sn sc sc' f.sets w1 hsl hs (s1.kept hb) (s2.kept hb))
  obtain ⟨w2, hw2⟩ : ∃ w2, (w.alloc (.cells #[.int .i64 f.ty, .int .i64 f.fl, .int .i64 f.st, .int .i64 f.pad, .slice D dn dc, .slice S sn sc, .int .i64 f.wt, .int .i64 f.par, .bool f.alone, .int .i64 f.prom, .int .i64 f.last, .int .i64 f.code, .int .i64 f.step] 30)).alloc (.cells #[.int .i64 f.ty, .int .i64 f.fl, .int .i64 f.st, .int .i64 f.pad, .slice D' dn dc', .slice S' sn sc', .int .i64 f.wt, .int .i64 f.par, .bool f.alone, .int .i64 f.prom, .int .i64 f.last, .int .i64 f.code, .int .i64 f.step] 30) = w2 := ⟨_, rfl⟩
  have HB2 : Hid (Below w.heap.size w w2) := hide (by rw [← hw2]; exact ((Below.refl _ _).alloc (Nat.le_refl _) _).alloc (by simp) _)
  have HX : Hid (Blk w2 w.heap.size 30 #[.int .i64 f.ty, .int .i64 f.fl, .int .i64 f.st, .int .i64 f.pad, .slice D dn dc, .slice S sn sc, .int .i64 f.wt, .int .i64 f.par, .bool f.alone, .int .i64 f.prom, .int .i64 f.last, .int .i64 f.code, .int .i64 f.step]) := hide (by rw [← hw2]; exact (Blk.born w 30 _).alloc _)
  have HY : Hid (Blk w2 (w.heap.size + 1) 30 #[.int .i64 f.ty, .int .i64 f.fl, .int .i64 f.st, .int .i64 f.pad, .slice D' dn dc', .slice S' sn sc', .int .i64 f.wt, .int .i64 f.par, .bool f.alone, .int .i64 f.prom, .int .i64 f.last, .int .i64 f.code, .int .i64 f.step]) := hide (by
    rw [← hw2]
    have := Blk.born (w.alloc (.cells #[.int .i64 f.ty, .int .i64 f.fl, .int .i64 f.st, .int .i64 f.pad, .slice D dn dc, .slice S sn sc, .int .i64 f.wt, .int .i64 f.par, .bool f.alone, .int .i64 f.prom, .int .i64 f.last, .int .i64 f.code, .int .i64 f.step] 30)) 30 #[.int .i64 f.ty, .int .i64 f.fl, .int .i64 f.st, .int .i64 f.pad, .slice D' dn dc', .slice S' sn sc', .int .i64 f.wt, .int .i64 f.par, .bool f.alone, .int .i64 f.prom, .int .i64 f.last, .int .i64 f.code, .int .i64 f.step]
    simpa using this)
  clear hdl hsl d1 d2 s1 s2 hd hs
  obtain ⟨ty, fl, st, pad, data, sets, wt, par, alone, prom, last, code, step⟩ := f
  dsimp only at *
  have x0 : w2.cell? ⟨w.heap.size, 0, none⟩ = some (.int .i64 ty) := HX.out.cell 0
  have x1 : w2.cell? ⟨w.heap.size, 1, none⟩ = some (.int .i64 fl) := HX.out.cell 1
  have x2 : w2.cell? ⟨w.heap.size, 2, none⟩ = some (.int .i64 st) := HX.out.cell 2
  have x3 : w2.cell? ⟨w.heap.size, 3, none⟩ = some (.int .i64 pad) := HX.out.cell 3
  have x4 : w2.cell? ⟨w.heap.size, 4, none⟩ = some (.slice D dn dc) := HX.out.cell 4
  have x5 : w2.cell? ⟨w.heap.size, 5, none⟩ = some (.slice S sn sc) := HX.out.cell 5
  have x6 : w2.cell? ⟨w.heap.size, 6, none⟩ = some (.int .i64 wt) := HX.out.cell 6
  have x7 : w2.cell? ⟨w.heap.size, 7, none⟩ = some (.int .i64 par) := HX.out.cell 7
  have x8 : w2.cell? ⟨w.heap.size, 8, none⟩ = some (.bool alone) := HX.out.cell 8
  have x9 : w2.cell? ⟨w.heap.size, 9, none⟩ = some (.int .i64 prom) := HX.out.cell 9
  have x10 : w2.cell? ⟨w.heap.size, 10, none⟩ = some (.int .i64 last) := HX.out.cell 10
  have x11 : w2.cell? ⟨w.heap.size, 11, none⟩ = some (.int .i64 code) := HX.out.cell 11
  have x12 : w2.cell? ⟨w.heap.size, 12, none⟩ = some (.int .i64 step) := HX.out.cell 12
  have y0 : w2.cell? ⟨w.heap.size + 1, 0, none⟩ = some (.int .i64 ty) := HY.out.cell 0
  have y1 : w2.cell? ⟨w.heap.size + 1, 1, none⟩ = some (.int .i64 fl) := HY.out.cell 1
  have y2 : w2.cell? ⟨w.heap.size + 1, 2, none⟩ = some (.int .i64 st) := HY.out.cell 2
  have y3 : w2.cell? ⟨w.heap.size + 1, 3, none⟩ = some (.int .i64 pad) := HY.out.cell 3
  have y4 : w2.cell? ⟨w.heap.size + 1, 4, none⟩ = some (.slice D' dn dc') := HY.out.cell 4
  have y5 : w2.cell? ⟨w.heap.size + 1, 5, none⟩ = some (.slice S' sn sc') := HY.out.cell 5
  have y6 : w2.cell? ⟨w.heap.size + 1, 6, none⟩ = some (.int .i64 wt) := HY.out.cell 6
  have y7 : w2.cell? ⟨w.heap.size + 1, 7, none⟩ = some (.int .i64 par) := HY.out.cell 7
  have y8 : w2.cell? ⟨w.heap.size + 1, 8, none⟩ = some (.bool alone) := HY.out.cell 8
  have y9 : w2.cell? ⟨w.heap.size + 1, 9, none⟩ = some (.int .i64 prom) := HY.out.cell 9
  have y10 : w2.cell? ⟨w.heap.size + 1, 10, none⟩ = some (.int .i64 last) := HY.out.cell 10
  have y11 : w2.cell? ⟨w.heap.size + 1, 11, none⟩ = some (.int .i64 code) := HY.out.cell 11
  have y12 : w2.cell? ⟨w.heap.size + 1, 12, none⟩ = some (.int .i64 step) := HY.out.cell 12
  have q0 : (ty == ty) = true := beq_self_eq_true _
  have q1 : (fl == fl) = true := beq_self_eq_true _
  have q2 : (st == st) = true := beq_self_eq_true _
  have q3 : (pad == pad) = true := beq_self_eq_true _
  have q4 : (wt == wt) = true := beq_self_eq_true _
  have q5 : (par == par) = true := beq_self_eq_true _
  have q6 : (alone == alone) = true := beq_self_eq_true _
  have q7 : (prom == prom) = true := beq_self_eq_true _
  have q8 : (last == last) = true := beq_self_eq_true _
  have q9 : (code == code) = true := beq_self_eq_true _
  have q10 : (step == step) = true := beq_self_eq_true _
  go_enter Try.func14, Try.ntmps14
  go_wp2_with fail
  refine (C16 _ HB2.out).out.mono ?_
  rintro e w3 ⟨rfl, hb⟩
  have HB3 := hide (below_nextB HB2.out HB2.out.size hb)
  have HX3 := hide (HX.out.kept hb)
  have HY3 := hide (HY.out.kept hb)
  clear hb HX HY
  have x0 : w3.cell? ⟨w.heap.size, 0, none⟩ = some (.int .i64 ty) := HX3.out.cell 0
  have x1 : w3.cell? ⟨w.heap.size, 1, none⟩ = some (.int .i64 fl) := HX3.out.cell 1
  have x2 : w3.cell? ⟨w.heap.size, 2, none⟩ = some (.int .i64 st) := HX3.out.cell 2
  have x3 : w3.cell? ⟨w.heap.size, 3, none⟩ = some (.int .i64 pad) := HX3.out.cell 3
  have x4 : w3.cell? ⟨w.heap.size, 4, none⟩ = some (.slice D dn dc) := HX3.out.cell 4
  have x5 : w3.cell? ⟨w.heap.size, 5, none⟩ = some (.slice S sn sc) := HX3.out.cell 5
  have x6 : w3.cell? ⟨w.heap.size, 6, none⟩ = some (.int .i64 wt) := HX3.out.cell 6
  have x7 : w3.cell? ⟨w.heap.size, 7, none⟩ = some (.int .i64 par) := HX3.out.cell 7
  have x8 : w3.cell? ⟨w.heap.size, 8, none⟩ = some (.bool alone) := HX3.out.cell 8
  have x9 : w3.cell? ⟨w.heap.size, 9, none⟩ = some (.int .i64 prom) := HX3.out.cell 9
  have x10 : w3.cell? ⟨w.heap.size, 10, none⟩ = some (.int .i64 last) := HX3.out.cell 10
  have x11 : w3.cell? ⟨w.heap.size, 11, none⟩ = some (.int .i64 code) := HX3.out.cell 11
  have x12 : w3.cell? ⟨w.heap.size, 12, none⟩ = some (.int .i64 step) := HX3.out.cell 12
  have y0 : w3.cell? ⟨w.heap.size + 1, 0, none⟩ = some (.int .i64 ty) := HY3.out.cell 0
  have y1 : w3.cell? ⟨w.heap.size + 1, 1, none⟩ = some (.int .i64 fl) := HY3.out.cell 1
  have y2 : w3.cell? ⟨w.heap.size + 1, 2, none⟩ = some (.int .i64 st) := HY3.out.cell 2
  have y3 : w3.cell? ⟨w.heap.size + 1, 3, none⟩ = some (.int .i64 pad) := HY3.out.cell 3
  have y4 : w3.cell? ⟨w.heap.size + 1, 4, none⟩ = some (.slice D' dn dc') := HY3.out.cell 4
  have y5 : w3.cell? ⟨w.heap.size + 1, 5, none⟩ = some (.slice S' sn sc') := HY3.out.cell 5
  have y6 : w3.cell? ⟨w.heap.size + 1, 6, none⟩ = some (.int .i64 wt) := HY3.out.cell 6
  have y7 : w3.cell? ⟨w.heap.size + 1, 7, none⟩ = some (.int .i64 par) := HY3.out.cell 7
  have y8 : w3.cell? ⟨w.heap.size + 1, 8, none⟩ = some (.bool alone) := HY3.out.cell 8
  have y9 : w3.cell? ⟨w.heap.size + 1, 9, none⟩ = some (.int .i64 prom) := HY3.out.cell 9
  have y10 : w3.cell? ⟨w.heap.size + 1, 10, none⟩ = some (.int .i64 last) := HY3.out.cell 10
  have y11 : w3.cell? ⟨w.heap.size + 1, 11, none⟩ = some (.int .i64 code) := HY3.out.cell 11
  have y12 : w3.cell? ⟨w.heap.size + 1, 12, none⟩ = some (.int .i64 step) := HY3.out.cell 12
  go_wp2_with fail
  refine (C23 _ HB3.out).out.mono ?_
  rintro e w4 ⟨rfl, hb⟩
  have HB4 := hide (below_nextB HB3.out HB3.out.size hb)
  have HX4 := hide (HX3.out.kept hb)
  have HY4 := hide (HY3.out.kept hb)
  clear hb HX3 HY3
  have x0 : w4.cell? ⟨w.heap.size, 0, none⟩ = some (.int .i64 ty) := HX4.out.cell 0
  have x1 : w4.cell? ⟨w.heap.size, 1, none⟩ = some (.int .i64 fl) := HX4.out.cell 1
  have x2 : w4.cell? ⟨w.heap.size, 2, none⟩ = some (.int .i64 st) := HX4.out.cell 2
  have x3 : w4.cell? ⟨w.heap.size, 3, none⟩ = some (.int .i64 pad) := HX4.out.cell 3
  have x4 : w4.cell? ⟨w.heap.size, 4, none⟩ = some (.slice D dn dc) := HX4.out.cell 4
  have x5 : w4.cell? ⟨w.heap.size, 5, none⟩ = some (.slice S sn sc) := HX4.out.cell 5
  have x6 : w4.cell? ⟨w.heap.size, 6, none⟩ = some (.int .i64 wt) := HX4.out.cell 6
  have x7 : w4.cell? ⟨w.heap.size, 7, none⟩ = some (.int .i64 par) := HX4.out.cell 7
  have x8 : w4.cell? ⟨w.heap.size, 8, none⟩ = some (.bool alone) := HX4.out.cell 8
  have x9 : w4.cell? ⟨w.heap.size, 9, none⟩ = some (.int .i64 prom) := HX4.out.cell 9
  have x10 : w4.cell? ⟨w.heap.size, 10, none⟩ = some (.int .i64 last) := HX4.out.cell 10
  have x11 : w4.cell? ⟨w.heap.size, 11, none⟩ = some (.int .i64 code) := HX4.out.cell 11
  have x12 : w4.cell? ⟨w.heap.size, 12, none⟩ = some (.int .i64 step) := HX4.out.cell 12
  have y0 : w4.cell? ⟨w.heap.size + 1, 0, none⟩ = some (.int .i64 ty) := HY4.out.cell 0
  have y1 : w4.cell? ⟨w.heap.size + 1, 1, none⟩ = some (.int .i64 fl) := HY4.out.cell 1
  have y2 : w4.cell? ⟨w.heap.size + 1, 2, none⟩ = some (.int .i64 st) := HY4.out.cell 2
  have y3 : w4.cell? ⟨w.heap.size + 1, 3, none⟩ = some (.int .i64 pad) := HY4.out.cell 3
  have y4 : w4.cell? ⟨w.heap.size + 1, 4, none⟩ = some (.slice D' dn dc') := HY4.out.cell 4
  have y5 : w4.cell? ⟨w.heap.size + 1, 5, none⟩ = some (.slice S' sn sc') := HY4.out.cell 5
  have y6 : w4.cell? ⟨w.heap.size + 1, 6, none⟩ = some (.int .i64 wt) := HY4.out.cell 6
  have y7 : w4.cell? ⟨w.heap.size + 1, 7, none⟩ = some (.int .i64 par) := HY4.out.cell 7
  have y8 : w4.cell? ⟨w.heap.size + 1, 8, none⟩ = some (.bool alone) := HY4.out.cell 8
  have y9 : w4.cell? ⟨w.heap.size + 1, 9, none⟩ = some (.int .i64 prom) := HY4.out.cell 9
  have y10 : w4.cell? ⟨w.heap.size + 1, 10, none⟩ = some (.int .i64 last) := HY4.out.cell 10
  have y11 : w4.cell? ⟨w.heap.size + 1, 11, none⟩ = some (.int .i64 code) := HY4.out.cell 11
  have y12 : w4.cell? ⟨w.heap.size + 1, 12, none⟩ = some (.int .i64 step) := HY4.out.cell 12
  go_wp2_with fail
  go_ret
  exact ⟨rfl, HB4.out⟩

/-- What Clone says. -/
def ClPost (xs : List (Int × Int)) (n : Nat) (w : World) (e : Ending) (w' : World) : Prop := ∃ A c, e = .returned (.slice A n c) ∧ w'.ownsRow w.heap.size 48 2 (.slice A n c) n (cellsS xs) ∧ Below w.heap.size w w'
theorem clone_any (A : Option Addr) (n c : Nat) (xs : List (Int × Int)) (w : World) (hl : xs.length = n) (hn : n ≤ 1000) (hA : A = none → n = 0 ∧ c = 0) (hs : Sees w A (cellsS xs)) : Calls Try.prog 18 #[.slice A n c] w (ClPost xs n w) := by
  cases A with
  | none =>
    obtain ⟨rfl, rfl⟩ := hA rfl
    obtain rfl := List.eq_nil_of_length_eq_zero hl
    have hnil := Go.Lib.run_eql_slice_nil_nil (P := Try.prog) w 0 0 Try.underlying28
    clear hl hA hs
    go_enter Try.func18, Try.ntmps18
    go_wp2_with fail
    go_ret
    exact ⟨none, 0, rfl, World.ownsRow_nil _ _ _ _, Below.refl _ _⟩
  | some ad =>
    have HL := hide hl
    have HS := hide (hs.alloc (.cells #[] 48))
    have hnil := Go.Lib.run_eql_slice_some_nil (P := Try.prog) w ad n c Try.underlying28
    clear hl hs hA
    go_enter Try.func18, Try.ntmps18
    go_wp2_with (at_builtin; go_loud (refine wpList_pour rfl (.tmp 5) (.tmp 6) 28 rfl w.heap.size 48 2 info48 rfl (by decide) Try.underlying28 _ 0 [] rfl (own_none (w := w) w.heap.size 48 2 (Nat.le_refl _)) (some ad) n c (cellsS xs) rfl (by rw [cellsS_length, HL.out]) (fun h => by cases h) HS.out oneS (by unfold maxLen; omega) (by omega) (by simp) ?_))
    intro B c' w' ho hg
    have HO := hide ho
    have HB := hide (pour_below hg)
    clear ho hg
    go_wp2_with fail
    go_ret
    exact ⟨_, _, rfl, HO.out, HB.out⟩
end Go.Proofs.Ytpjibdnoiioaoaa
