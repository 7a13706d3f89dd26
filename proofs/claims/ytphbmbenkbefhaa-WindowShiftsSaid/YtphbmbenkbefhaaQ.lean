/- WindowPlays' walk. -/
import Derived.Test.YtphbmbenkbefhaaZ
import Derived.WalkMore
namespace Go.Proofs.Ytphbmbenkbefhaa
open Go.RowKit

/-- A slice of steps, as it is seen. -/
def Steps (w : World) (A : Option Addr) (l : List (Bool × Int × Int × Int)) : Prop :=
  ∀ i g s k t, l[i]? = some (g, s, k, t) → ∃ b o, A = some ⟨b, o, none⟩ ∧ w.cell? ⟨b, o + i * 4, none⟩ = some (.bool g) ∧ w.cell? ⟨b, o + i * 4 + 1, none⟩ = some (.int .i64 s) ∧ w.cell? ⟨b, o + i * 4 + 2, none⟩ = some (.int .i64 k) ∧ w.cell? ⟨b, o + i * 4 + 3, none⟩ = some (.int .i64 t)

set_option maxRecDepth 10000 in
theorem plays_far (A : Option Addr) (n c : Nat) (w : World) (h : 60 < n) (_hn : n ≤ maxLen) : Calls Try.prog 3 #[.slice A n c] w fun e w' => e = .returned (.bool true) ∧ Below w.heap.size w w' := by
  go_enter Try.func3, Try.ntmps3
  go_wp2_with fail
  refine (alive_any _).mono ?_
  rintro e w1 ⟨rfl, hb⟩
  go_wp2_with fail
  go_ret
  exact ⟨rfl, hb⟩

set_option maxRecDepth 10000 in
set_option maxHeartbeats 2000000 in
theorem plays_near (A : Option Addr) (n c : Nat) (l : List (Bool × Int × Int × Int)) (w : World) (h : n ≤ 60) (HL : Hid (l.length = n)) (HS : Hid (Steps w A l)) : Calls Try.prog 3 #[.slice A n c] w fun e w' => e = .returned (.bool true) ∧ Below w.heap.size w w' := by
  have H0 : Hid (Am 0) := hide am0
  have HB0 : Hid (Blk ((w.alloc (.cells #[.complex .f64 0 0] 26)).alloc (.cells #[.int .i64 0, .int .i64 0] 28)) w.heap.size 26 #[(.complex .f64 (fw 0) (fw 0))]) := hide (by rw [fw_zero]; exact (Blk.born _ _ _).alloc _)
  have HP0 : Hid (Blk ((w.alloc (.cells #[.complex .f64 0 0] 26)).alloc (.cells #[.int .i64 0, .int .i64 0] 28)) (w.heap.size + 1) 28 #[.int .i64 0, .int .i64 0]) := hide (by have := Blk.born (w.alloc (.cells #[.complex .f64 0 0] 26)) 28 #[.int .i64 0, .int .i64 0]; simpa using this)
  have HW0 : Hid (Below w.heap.size w ((w.alloc (.cells #[.complex .f64 0 0] 26)).alloc (.cells #[.int .i64 0, .int .i64 0] 28))) := hide (((Below.refl _ _).alloc (Nat.le_refl _) _).alloc (by simp) _)
  have hst := st_cx
  go_enter Try.func3, Try.ntmps3
  go_wp2_with fail
  go_loopw [18] (fun ii wr => ∃ (k : Nat) (a b : Int), ii = .int .i64 k ∧ k ≤ n ∧ Hid (Am a) ∧ Hid (Am b) ∧ Hid (Blk wr w.heap.size 26 #[(.complex .f64 (fw a) (fw b))]) ∧ Hid (Blk wr (w.heap.size + 1) 28 #[.int .i64 a, .int .i64 b]) ∧ Hid (Below w.heap.size w wr)) (fun ii _ => n - (intOf ii).toNat)
  case atStart => exact ⟨0, 0, 0, rfl, Nat.zero_le _, H0, H0, HB0, HP0, HW0⟩
  case round =>
    obtain ⟨k, a, b, rfl, hk, ha, hb, HB, HP, HW⟩ := hrel
    clear HB0 HP0 HW0
    by_cases hlt : k < n
    · have hkl : k < l.length := by have := HL.out; omega
      obtain ⟨g, s, nn, ini, hst0⟩ : ∃ g s nn ini, l[k] = (g, s, nn, ini) := ⟨_, _, _, _, rfl⟩
      obtain ⟨bb, oo, rfl, t0, t1, t2, t3⟩ := HS.out k g s nn ini (by rw [List.getElem?_eq_getElem hkl, hst0])
      have hbb : bb < w.heap.size := World.block_lt_of_cell? w _ t0
      have s0 := (HW.out.cell (p := ⟨bb, oo + k * 4, none⟩) hbb).trans t0
      have s1 := (HW.out.cell (p := ⟨bb, oo + k * 4 + 1, none⟩) hbb).trans t1
      have s2 := (HW.out.cell (p := ⟨bb, oo + k * 4 + 2, none⟩) hbb).trans t2
      have s3 := (HW.out.cell (p := ⟨bb, oo + k * 4 + 3, none⟩) hbb).trans t3
      clear t0 t1 t2 t3 hst0 hkl
      have c0 : wr.cell? ⟨w.heap.size, 0, none⟩ = some (.complex .f64 (fw a) (fw b)) := HB.out.cell 0
      have d0 : wr.cell? ⟨w.heap.size + 1, 0, none⟩ = some (.int .i64 a) := HP.out.cell 0
      have d1 : wr.cell? ⟨w.heap.size + 1, 1, none⟩ = some (.int .i64 b) := HP.out.cell 1
      have hki : (k : Int) < (n : Int) := by omega
      have hgl : w.heap.size + 1 < wr.heap.size := HP.out.lt
      have hgl0 : w.heap.size < wr.heap.size := HB.out.lt
      have hgn : ¬ w.heap.size = wr.heap.size := by omega
      have hgn0 : ¬ w.heap.size + 1 = wr.heap.size := by omega
      obtain ⟨x, y, q, hq⟩ : ∃ x y q, stepS g a b s nn ini = (x, y, q) := ⟨_, _, _, rfl⟩
      have HQ := hide hq
      have HX : Hid (Am x) := hide (step_am ha.out hb.out hq).1
      have HY : Hid (Am y) := hide (step_am ha.out hb.out hq).2
      have HN : Hid (q = false → x = 0 ∧ y = 0) := hide fun hh => step_no hh hq
      clear hq
      go_wp2_with fail
      refine (step7 g a b s nn ini x y q _ ha hb HQ).mono ?_
      rintro e w1 ⟨rfl, hb1⟩
      have B1 := (HB.out.alloc (.cells #[.bool g, .int .i64 s, .int .i64 nn, .int .i64 ini] 30)).kept hb1
      have P1 := (HP.out.alloc (.cells #[.bool g, .int .i64 s, .int .i64 nn, .int .i64 ini] 30)).kept hb1
      have S1 := (Blk.born wr 30 #[.bool g, .int .i64 s, .int .i64 nn, .int .i64 ini]).kept hb1
      have HW1 : Hid (Below w.heap.size w w1) := hide (below_nextB (HW.out.alloc HW.out.size _) (by simp; have := HW.out.size; omega) hb1)
      clear hb1 c0 d0 d1 s0 s1 s2 s3
      have d0 : w1.cell? ⟨w.heap.size + 1, 0, none⟩ = some (.int .i64 a) := P1.cell 0
      have d1 : w1.cell? ⟨w.heap.size + 1, 1, none⟩ = some (.int .i64 b) := P1.cell 1
      have s0 : w1.cell? ⟨wr.heap.size, 0, none⟩ = some (.bool g) := S1.cell 0
      have s1 : w1.cell? ⟨wr.heap.size, 1, none⟩ = some (.int .i64 s) := S1.cell 1
      have s2 : w1.cell? ⟨wr.heap.size, 2, none⟩ = some (.int .i64 nn) := S1.cell 2
      have s3 : w1.cell? ⟨wr.heap.size, 3, none⟩ = some (.int .i64 ini) := S1.cell 3
      have hgl1 : wr.heap.size < w1.heap.size := S1.lt
      have hgn1 : ¬ wr.heap.size = w1.heap.size := by omega
      have hgn2 : ¬ w.heap.size + 1 = w1.heap.size := by omega
      have hgl2 : w.heap.size + 1 < w1.heap.size := by omega
      go_wp2_with fail
      refine (want8 g a b s nn ini x y q _ ha hb HQ).mono ?_
      rintro e w2 ⟨rfl, hb2⟩
      have B2 := (B1.alloc (.cells #[(.complex .f64 (fw x) (fw y))] 26)).kept hb2
      have P2 := (P1.alloc (.cells #[(.complex .f64 (fw x) (fw y))] 26)).kept hb2
      have S2 := (S1.alloc (.cells #[(.complex .f64 (fw x) (fw y))] 26)).kept hb2
      have V2 := (Blk.born w1 26 #[(.complex .f64 (fw x) (fw y))]).kept hb2
      have HW2 : Hid (Below w.heap.size w w2) := hide (below_nextB (HW1.out.alloc HW1.out.size _) (by simp; have := HW1.out.size; omega) hb2)
      clear hb2 d0 d1 s0 s1 s2 s3
      have HV : Hid (∀ wq, Below (w2.alloc (.cells #[.int .i64 x, .int .i64 y] 28)).heap.size (w2.alloc (.cells #[.int .i64 x, .int .i64 y] 28)) wq → wq.cell? ⟨w1.heap.size, 0, none⟩ = some (.complex .f64 (fw x) (fw y))) := hide fun wq hq => ((V2.alloc _).kept hq).cell 0
      cases q
      · have hgl3 : w1.heap.size < w2.heap.size := V2.lt
        obtain ⟨rfl, rfl⟩ := HN.out rfl
        go_wp2_with fail
        refine wp_region_below (by kernel_rfl) (by kernel_rfl) ?_
        iterate 15
          first
            | (refine skipB (by rfl) ?_
               simp only [Act.put, List.setIfInBounds_toArray, List.set_cons_zero, List.set_cons_succ])
            | (refine stepB (by rfl) ?_
               apply Exists.intro
               refine ⟨fun wq hq => ?_, ?_⟩
               · have c0 := HV.out wq hq
                 go_simp
                 first
                   | done
                   | rfl
                   | (go_at_call 9; ((with_reducible refine (room9_q 0 0 0 0 0 _ H0 H0 (hide (by decide))).mono ?_); exact fun e w'' ⟨he, hb⟩ => ⟨he, by have := below_next hq hb; simpa using this⟩))
                   | (go_at_call 9; ((with_reducible refine (room9_q 0 0 1 0 0 _ H0 H0 (hide (by decide))).mono ?_); exact fun e w'' ⟨he, hb⟩ => ⟨he, by have := below_next hq hb; simpa using this⟩))
               simp only [Act.put, List.setIfInBounds_toArray, List.set_cons_zero, List.set_cons_succ])
        refine wpQuiet_nil ?_
        intro wz hz
        have B3 := (B2.alloc (.cells #[.int .i64 0, .int .i64 0] 28)).kept hz
        have P3 := (P2.alloc (.cells #[.int .i64 0, .int .i64 0] 28)).kept hz
        have S3 := (S2.alloc (.cells #[.int .i64 0, .int .i64 0] 28)).kept hz
        have V3 := (V2.alloc (.cells #[.int .i64 0, .int .i64 0] 28)).kept hz
        have Q3 := (Blk.born w2 28 #[.int .i64 0, .int .i64 0]).kept hz
        have HW3 : Hid (Below w.heap.size w wz) := hide (below_nextB (HW2.out.alloc HW2.out.size _) (by simp; have := HW2.out.size; omega) hz)
        clear hz HV
        have B4 := hide B3
        have P4 := hide P3
        have S4 := hide S3
        have HW4 := HW3
        clear B3 P3 S3 V3 Q3 HW3
        go_wp2_with fail
        have HC : Hid (∀ wq, Below wz.heap.size wz wq → wq.cell? ⟨w.heap.size, 0, none⟩ = some (.complex .f64 (fw a) (fw b)) ∧ wq.cell? ⟨w.heap.size + 1, 0, none⟩ = some (.int .i64 a) ∧ wq.cell? ⟨w.heap.size + 1, 1, none⟩ = some (.int .i64 b) ∧ wq.cell? ⟨wr.heap.size, 1, none⟩ = some (.int .i64 s) ∧ wq.cell? ⟨wr.heap.size, 3, none⟩ = some (.int .i64 ini)) := hide fun wq hq => ⟨(B4.out.kept hq).cell 0, (P4.out.kept hq).cell 0, (P4.out.kept hq).cell 1, (S4.out.kept hq).cell 1, (S4.out.kept hq).cell 3⟩
        obtain ⟨r0, hr0⟩ : ∃ r, roomS a b 0 ini = r := ⟨_, rfl⟩
        obtain ⟨r1, hr1⟩ : ∃ r, roomS a b 1 ini = r := ⟨_, rfl⟩
        obtain ⟨r2, hr2⟩ : ∃ r, roomS a b s 7 = r := ⟨_, rfl⟩
        have HR0 := hide hr0
        have HR1 := hide hr1
        have HR2 := hide hr2
        clear hr0 hr1 hr2
        refine wp_region_below (by kernel_rfl) (by kernel_rfl) ?_
        iterate 31
          first
            | (refine skipB (by rfl) ?_
               simp only [Act.put, List.setIfInBounds_toArray, List.set_cons_zero, List.set_cons_succ])
            | (refine stepB (by rfl) ?_
               apply Exists.intro
               refine ⟨fun wq hq => ?_, ?_⟩
               · obtain ⟨c0, c1, c2, c3, c4⟩ := HC.out wq hq
                 go_simp
                 first
                   | done
                   | rfl
                   | (go_at_call 9; ((with_reducible refine (room9_q a b 0 ini r0 _ ha hb HR0).mono ?_); exact fun e w'' ⟨he, hb⟩ => ⟨he, by have := below_next hq hb; simpa using this⟩))
                   | (go_at_call 9; ((with_reducible refine (room9_q a b 1 ini r1 _ ha hb HR1).mono ?_); exact fun e w'' ⟨he, hb⟩ => ⟨he, by have := below_next hq hb; simpa using this⟩))
                   | (go_at_call 9; ((with_reducible refine (room9_q a b s 7 r2 _ ha hb HR2).mono ?_); exact fun e w'' ⟨he, hb⟩ => ⟨he, by have := below_next hq hb; simpa using this⟩))
                   | (go_at_call 10; ((with_reducible refine (room10_q a b 0 ini r0 _ ha hb HR0).mono ?_); exact fun e w'' ⟨he, hb⟩ => ⟨he, by have := below_next hq hb; simpa using this⟩))
                   | (go_at_call 10; ((with_reducible refine (room10_q a b 1 ini r1 _ ha hb HR1).mono ?_); exact fun e w'' ⟨he, hb⟩ => ⟨he, by have := below_next hq hb; simpa using this⟩))
                   | (go_at_call 10; ((with_reducible refine (room10_q a b s 7 r2 _ ha hb HR2).mono ?_); exact fun e w'' ⟨he, hb⟩ => ⟨he, by have := below_next hq hb; simpa using this⟩))
               simp only [Act.put, List.setIfInBounds_toArray, List.set_cons_zero, List.set_cons_succ])
        refine wpQuiet_nil ?_
        intro wy hy
        have B5 : Hid (Blk wy w.heap.size 26 #[(.complex .f64 (fw a) (fw b))]) := hide (B4.out.kept hy)
        have P5 : Hid (Blk wy (w.heap.size + 1) 28 #[.int .i64 a, .int .i64 b]) := hide (P4.out.kept hy)
        have HW5 : Hid (Below w.heap.size w wy) := hide (below_nextB HW4.out HW4.out.size hy)
        clear hy HC B4 P4 S4 HW4
        go_wp2_with fail
        go_roundw
        case rel => exact ⟨k + 1, a, b, by go_num, by omega, ha, hb, B5, P5, HW5⟩
        case measure => simp [intOf]; omega
      · have hgl3 : w1.heap.size < w2.heap.size := V2.lt
        clear HN
        go_wp2_with fail
        refine wp_region_below (by kernel_rfl) (by kernel_rfl) ?_
        iterate 15
          first
            | (refine skipB (by rfl) ?_
               simp only [Act.put, List.setIfInBounds_toArray, List.set_cons_zero, List.set_cons_succ])
            | (refine stepB (by rfl) ?_
               apply Exists.intro
               refine ⟨fun wq hq => ?_, ?_⟩
               · have c0 := HV.out wq hq
                 go_simp
                 first
                   | done
                   | rfl
               simp only [Act.put, List.setIfInBounds_toArray, List.set_cons_zero, List.set_cons_succ])
        refine wpQuiet_nil ?_
        intro wz hz
        have B3 := (B2.alloc (.cells #[.int .i64 x, .int .i64 y] 28)).kept hz
        have P3 := (P2.alloc (.cells #[.int .i64 x, .int .i64 y] 28)).kept hz
        have S3 := (S2.alloc (.cells #[.int .i64 x, .int .i64 y] 28)).kept hz
        have V3 := (V2.alloc (.cells #[.int .i64 x, .int .i64 y] 28)).kept hz
        have Q3 := (Blk.born w2 28 #[.int .i64 x, .int .i64 y]).kept hz
        have HW3 : Hid (Below w.heap.size w wz) := hide (below_nextB (HW2.out.alloc HW2.out.size _) (by simp; have := HW2.out.size; omega) hz)
        clear hz HV
        have c0 : wz.cell? ⟨w.heap.size, 0, none⟩ = some (.complex .f64 (fw a) (fw b)) := B3.cell 0
        have f0 : wz.frozen? ⟨w.heap.size, 0, none⟩ = false := B3.free 0
        have d0 : wz.cell? ⟨w.heap.size + 1, 0, none⟩ = some (.int .i64 a) := P3.cell 0
        have d1 : wz.cell? ⟨w.heap.size + 1, 1, none⟩ = some (.int .i64 b) := P3.cell 1
        have f1 : wz.frozen? ⟨w.heap.size + 1, 0, none⟩ = false := P3.free 0
        have f2 : wz.frozen? ⟨w.heap.size + 1, 1, none⟩ = false := P3.free 1
        have v0 : wz.cell? ⟨w1.heap.size, 0, none⟩ = some (.complex .f64 (fw x) (fw y)) := V3.cell 0
        have q0 : wz.cell? ⟨w2.heap.size, 0, none⟩ = some (.int .i64 x) := Q3.cell 0
        have q1 : wz.cell? ⟨w2.heap.size, 1, none⟩ = some (.int .i64 y) := Q3.cell 1
        have hn3 : ¬ w.heap.size = w2.heap.size := by omega
        have hn4 : ¬ w.heap.size = w1.heap.size := by omega
        have hn5 : ¬ w.heap.size + 1 = w2.heap.size := by omega
        have hne : w.heap.size ≠ w.heap.size + 1 := by omega
        have hns : wr.heap.size ≠ w.heap.size := by omega
        have hns1 : wr.heap.size ≠ w.heap.size + 1 := by omega
        have B4 : Hid (Blk (((wz.setCell ⟨w.heap.size, 0, none⟩ (.complex .f64 (fw x) (fw y))).setCell ⟨w.heap.size + 1, 0, none⟩ (.int .i64 x)).setCell ⟨w.heap.size + 1, 1, none⟩ (.int .i64 y)) w.heap.size 26 #[(.complex .f64 (fw x) (fw y))]) := hide (((B3.store 0 (.complex .f64 (fw x) (fw y))).aside (p := ⟨w.heap.size + 1, 0, none⟩) hne _).aside (p := ⟨w.heap.size + 1, 1, none⟩) hne _)
        have P4 : Hid (Blk (((wz.setCell ⟨w.heap.size, 0, none⟩ (.complex .f64 (fw x) (fw y))).setCell ⟨w.heap.size + 1, 0, none⟩ (.int .i64 x)).setCell ⟨w.heap.size + 1, 1, none⟩ (.int .i64 y)) (w.heap.size + 1) 28 #[.int .i64 x, .int .i64 y]) := hide (((P3.aside (p := ⟨w.heap.size, 0, none⟩) hne.symm _).store 0 (.int .i64 x)).store 1 (.int .i64 y))
        have S4 : Hid (Blk (((wz.setCell ⟨w.heap.size, 0, none⟩ (.complex .f64 (fw x) (fw y))).setCell ⟨w.heap.size + 1, 0, none⟩ (.int .i64 x)).setCell ⟨w.heap.size + 1, 1, none⟩ (.int .i64 y)) wr.heap.size 30 #[.bool g, .int .i64 s, .int .i64 nn, .int .i64 ini]) := hide (((S3.aside (p := ⟨w.heap.size, 0, none⟩) hns _).aside (p := ⟨w.heap.size + 1, 0, none⟩) hns1 _).aside (p := ⟨w.heap.size + 1, 1, none⟩) hns1 _)
        have HW4 : Hid (Below w.heap.size w (((wz.setCell ⟨w.heap.size, 0, none⟩ (.complex .f64 (fw x) (fw y))).setCell ⟨w.heap.size + 1, 0, none⟩ (.int .i64 x)).setCell ⟨w.heap.size + 1, 1, none⟩ (.int .i64 y))) := hide (((HW3.out.setCell (Nat.le_refl _) _).setCell (by simp) _).setCell (by simp) _)
        clear hne hns hns1 B3 P3 S3 V3 Q3 HW3
        go_wp2_with fail
        clear c0 f0 d0 d1 f1 f2 v0 q0 q1
        have HC : Hid (∀ wq, Below (((wz.setCell ⟨w.heap.size, 0, none⟩ (.complex .f64 (fw x) (fw y))).setCell ⟨w.heap.size + 1, 0, none⟩ (.int .i64 x)).setCell ⟨w.heap.size + 1, 1, none⟩ (.int .i64 y)).heap.size (((wz.setCell ⟨w.heap.size, 0, none⟩ (.complex .f64 (fw x) (fw y))).setCell ⟨w.heap.size + 1, 0, none⟩ (.int .i64 x)).setCell ⟨w.heap.size + 1, 1, none⟩ (.int .i64 y)) wq → wq.cell? ⟨w.heap.size, 0, none⟩ = some (.complex .f64 (fw x) (fw y)) ∧ wq.cell? ⟨w.heap.size + 1, 0, none⟩ = some (.int .i64 x) ∧ wq.cell? ⟨w.heap.size + 1, 1, none⟩ = some (.int .i64 y) ∧ wq.cell? ⟨wr.heap.size, 1, none⟩ = some (.int .i64 s) ∧ wq.cell? ⟨wr.heap.size, 3, none⟩ = some (.int .i64 ini)) := hide fun wq hq => ⟨(B4.out.kept hq).cell 0, (P4.out.kept hq).cell 0, (P4.out.kept hq).cell 1, (S4.out.kept hq).cell 1, (S4.out.kept hq).cell 3⟩
        obtain ⟨r0, hr0⟩ : ∃ r, roomS x y 0 ini = r := ⟨_, rfl⟩
        obtain ⟨r1, hr1⟩ : ∃ r, roomS x y 1 ini = r := ⟨_, rfl⟩
        obtain ⟨r2, hr2⟩ : ∃ r, roomS x y s 7 = r := ⟨_, rfl⟩
        have HR0 := hide hr0
        have HR1 := hide hr1
        have HR2 := hide hr2
        clear hr0 hr1 hr2
        refine wp_region_below (by kernel_rfl) (by kernel_rfl) ?_
        iterate 31
          first
            | (refine skipB (by rfl) ?_
               simp only [Act.put, List.setIfInBounds_toArray, List.set_cons_zero, List.set_cons_succ])
            | (refine stepB (by rfl) ?_
               apply Exists.intro
               refine ⟨fun wq hq => ?_, ?_⟩
               · obtain ⟨c0, c1, c2, c3, c4⟩ := HC.out wq hq
                 go_simp
                 first
                   | done
                   | rfl
                   | (go_at_call 9; ((with_reducible refine (room9_q x y 0 ini r0 _ HX HY HR0).mono ?_); exact fun e w'' ⟨he, hb⟩ => ⟨he, by have := below_next hq hb; simpa using this⟩))
                   | (go_at_call 9; ((with_reducible refine (room9_q x y 1 ini r1 _ HX HY HR1).mono ?_); exact fun e w'' ⟨he, hb⟩ => ⟨he, by have := below_next hq hb; simpa using this⟩))
                   | (go_at_call 9; ((with_reducible refine (room9_q x y s 7 r2 _ HX HY HR2).mono ?_); exact fun e w'' ⟨he, hb⟩ => ⟨he, by have := below_next hq hb; simpa using this⟩))
                   | (go_at_call 10; ((with_reducible refine (room10_q x y 0 ini r0 _ HX HY HR0).mono ?_); exact fun e w'' ⟨he, hb⟩ => ⟨he, by have := below_next hq hb; simpa using this⟩))
                   | (go_at_call 10; ((with_reducible refine (room10_q x y 1 ini r1 _ HX HY HR1).mono ?_); exact fun e w'' ⟨he, hb⟩ => ⟨he, by have := below_next hq hb; simpa using this⟩))
                   | (go_at_call 10; ((with_reducible refine (room10_q x y s 7 r2 _ HX HY HR2).mono ?_); exact fun e w'' ⟨he, hb⟩ => ⟨he, by have := below_next hq hb; simpa using this⟩))
               simp only [Act.put, List.setIfInBounds_toArray, List.set_cons_zero, List.set_cons_succ])
        refine wpQuiet_nil ?_
        intro wy hy
        have B5 : Hid (Blk wy w.heap.size 26 #[(.complex .f64 (fw x) (fw y))]) := hide (B4.out.kept hy)
        have P5 : Hid (Blk wy (w.heap.size + 1) 28 #[.int .i64 x, .int .i64 y]) := hide (P4.out.kept hy)
        have HW5 : Hid (Below w.heap.size w wy) := hide (below_nextB HW4.out HW4.out.size hy)
        clear hy HC B4 P4 S4 HW4
        go_wp2_with fail
        go_roundw
        case rel => exact ⟨k + 1, x, y, by go_num, by omega, HX, HY, B5, P5, HW5⟩
        case measure => simp [intOf]; omega
    · go_wp2_with fail
      refine (alive_any _).mono ?_
      rintro e w2 ⟨rfl, hb2⟩
      have HF := hide (below_nextB HW.out HW.out.size hb2)
      clear hb2
      go_wp2_with fail
      go_ret
      exact ⟨rfl, HF.out⟩
end Go.Proofs.Ytphbmbenkbefhaa
