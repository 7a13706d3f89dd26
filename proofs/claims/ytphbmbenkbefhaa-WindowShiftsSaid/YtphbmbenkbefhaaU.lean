/- WindowShifts' walk. -/
import Derived.Test.YtphbmbenkbefhaaT
namespace Go.Proofs.Ytphbmbenkbefhaa
open Go.RowKit

set_option maxRecDepth 100000 in
theorem shifts_far (A : Option Addr) (n c : Nat) (u v : Int) (w : World) (h : 60 < n) (_hn : n ≤ maxLen) : Calls Try.prog 4 #[.slice A n c, .int .u32 u, .int .u32 v] w fun e w' => e = .returned (.bool true) ∧ Below w.heap.size w w' := by
  go_enter Try.func4, Try.ntmps4
  go_wp2_with fail
  refine (alive_any _).mono ?_
  rintro e w1 ⟨rfl, hb⟩
  go_wp2_with fail
  go_ret
  exact ⟨rfl, hb⟩

theorem may_some (s i : Int) (hs : s = 0 ∨ s = 1) (h1 : 0 ≤ i) (h2 : i ≤ 2147483647) : mayS s i := ⟨hs, h1, h2⟩

set_option maxRecDepth 100000 in
set_option maxHeartbeats 2000000 in
theorem shifts_near (A : Option Addr) (n c : Nat) (u v : Int) (l : List (Bool × Int × Int × Int)) (w : World) (h : n ≤ 60) (hu : 0 ≤ u ∧ u ≤ 4294967295) (hv : 0 ≤ v ∧ v ≤ 4294967295) (HL : Hid (l.length = n)) (HS : Hid (Steps w A l)) : Calls Try.prog 4 #[.slice A n c, .int .u32 u, .int .u32 v] w fun e w' => e = .returned (.bool true) ∧ Below w.heap.size w w' := by
  have H0 : Hid (Am 0) := hide am0
  have HB0 : Hid (Blk (w.alloc (.cells #[.complex .f64 0 0] 26)) w.heap.size 26 #[(.complex .f64 (fw 0) (fw 0))]) := hide (by rw [fw_zero]; exact Blk.born _ _ _)
  have HW0 : Hid (Below w.heap.size w (w.alloc (.cells #[.complex .f64 0 0] 26))) := hide ((Below.refl _ _).alloc (Nat.le_refl _) _)
  have hst := st_cx
  obtain ⟨hu1, hu2⟩ := hu
  obtain ⟨hv1, hv2⟩ := hv
  have hx1 : 0 ≤ (u % 2147483648) ∧ (u % 2147483648) ≤ 2147483647 := by omega
  have hy1 : 0 ≤ (v % 2147483648) ∧ (v % 2147483648) ≤ 2147483647 := by omega
  obtain ⟨hx1, hx2⟩ := hx1
  obtain ⟨hy1, hy2⟩ := hy1
  go_enter Try.func4, Try.ntmps4
  go_wp2_with fail
  go_loopw [26] (fun ii wr => ∃ (k : Nat) (a b : Int), ii = .int .i64 k ∧ k ≤ n ∧ Hid (Am a) ∧ Hid (Am b) ∧ Hid (Blk wr w.heap.size 26 #[(.complex .f64 (fw a) (fw b))]) ∧ Hid (Below w.heap.size w wr)) (fun ii _ => n - (intOf ii).toNat)
  case atStart => exact ⟨0, 0, 0, rfl, Nat.zero_le _, H0, H0, HB0, HW0⟩
  case round =>
    obtain ⟨k, a, b, rfl, hk, ha, hb, HB, HW⟩ := hrel
    clear HB0 HW0
    by_cases hlt : k < n
    · have hkl : k < l.length := by have := HL.out; omega
      obtain ⟨g, s, nn, ini, hst0⟩ : ∃ g s nn ini, l[k] = (g, s, nn, ini) := ⟨_, _, _, _, rfl⟩
      obtain ⟨bb, oo, rfl, t0, t1, t2, t3⟩ := HS.out k g s nn ini (by rw [List.getElem?_eq_getElem hkl, hst0])
      have hbb : bb < w.heap.size := World.block_lt_of_cell? w _ t0
      have s0 := (HW.out.cell (p := ⟨bb, oo + k * 4, none⟩) hbb).trans t0
      have s1 := (HW.out.cell (p := ⟨bb, oo + k * 4 + 1, none⟩) hbb).trans t1
      have s2 := (HW.out.cell (p := ⟨bb, oo + k * 4 + 2, none⟩) hbb).trans t2
      have s3 := (HW.out.cell (p := ⟨bb, oo + k * 4 + 3, none⟩) hbb).trans t3
      clear t0 t1 t2 t3 hst0 hkl
      have hki : (k : Int) < (n : Int) := by omega
      have c0 : wr.cell? ⟨w.heap.size, 0, none⟩ = some (.complex .f64 (fw a) (fw b)) := HB.out.cell 0
      have hgl0 : w.heap.size < wr.heap.size := HB.out.lt
      have hgn : ¬ w.heap.size = wr.heap.size := by omega
      obtain ⟨x, y, q, hq⟩ : ∃ x y q, stepS g a b s nn ini = (x, y, q) := ⟨_, _, _, rfl⟩
      have HQ := hide hq
      have HX : Hid (Am x) := hide (step_am ha.out hb.out hq).1
      have HY : Hid (Am y) := hide (step_am ha.out hb.out hq).2
      clear hq
      go_wp2_with fail
      refine (step7 g a b s nn ini x y q _ ha hb HQ).mono ?_
      rintro e w1 ⟨rfl, hb1⟩
      have B1 := (HB.out.alloc (.cells #[.bool g, .int .i64 s, .int .i64 nn, .int .i64 ini] 30)).kept hb1
      have S1 := (Blk.born wr 30 #[.bool g, .int .i64 s, .int .i64 nn, .int .i64 ini]).kept hb1
      have HW1 : Hid (Below w.heap.size w w1) := hide (below_nextB (HW.out.alloc HW.out.size _) (by simp; have := HW.out.size; omega) hb1)
      clear hb1 c0 s0 s1 s2 s3
      have hgl1 : wr.heap.size < w1.heap.size := S1.lt
      have hgn1 : ¬ wr.heap.size = w1.heap.size := by omega
      have hgn3 : ¬ w.heap.size = w1.heap.size := by omega
      have hgl3 : w.heap.size < w1.heap.size := by omega
      cases q
      · go_wp2_with fail
        go_roundw
        case rel => exact ⟨k + 1, a, b, by go_num, by omega, ha, hb, hide (B1.alloc _), hide (HW1.out.alloc HW1.out.size _)⟩
        case measure => simp [intOf]; omega
      · have c0 : w1.cell? ⟨w.heap.size, 0, none⟩ = some (.complex .f64 (fw a) (fw b)) := B1.cell 0
        have f0 : w1.frozen? ⟨w.heap.size, 0, none⟩ = false := B1.free 0
        have s0 : w1.cell? ⟨wr.heap.size, 0, none⟩ = some (.bool g) := S1.cell 0
        have s1 : w1.cell? ⟨wr.heap.size, 1, none⟩ = some (.int .i64 s) := S1.cell 1
        have s2 : w1.cell? ⟨wr.heap.size, 2, none⟩ = some (.int .i64 nn) := S1.cell 2
        have s3 : w1.cell? ⟨wr.heap.size, 3, none⟩ = some (.int .i64 ini) := S1.cell 3
        obtain ⟨r, hr⟩ : ∃ r, roomS x y s ini = r := ⟨_, rfl⟩
        have HR := hide hr
        cases g
        · by_cases hn0 : 0 < nn
          · have hr0 : 0 ≤ r := by rw [← hr]; exact take_room hn0 HQ.out
            clear hr
            go_wp2_with fail
            refine (room9_q x y s ini r _ HX HY HR).mono ?_
            rintro e w2 ⟨rfl, hb2⟩
            have B2 := (B1.alloc (.cells #[(.complex .f64 (fw x) (fw y))] 26)).kept hb2
            have S2 := (S1.alloc (.cells #[(.complex .f64 (fw x) (fw y))] 26)).kept hb2
            have V2 := (Blk.born w1 26 #[(.complex .f64 (fw x) (fw y))]).kept hb2
            have HW2 : Hid (Below w.heap.size w w2) := hide (below_nextB (HW1.out.alloc HW1.out.size _) (by simp; have := HW1.out.size; omega) hb2)
            clear hb2 c0 f0 s0 s1 s2 s3 B1 S1 HW1
            have c0 : w2.cell? ⟨w.heap.size, 0, none⟩ = some (.complex .f64 (fw a) (fw b)) := B2.cell 0
            have f0 : w2.frozen? ⟨w.heap.size, 0, none⟩ = false := B2.free 0
            have v0 : w2.cell? ⟨w1.heap.size, 0, none⟩ = some (.complex .f64 (fw x) (fw y)) := V2.cell 0
            have s0 : w2.cell? ⟨wr.heap.size, 0, none⟩ = some (.bool false) := S2.cell 0
            go_wp2_with fail
            go_roundw
            case rel => exact ⟨k + 1, x, y, by go_num, by omega, HX, HY, hide (B2.store 0 (.complex .f64 (fw x) (fw y))), hide (HW2.out.setCell (Nat.le_refl _) _)⟩
            case measure => simp [intOf]; omega
          · clear hr
            go_wp2_with fail
            go_roundw
            case rel => exact ⟨k + 1, x, y, by go_num, by omega, HX, HY, hide ((B1.store 0 (.complex .f64 (fw x) (fw y))).alloc (.cells #[(.complex .f64 (fw x) (fw y))] 26)), hide ((HW1.out.setCell (Nat.le_refl _) _).alloc (by simpa using HW1.out.size) _)⟩
            case measure => simp [intOf]; omega
        · have hr0 : r ≤ 2147483647 := by rw [← hr]; exact give_room HQ.out
          clear hr
          go_wp2_with fail
          refine (room9_q x y s ini r _ HX HY HR).mono ?_
          rintro e w2 ⟨rfl, hb2⟩
          have B2 := (B1.alloc (.cells #[(.complex .f64 (fw x) (fw y))] 26)).kept hb2
          have S2 := (S1.alloc (.cells #[(.complex .f64 (fw x) (fw y))] 26)).kept hb2
          have V2 := (Blk.born w1 26 #[(.complex .f64 (fw x) (fw y))]).kept hb2
          have HW2 : Hid (Below w.heap.size w w2) := hide (below_nextB (HW1.out.alloc HW1.out.size _) (by simp; have := HW1.out.size; omega) hb2)
          clear hb2 c0 f0 s0 s1 s2 s3 B1 S1 HW1
          have c0 : w2.cell? ⟨w.heap.size, 0, none⟩ = some (.complex .f64 (fw a) (fw b)) := B2.cell 0
          have f0 : w2.frozen? ⟨w.heap.size, 0, none⟩ = false := B2.free 0
          have v0 : w2.cell? ⟨w1.heap.size, 0, none⟩ = some (.complex .f64 (fw x) (fw y)) := V2.cell 0
          have s0 : w2.cell? ⟨wr.heap.size, 0, none⟩ = some (.bool true) := S2.cell 0
          go_wp2_with fail
          go_roundw
          case rel => exact ⟨k + 1, x, y, by go_num, by omega, HX, HY, hide (B2.store 0 (.complex .f64 (fw x) (fw y))), hide (HW2.out.setCell (Nat.le_refl _) _)⟩
          case measure => simp [intOf]; omega
    · have HC : Hid (∀ wq, Below wr.heap.size wr wq → wq.cell? ⟨w.heap.size, 0, none⟩ = some (.complex .f64 (fw a) (fw b))) := hide fun wq hq => (HB.out.kept hq).cell 0
      have HR0 : Hid (roomS a b 0 (u % 2147483648) = (u % 2147483648) + a) := hide (by rw [roomS_yes (may_some 0 (u % 2147483648) (.inl rfl) hx1 hx2)]; simp)
      have HR1 : Hid (roomS a b 0 (v % 2147483648) = (v % 2147483648) + a) := hide (by rw [roomS_yes (may_some 0 (v % 2147483648) (.inl rfl) hy1 hy2)]; simp)
      have HR2 : Hid (roomS a b 1 (u % 2147483648) = (u % 2147483648) + b) := hide (by rw [roomS_yes (may_some 1 (u % 2147483648) (.inr rfl) hx1 hx2)]; simp)
      have HR3 : Hid (roomS a b 1 (v % 2147483648) = (v % 2147483648) + b) := hide (by rw [roomS_yes (may_some 1 (v % 2147483648) (.inr rfl) hy1 hy2)]; simp)
      have w0 : IntKind.i64.wrap ((u % 2147483648) - (v % 2147483648)) = (u % 2147483648) - (v % 2147483648) := IntWalk.i64_in _ (by omega)
      have w1 : IntKind.i64.wrap ((u % 2147483648) + a - ((v % 2147483648) + a)) = (u % 2147483648) - (v % 2147483648) := by rw [show (u % 2147483648) + a - ((v % 2147483648) + a) = (u % 2147483648) - (v % 2147483648) from by omega]; exact w0
      have w2 : IntKind.i64.wrap ((u % 2147483648) + b - ((v % 2147483648) + b)) = (u % 2147483648) - (v % 2147483648) := by rw [show (u % 2147483648) + b - ((v % 2147483648) + b) = (u % 2147483648) - (v % 2147483648) from by omega]; exact w0
      go_wp2_with fail
      refine wp_region_below (by kernel_rfl) (by kernel_rfl) ?_
      iterate 28
        first
          | (refine skipB (by rfl) ?_
             simp only [Act.put, List.setIfInBounds_toArray, List.set_cons_zero, List.set_cons_succ])
          | (refine stepB (by rfl) ?_
             apply Exists.intro
             refine ⟨fun wq hq => ?_, ?_⟩
             · have c0 := HC.out wq hq
               go_simp
               first
                 | done
                 | rfl
                 | (go_at_call 9; ((with_reducible refine (room9_q a b 0 (u % 2147483648) ((u % 2147483648) + a) _ ha hb HR0).mono ?_); exact fun e w'' ⟨he, hb⟩ => ⟨he, by have := below_next hq hb; simpa using this⟩))
                 | (go_at_call 9; ((with_reducible refine (room9_q a b 0 (v % 2147483648) ((v % 2147483648) + a) _ ha hb HR1).mono ?_); exact fun e w'' ⟨he, hb⟩ => ⟨he, by have := below_next hq hb; simpa using this⟩))
                 | (go_at_call 9; ((with_reducible refine (room9_q a b 1 (u % 2147483648) ((u % 2147483648) + b) _ ha hb HR2).mono ?_); exact fun e w'' ⟨he, hb⟩ => ⟨he, by have := below_next hq hb; simpa using this⟩))
                 | (go_at_call 9; ((with_reducible refine (room9_q a b 1 (v % 2147483648) ((v % 2147483648) + b) _ ha hb HR3).mono ?_); exact fun e w'' ⟨he, hb⟩ => ⟨he, by have := below_next hq hb; simpa using this⟩))
                 | (go_at_call 6; ((with_reducible refine (alive_any _).mono ?_); exact fun e w'' ⟨he, hb⟩ => ⟨he, by have := below_next hq hb; simpa using this⟩))
             simp only [Act.put, List.setIfInBounds_toArray, List.set_cons_zero, List.set_cons_succ])
      refine wpQuiet_nil ?_
      intro wz hz
      go_wp2_with fail
      go_ret
      exact ⟨rfl, below_nextB HW.out HW.out.size hz⟩

theorem shifts_any (A : Option Addr) (n c : Nat) (u v : Int) (l : List (Bool × Int × Int × Int)) (w : World) (hu : 0 ≤ u ∧ u ≤ 4294967295) (hv : 0 ≤ v ∧ v ≤ 4294967295) (hl : l.length = n) (hm : n ≤ maxLen) (hs : Steps w A l) : Calls Try.prog 4 #[.slice A n c, .int .u32 u, .int .u32 v] w fun e w' => e = .returned (.bool true) ∧ Below w.heap.size w w' := by
  by_cases h : 60 < n
  · exact shifts_far A n c u v w h hm
  · exact shifts_near A n c u v l w (by omega) hu hv (hide hl) (hide hs)
end Go.Proofs.Ytphbmbenkbefhaa
