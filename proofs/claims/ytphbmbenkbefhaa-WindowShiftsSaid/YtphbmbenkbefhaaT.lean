/- The walks of WindowApart and WindowShifts. -/
import Derived.Test.YtphbmbenkbefhaaV
namespace Go.Proofs.Ytphbmbenkbefhaa
open Go.RowKit

/-! ### Plain laws -/
theorem room_side0 (a b c ini : Int) : roomS a b 0 ini = roomS a c 0 ini := by unfold roomS; simp
theorem move_apart {a b n x y : Int} {q : Bool} (h : moveS a b 0 n = (x, y, q)) : moveS a 0 0 n = (x, 0, q) ∧ (q = true → y = b) := by
  unfold moveS at h ⊢
  rw [if_pos rfl] at h ⊢
  split at h
  · rename_i hh
    rw [if_pos hh]
    simp at h
    exact ⟨by simp [h], fun _ => h.2.1.symm⟩
  · rename_i hh
    rw [if_neg hh]
    simp at h
    exact ⟨by simp [h], fun hq => by simp [hq] at h⟩
theorem step_apart {g : Bool} {a b n ini x y : Int} {q : Bool} (h : stepS g a b 0 n ini = (x, y, q)) : stepS g a 0 0 n ini = (x, 0, q) ∧ (q = true → y = b) := by
  cases g
  · change takeS a b 0 n ini = _ at h
    change takeS a 0 0 n ini = _ ∧ _
    unfold takeS at h ⊢
    rw [room_side0 a 0 b]
    split at h
    · rename_i hh
      rw [if_pos hh]
      simp at h
      exact ⟨by simp [h], fun hq => by simp [hq] at h⟩
    · rename_i hh
      rw [if_neg hh]
      exact move_apart h
  · change giveS a b 0 n ini = _ at h
    change giveS a 0 0 n ini = _ ∧ _
    unfold giveS at h ⊢
    rw [room_side0 a 0 b]
    split at h
    · rename_i hh
      rw [if_pos hh]
      simp at h
      exact ⟨by simp [h], fun hq => by simp [hq] at h⟩
    · rename_i hh
      rw [if_neg hh]
      exact move_apart h
theorem move_other {a b s n x y : Int} (hs : ¬ s = 0) (h : moveS a b s n = (x, y, true)) : x = a := by
  unfold moveS at h
  rw [if_neg hs] at h
  split at h <;> simp at h
  exact h.1.symm
theorem step_other {g : Bool} {a b s n ini x y : Int} (hs : ¬ s = 0) (h : stepS g a b s n ini = (x, y, true)) : x = a := by
  cases g
  · change takeS a b s n ini = _ at h
    unfold takeS at h
    split at h
    · simp at h
    · exact move_other hs h
  · change giveS a b s n ini = _ at h
    unfold giveS at h
    split at h
    · simp at h
    · exact move_other hs h
theorem move_room {a b s n ini x y : Int} (hm : mayS s ini) (h : moveS a b s n = (x, y, true)) : roomS x y s ini = roomS a b s ini + n := by
  rw [roomS_yes hm, roomS_yes hm]
  unfold moveS at h
  split at h <;> split at h <;> simp at h <;> rename_i hs _ <;> simp [hs] <;> omega
theorem take_room {a b s n ini x y : Int} (hn : 0 < n) (h : takeS a b s n ini = (x, y, true)) : 0 ≤ roomS x y s ini := by
  unfold takeS at h
  split at h
  · simp at h
  · rename_i hh
    have hm : mayS s ini := Classical.byContradiction fun h2 => hh (.inl h2)
    have hr : ¬ roomS a b s ini < n := fun h2 => hh (.inr (.inr ⟨hn, h2⟩))
    rw [move_room hm h]
    omega
theorem give_room {a b s n ini x y : Int} (h : giveS a b s n ini = (x, y, true)) : roomS x y s ini ≤ 2147483647 := by
  unfold giveS at h
  split at h
  · simp at h
  · rename_i hh
    have hm : mayS s ini := Classical.byContradiction fun h2 => hh (.inl h2)
    have hr : ¬ 2147483647 - roomS a b s ini < n := fun h2 => hh (.inr (.inr h2))
    rw [move_room hm h]
    omega

set_option maxRecDepth 10000 in
theorem apart_far (A : Option Addr) (n c : Nat) (w : World) (h : 60 < n) (_hn : n ≤ maxLen) : Calls Try.prog 5 #[.slice A n c] w fun e w' => e = .returned (.bool true) ∧ Below w.heap.size w w' := by
  go_enter Try.func5, Try.ntmps5
  go_wp2_with fail
  refine (alive_any _).mono ?_
  rintro e w1 ⟨rfl, hb⟩
  go_wp2_with fail
  go_ret
  exact ⟨rfl, hb⟩

set_option maxRecDepth 10000 in
set_option maxHeartbeats 2000000 in
theorem apart_near (A : Option Addr) (n c : Nat) (l : List (Bool × Int × Int × Int)) (w : World) (h : n ≤ 60) (HL : Hid (l.length = n)) (HS : Hid (Steps w A l)) : Calls Try.prog 5 #[.slice A n c] w fun e w' => e = .returned (.bool true) ∧ Below w.heap.size w w' := by
  have H0 : Hid (Am 0) := hide am0
  have HB0 : Hid (Blk ((w.alloc (.cells #[.complex .f64 0 0] 26)).alloc (.cells #[.complex .f64 0 0] 26)) w.heap.size 26 #[(.complex .f64 (fw 0) (fw 0))]) := hide (by rw [fw_zero]; exact (Blk.born _ _ _).alloc _)
  have HP0 : Hid (Blk ((w.alloc (.cells #[.complex .f64 0 0] 26)).alloc (.cells #[.complex .f64 0 0] 26)) (w.heap.size + 1) 26 #[(.complex .f64 (fw 0) (fw 0))]) := hide (by rw [fw_zero]; have := Blk.born (w.alloc (.cells #[.complex .f64 0 0] 26)) 26 #[.complex .f64 0 0]; simpa using this)
  have HW0 : Hid (Below w.heap.size w ((w.alloc (.cells #[.complex .f64 0 0] 26)).alloc (.cells #[.complex .f64 0 0] 26))) := hide (((Below.refl _ _).alloc (Nat.le_refl _) _).alloc (by simp) _)
  have hst := st_cx
  go_enter Try.func5, Try.ntmps5
  go_wp2_with fail
  go_loopw [17] (fun ii wr => ∃ (k : Nat) (a b : Int), ii = .int .i64 k ∧ k ≤ n ∧ Hid (Am a) ∧ Hid (Am b) ∧ Hid (Blk wr w.heap.size 26 #[(.complex .f64 (fw a) (fw b))]) ∧ Hid (Blk wr (w.heap.size + 1) 26 #[(.complex .f64 (fw a) (fw 0))]) ∧ Hid (Below w.heap.size w wr)) (fun ii _ => n - (intOf ii).toNat)
  case atStart => exact ⟨0, 0, 0, rfl, Nat.zero_le _, H0, H0, HB0, HP0, HW0⟩
  case round =>
    obtain ⟨k, a, b, rfl, hk, ha, hb, HB, HP, HW⟩ := hrel
    clear HB0 HP0 HW0
    by_cases hlt : k < n
    · skip
      have hkl : k < l.length := by have := HL.out; omega
      obtain ⟨g, s, nn, ini, hst0⟩ : ∃ g s nn ini, l[k] = (g, s, nn, ini) := ⟨_, _, _, _, rfl⟩
      obtain ⟨bb, oo, rfl, t0, t1, t2, t3⟩ := HS.out k g s nn ini (by rw [List.getElem?_eq_getElem hkl, hst0])
      have hbb : bb < w.heap.size := World.block_lt_of_cell? w _ t0
      have s0 := (HW.out.cell (p := ⟨bb, oo + k * 4, none⟩) hbb).trans t0
      have s1 := (HW.out.cell (p := ⟨bb, oo + k * 4 + 1, none⟩) hbb).trans t1
      have s2 := (HW.out.cell (p := ⟨bb, oo + k * 4 + 2, none⟩) hbb).trans t2
      have s3 := (HW.out.cell (p := ⟨bb, oo + k * 4 + 3, none⟩) hbb).trans t3
      clear t0 t1 t2 t3 hst0 hkl
      have hki : (k : Int) < (n : Int) := by omega
      have c0 : wr.cell? ⟨w.heap.size, 0, none⟩ = some (.complex .f64 (fw a) (fw b)) := HB.out.cell 0
      have hgl : w.heap.size + 1 < wr.heap.size := HP.out.lt
      have hgl0 : w.heap.size < wr.heap.size := HB.out.lt
      have hgn : ¬ w.heap.size = wr.heap.size := by omega
      have hgn0 : ¬ w.heap.size + 1 = wr.heap.size := by omega
      obtain ⟨x, y, q, hq⟩ : ∃ x y q, stepS g a b s nn ini = (x, y, q) := ⟨_, _, _, rfl⟩
      have HQ := hide hq
      have HX : Hid (Am x) := hide (step_am ha.out hb.out hq).1
      have HY : Hid (Am y) := hide (step_am ha.out hb.out hq).2
      clear hq
      go_wp2_with fail
      refine (step7 g a b s nn ini x y q _ ha hb HQ).mono ?_
      rintro e w1 ⟨rfl, hb1⟩
      have B1 := (HB.out.alloc (.cells #[.bool g, .int .i64 s, .int .i64 nn, .int .i64 ini] 30)).kept hb1
      have P1 := (HP.out.alloc (.cells #[.bool g, .int .i64 s, .int .i64 nn, .int .i64 ini] 30)).kept hb1
      have S1 := (Blk.born wr 30 #[.bool g, .int .i64 s, .int .i64 nn, .int .i64 ini]).kept hb1
      have HW1 : Hid (Below w.heap.size w w1) := hide (below_nextB (HW.out.alloc HW.out.size _) (by simp; have := HW.out.size; omega) hb1)
      clear hb1 c0 s0 s1 s2 s3
      have c0 : w1.cell? ⟨w.heap.size, 0, none⟩ = some (.complex .f64 (fw a) (fw b)) := B1.cell 0
      have f0 : w1.frozen? ⟨w.heap.size, 0, none⟩ = false := B1.free 0
      have d0 : w1.cell? ⟨w.heap.size + 1, 0, none⟩ = some (.complex .f64 (fw a) (fw 0)) := P1.cell 0
      have s0 : w1.cell? ⟨wr.heap.size, 0, none⟩ = some (.bool g) := S1.cell 0
      have s1 : w1.cell? ⟨wr.heap.size, 1, none⟩ = some (.int .i64 s) := S1.cell 1
      have s2 : w1.cell? ⟨wr.heap.size, 2, none⟩ = some (.int .i64 nn) := S1.cell 2
      have s3 : w1.cell? ⟨wr.heap.size, 3, none⟩ = some (.int .i64 ini) := S1.cell 3
      have hgl1 : wr.heap.size < w1.heap.size := S1.lt
      have hgn1 : ¬ wr.heap.size = w1.heap.size := by omega
      have hgn2 : ¬ w.heap.size + 1 = w1.heap.size := by omega
      have hgn3 : ¬ w.heap.size = w1.heap.size := by omega
      have hgl2 : w.heap.size + 1 < w1.heap.size := by omega
      have hgl3 : w.heap.size < w1.heap.size := by omega
      have hne : w.heap.size ≠ w.heap.size + 1 := by omega
      have hns : wr.heap.size ≠ w.heap.size := by omega
      have hns1 : wr.heap.size ≠ w.heap.size + 1 := by omega
      by_cases hs0 : s = 0
      · subst hs0
        obtain ⟨hq2, hy⟩ := step_apart HQ.out
        have HQ2 := hide hq2
        have HYB := hide hy
        clear hq2 hy
        cases q
        · clear hlt
          have B2 := B1.alloc (.cells #[(.complex .f64 (fw x) (fw y))] 26)
          have P2 := P1.alloc (.cells #[(.complex .f64 (fw x) (fw y))] 26)
          have S2 := S1.alloc (.cells #[(.complex .f64 (fw x) (fw y))] 26)
          have HW2 : Hid (Below w.heap.size w (w1.alloc (.cells #[(.complex .f64 (fw x) (fw y))] 26))) := hide (HW1.out.alloc HW1.out.size _)
          go_wp2_with fail
          refine (step7 g a 0 0 nn ini x 0 false _ ha H0 HQ2).mono ?_
          rintro e w2 ⟨rfl, hb2⟩
          have B3 := B2.kept hb2
          have P3 := P2.kept hb2
          have HW3 : Hid (Below w.heap.size w w2) := hide (below_nextB HW2.out HW2.out.size hb2)
          clear hb2 c0 f0 d0 s0 s1 s2 s3 B1 P1 S1 B2 P2 S2
          go_wp2_with fail
          go_roundw
          case rel => exact ⟨k + 1, a, b, by go_num, by omega, ha, hb, hide (B3.alloc _), hide (P3.alloc _), hide (HW3.out.alloc HW3.out.size _)⟩
          case measure => simp [intOf]; omega
        · clear hlt
          obtain rfl := HYB.out rfl
          have B2 := (B1.store 0 (.complex .f64 (fw x) (fw y))).alloc (.cells #[(.complex .f64 (fw x) (fw y))] 26)
          have P2 := (P1.aside (p := ⟨w.heap.size, 0, none⟩) hne.symm (.complex .f64 (fw x) (fw y))).alloc (.cells #[(.complex .f64 (fw x) (fw y))] 26)
          have S2 := (S1.aside (p := ⟨w.heap.size, 0, none⟩) hns (.complex .f64 (fw x) (fw y))).alloc (.cells #[(.complex .f64 (fw x) (fw y))] 26)
          have HW2 : Hid (Below w.heap.size w ((w1.setCell ⟨w.heap.size, 0, none⟩ (.complex .f64 (fw x) (fw y))).alloc (.cells #[(.complex .f64 (fw x) (fw y))] 26))) := hide ((HW1.out.setCell (Nat.le_refl _) _).alloc (by simpa using HW1.out.size) _)
          go_wp2_with fail
          refine (step7 g a 0 0 nn ini x 0 true _ ha H0 HQ2).mono ?_
          rintro e w2 ⟨rfl, hb2⟩
          have B3 := B2.kept hb2
          have P3 := P2.kept hb2
          have HW3 : Hid (Below w.heap.size w w2) := hide (below_nextB HW2.out HW2.out.size hb2)
          clear hb2 c0 f0 d0 s0 s1 s2 s3 B1 P1 S1 B2 P2 S2
          have d0 : w2.cell? ⟨w.heap.size + 1, 0, none⟩ = some (.complex .f64 (fw a) (fw 0)) := P3.cell 0
          have f0 : w2.frozen? ⟨w.heap.size + 1, 0, none⟩ = false := P3.free 0
          have hgl4 : w.heap.size + 1 < w2.heap.size := P3.lt
          have hgn4 : ¬ w.heap.size + 1 = w2.heap.size := by omega
          go_wp2_with fail
          go_roundw
          case rel => exact ⟨k + 1, x, y, by go_num, by omega, HX, HY, hide ((B3.aside (p := ⟨w.heap.size + 1, 0, none⟩) hne _).alloc _), hide ((P3.store 0 (.complex .f64 (fw x) (fw 0))).alloc _), hide ((HW3.out.setCell (by simp) _).alloc (by simpa using HW3.out.size) _)⟩
          case measure => simp [intOf]; omega
      · have hs1 : (s == 0) = false := by simpa using hs0
        have HO : Hid (q = true → x = a) := hide fun hh => step_other hs0 (by rw [← hh]; exact HQ.out)
        clear hs0
        cases q
        · clear hlt
          have B2 := B1.alloc (.cells #[(.complex .f64 (fw x) (fw y))] 26)
          have P2 := P1.alloc (.cells #[(.complex .f64 (fw x) (fw y))] 26)
          have S2 := S1.alloc (.cells #[(.complex .f64 (fw x) (fw y))] 26)
          have HW2 : Hid (Below w.heap.size w (w1.alloc (.cells #[(.complex .f64 (fw x) (fw y))] 26))) := hide (HW1.out.alloc HW1.out.size _)
          go_wp2_with fail
          go_roundw
          case rel => exact ⟨k + 1, a, b, by go_num, by omega, ha, hb, hide B2, hide P2, HW2⟩
          case measure => simp [intOf]; omega
        · clear hlt
          obtain rfl := HO.out rfl
          have B2 := (B1.store 0 (.complex .f64 (fw x) (fw y))).alloc (.cells #[(.complex .f64 (fw x) (fw y))] 26)
          have P2 := (P1.aside (p := ⟨w.heap.size, 0, none⟩) hne.symm (.complex .f64 (fw x) (fw y))).alloc (.cells #[(.complex .f64 (fw x) (fw y))] 26)
          have S2 := (S1.aside (p := ⟨w.heap.size, 0, none⟩) hns (.complex .f64 (fw x) (fw y))).alloc (.cells #[(.complex .f64 (fw x) (fw y))] 26)
          have HW2 : Hid (Below w.heap.size w ((w1.setCell ⟨w.heap.size, 0, none⟩ (.complex .f64 (fw x) (fw y))).alloc (.cells #[(.complex .f64 (fw x) (fw y))] 26))) := hide ((HW1.out.setCell (Nat.le_refl _) _).alloc (by simpa using HW1.out.size) _)
          go_wp2_with fail
          go_roundw
          case rel => exact ⟨k + 1, x, y, by go_num, by omega, HX, HY, hide B2, hide P2, HW2⟩
          case measure => simp [intOf]; omega
    · have HC : Hid (∀ wq, Below wr.heap.size wr wq → wq.cell? ⟨w.heap.size, 0, none⟩ = some (.complex .f64 (fw a) (fw b)) ∧ wq.cell? ⟨w.heap.size + 1, 0, none⟩ = some (.complex .f64 (fw a) (fw 0))) := hide fun wq hq => ⟨(HB.out.kept hq).cell 0, (HP.out.kept hq).cell 0⟩
      obtain ⟨r0, hr0⟩ : ∃ r, roomS a b 0 100 = r := ⟨_, rfl⟩
      have HR0 := hide hr0
      have HR1 : Hid (roomS a 0 0 100 = r0) := hide (by rw [← hr0]; exact room_side0 a 0 b 100)
      have HR2 : Hid (roomS a 0 1 100 = 100) := hide (by rw [roomS_yes (by decide)]; simp)
      clear hr0
      go_wp2_with fail
      refine wp_region_below (by kernel_rfl) (by kernel_rfl) ?_
      iterate 14
        first
          | (refine skipB (by rfl) ?_
             simp only [Act.put, List.setIfInBounds_toArray, List.set_cons_zero, List.set_cons_succ])
          | (refine stepB (by rfl) ?_
             apply Exists.intro
             refine ⟨fun wq hq => ?_, ?_⟩
             · obtain ⟨c0, c1⟩ := HC.out wq hq
               go_simp
               first
                 | done
                 | rfl
                 | (go_at_call 9; ((with_reducible refine (room9_q a b 0 100 r0 _ ha hb HR0).mono ?_); exact fun e w'' ⟨he, hb⟩ => ⟨he, by have := below_next hq hb; simpa using this⟩))
                 | (go_at_call 9; ((with_reducible refine (room9_q a 0 0 100 r0 _ ha H0 HR1).mono ?_); exact fun e w'' ⟨he, hb⟩ => ⟨he, by have := below_next hq hb; simpa using this⟩))
                 | (go_at_call 9; ((with_reducible refine (room9_q a 0 1 100 100 _ ha H0 HR2).mono ?_); exact fun e w'' ⟨he, hb⟩ => ⟨he, by have := below_next hq hb; simpa using this⟩))
                 | (go_at_call 6; ((with_reducible refine (alive_any _).mono ?_); exact fun e w'' ⟨he, hb⟩ => ⟨he, by have := below_next hq hb; simpa using this⟩))
             simp only [Act.put, List.setIfInBounds_toArray, List.set_cons_zero, List.set_cons_succ])
      refine wpQuiet_nil ?_
      intro wz hz
      go_wp2_with fail
      go_ret
      exact ⟨rfl, below_nextB HW.out HW.out.size hz⟩

theorem apart_any (A : Option Addr) (n c : Nat) (l : List (Bool × Int × Int × Int)) (w : World) (hl : l.length = n) (hm : n ≤ maxLen) (hs : Steps w A l) : Calls Try.prog 5 #[.slice A n c] w fun e w' => e = .returned (.bool true) ∧ Below w.heap.size w w' := by
  by_cases h : 60 < n
  · exact apart_far A n c w h hm
  · exact apart_near A n c l w (by omega) (hide hl) (hide hs)
end Go.Proofs.Ytphbmbenkbefhaa
