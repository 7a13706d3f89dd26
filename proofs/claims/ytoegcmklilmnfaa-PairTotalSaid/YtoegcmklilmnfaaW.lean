/- PairTotal's walk. -/
import Derived.Test.YtoegcmklilmnfaaH
import Derived.OwnWalk
namespace Go.Proofs.Ytoegcmklilmnfaa
open Go.RowKit

theorem Try.info22 : (Try.prog.info? 22).map (fun i => (i.zero, i.size, i.bytes)) = some (some (.complex .f64 0 0), 1, 16) := by kernel_rfl
def wv (q : Int × Int) : Value := .complex .f64 (floatOfInt .f64 q.1) (floatOfInt .f64 q.2)

set_option maxRecDepth 10000 in
theorem ptotal_far (A : Option Addr) (n c : Nat) (hv : Bool) (w : World) (h : 60 < n) (_hn : n ≤ maxLen) : Calls Try.prog 5 #[.slice A n c, .bool hv] w fun e w' => e = .returned (.bool true) ∧ Below w.heap.size w w' := by
  go_enter Try.func5, Try.ntmps5
  go_wp2_with fail
  refine (alive_any _).mono ?_
  rintro e w1 ⟨rfl, hb⟩
  go_wp2_with fail
  go_ret
  exact ⟨rfl, hb⟩

set_option maxRecDepth 10000 in
set_option maxHeartbeats 2000000 in
theorem ptotal_near (A : Option Addr) (n c : Nat) (hv : Bool) (l : List (Int × Int)) (w : World) (h : n ≤ 60) (HL : Hid (l.length = n)) (HS : Hid (Prs w A l)) : Calls Try.prog 5 #[.slice A n c, .bool hv] w fun e w' => e = .returned (.bool true) ∧ Below w.heap.size w w' := by
  have H0 : Hid (Am 0) := hide am0
  go_enter Try.func5, Try.ntmps5
  go_wp2_with fail
  go_loopw [5, 26] (fun vv ii wr => ∃ (k : Nat) (D : Option Addr) (C : Nat), vv = .slice D k C ∧ ii = .int .i64 k ∧ k ≤ n ∧ Hid (wr.ownsRow w.heap.size 22 1 (.slice D k C) k ((l.map wv).take k)) ∧ Hid (Below w.heap.size w wr) ∧ Hid (∀ q ∈ l.take k, Bnd q)) (fun _ ii _ => n - (intOf ii).toNat)
  case atStart => exact ⟨0, none, 0, rfl, rfl, Nat.zero_le _, hide (World.ownsRow_nil _ _ _ _), hide (Below.refl _ _), hide (by simp)⟩
  case round =>
    obtain ⟨k, D, C, rfl, rfl, hk, HO, HW, HQ⟩ := hrel
    by_cases hlt : k < n
    · have hkl : k < l.length := by have := HL.out; omega
      obtain ⟨s, t, hst⟩ : ∃ s t, l[k] = (s, t) := ⟨_, _, rfl⟩
      obtain ⟨bb, oo, rfl, t0, t1⟩ := HS.out k s t (by rw [List.getElem?_eq_getElem hkl, hst])
      have hbb : bb < w.heap.size := World.block_lt_of_cell? w _ t0
      have s0 := (HW.out.cell (p := ⟨bb, oo + k * 2, none⟩) hbb).trans t0
      have s1 := (HW.out.cell (p := ⟨bb, oo + k * 2 + 1, none⟩) hbb).trans t1
      have hki : (k : Int) < (n : Int) := by omega
      have HT1 : Hid ((l.map wv).take (k + 1) = (l.map wv).take k ++ [wv (s, t)]) := hide (by rw [← List.map_take, List.take_succ_eq_append_getElem hkl, List.map_append, hst, List.map_take]; rfl)
      have HT2 : Hid (l.take (k + 1) = l.take k ++ [(s, t)]) := hide (by rw [List.take_succ_eq_append_getElem hkl, hst])
      clear t0 t1 hst hkl
      have HSZ : Hid (w.heap.size ≤ wr.heap.size) := hide HW.out.size
      by_cases hb : Bnd (s, t)
      · have HB := hide hb
        obtain ⟨b1, b2, b3, b4⟩ := hb
        dsimp only at b1 b2 b3 b4
        go_wp2_with (at_builtin; go_loud (refine wpList_push rfl (.tmp 49) (.tmp 57) 44 rfl w.heap.size 22 Try.info22 rfl Try.underlying44 D k C _ _ rfl (HO.out.alloc _) (wr.heap.size + 1) rfl (by simp) rfl (by unfold maxLen; omega) (by omega) (by have := HSZ.out; simp; omega) ?_))
        intro g' c' w1 hown hg
        have HO1 : Hid (w1.ownsRow w.heap.size 22 1 (.slice (some ⟨g', 0, none⟩) (k + 1) c') (k + 1) ((l.map wv).take (k + 1))) := hide (by rw [HT1.out]; exact hown)
        have HW1 : Hid (Below w.heap.size w w1) := hide (((HW.out.alloc HSZ.out _).alloc (by have := HSZ.out; simp; omega) _).grown hg (by have := HSZ.out; simp; omega) (fun j hj => own_row_ge HO.out j hj))
        have HQ1 : Hid (∀ q ∈ l.take (k + 1), Bnd q) := hide (by
          intro q hq
          rw [HT2.out, List.mem_append] at hq
          rcases hq with hq | hq
          · exact HQ.out q hq
          · simp at hq; rw [hq]; exact HB.out)
        clear hown hg s0 s1
        go_wp2_with fail
        go_roundw
        case rel => exact ⟨k + 1, some ⟨g', 0, none⟩, c', rfl, by go_num, by omega, HO1, HW1, HQ1⟩
        case measure => simp [intOf]; omega
      · have hcase : 1152921504606846976 < s ∨ s < -1152921504606846976 ∨ (-1152921504606846976 ≤ s ∧ s ≤ 1152921504606846976 ∧ 1152921504606846976 < t) ∨ (-1152921504606846976 ≤ s ∧ s ≤ 1152921504606846976 ∧ t < -1152921504606846976) := by
          unfold Bnd at hb
          dsimp only at hb
          omega
        clear hb
        rcases hcase with h1 | h1 | ⟨h1, h2, h3⟩ | ⟨h1, h2, h3⟩
        all_goals
          go_wp2_with fail
          refine (alive_any _).mono ?_
          rintro e w2 ⟨rfl, hb2⟩
          have HF := hide (below_nextB (HW.out.alloc HSZ.out _) (by have := HSZ.out; simp; omega) hb2)
          clear hb2
          go_wp2_with fail
          go_ret
          exact ⟨rfl, HF.out⟩
    · have hkn : k = n := by omega
      subst hkn
      have HALL : Hid (∀ q ∈ l, Bnd q) := hide (by have := HQ.out; rw [List.take_of_length_le (by have := HL.out; omega)] at this; exact this)
      have HSE : Hid (Sees wr D (l.map wv)) := hide (by have := Sees.of_own HO.out; rw [List.take_of_length_le (by have := HL.out; simp; omega)] at this; exact this)
      have HP : Hid (Prs wr A l) := hide (fun i s t hi => by
        obtain ⟨b, o, e, h0, h1⟩ := HS.out i s t hi
        exact ⟨b, o, e, (HW.out.cell (p := ⟨b, o + i * 2, none⟩) (World.block_lt_of_cell? w _ h0)).trans h0, (HW.out.cell (p := ⟨b, o + i * 2 + 1, none⟩) (World.block_lt_of_cell? w _ h1)).trans h1⟩)
      obtain ⟨x, y, e0, htt⟩ : ∃ x y e0, totS (l.map opt) 0 0 = (x, y, e0) := ⟨_, _, _, rfl⟩
      have HTT := hide htt
      have ham := tot_am _ _ _ _ _ _ am0 am0 htt
      have HX := hide ham.1
      have HY := hide ham.2.1
      have HZ := hide ham.2.2
      have HT15 : Hid (∀ w, Sees w D (l.map wv) → Calls Try.prog 15 #[.slice D k C] w fun e w' => e = .returned (.tuple #[.complex .f64 (fw x) (fw y), .int .i64 e0]) ∧ w = w') := hide (fun w hs =>
        total15 D k C (l.map fun q => (floatOfInt .f64 q.1, floatOfInt .f64 q.2, opt q)) x y e0 w (hide (by simp; exact HL.out)) (by unfold maxLen; omega) (hide (by rw [List.map_map]; exact hs)) (hide (by
          intro q hq
          simp only [List.mem_map] at hq
          obtain ⟨q0, hq0, rfl⟩ := hq
          exact el_bnd q0 (HALL.out q0 hq0))) (hide (by rw [List.map_map]; exact htt)))
      clear htt ham HQ HO
      have HSZ : Hid (w.heap.size ≤ wr.heap.size) := hide HW.out.size
      have hz : fw 0 = 0 := fw_zero
      have o0 : FloatKind.f64.format.order 0 0 = some .eq := by decide +kernel
      go_wp2_with fail
      refine (HT15.out _ HSE.out).mono ?_
      rintro e w1 ⟨rfl, rfl⟩
      go_wp2_with fail
      refine (total16 A k c l x y e0 _ HL (by unfold maxLen; omega) HP HTT).mono ?_
      rintro e w2 ⟨rfl, hb2⟩
      have HW2 : Hid (Below w.heap.size w w2) := hide (below_nextB HW.out HSZ.out hb2)
      clear hb2 HT15 HSE HP HTT HALL
      have HIS : Hid (∀ w', Calls Try.prog 11 #[.complex .f64 (fw x) (fw y), .agg #[.int .i64 x, .int .i64 y]] w' fun e w'' => e = .returned (.bool true) ∧ Below w'.heap.size w' w'') := hide (fun w' => is_q x y x y true w' HX HY (hide (by simp)))
      by_cases he : e0 = 0
      · subst he
        clear HZ hz
        go_wp2_with fail
        refine (HIS.out _).mono ?_
        rintro e w3 ⟨rfl, hb3⟩
        have HW3 : Hid (Below w.heap.size w w3) := hide (below_nextB (HW2.out.alloc HW2.out.size _) (by have := HW2.out.size; simp; omega) hb3)
        clear hb3
        have HWB := HW3
        go_wp2_with fail
        · refine (alive_any _).mono ?_
          rintro e w4 ⟨rfl, hb4⟩
          have HF := hide (below_nextB HWB.out HWB.out.size hb4)
          clear hb4
          go_wp2_with fail
          go_ret
          exact ⟨rfl, HF.out⟩
        · refine (side_half0 _ _).mono ?_
          rintro e w4 ⟨rfl, hw4⟩
          have HWC : Hid (Below w.heap.size w w4) := hide (by rw [← hw4]; exact HWB.out)
          clear hw4
          have HSQ : Hid (Sees (w4.alloc (.cells #[.complex .f64 4607182418800017408 4607182418800017408, .complex .f64 0 4598175219545276416] 22)) (some ⟨w4.heap.size, 0, none⟩) [.complex .f64 4607182418800017408 4607182418800017408, .complex .f64 0 4598175219545276416]) := hide (Sees.born _ _ _ _)
          have HWD : Hid (Below w.heap.size w (w4.alloc (.cells #[.complex .f64 4607182418800017408 4607182418800017408, .complex .f64 0 4598175219545276416] 22))) := hide (HWC.out.alloc HWC.out.size _)
          go_wp2_with fail
          refine (total_quarter _ _ HSQ).mono ?_
          rintro e w5 ⟨rfl, hw5⟩
          have HWE : Hid (Below w.heap.size w w5) := hide (by rw [← hw5]; exact HWD.out)
          clear hw5
          go_wp2_with fail
          refine (swap_53 _).mono ?_
          rintro e w6 ⟨rfl, rfl⟩
          go_wp2_with fail
          refine (move_half _ _ _).mono ?_
          rintro e w6 ⟨rfl, rfl⟩
          go_wp2_with fail
          refine (alive_any _).mono ?_
          rintro e w7 ⟨rfl, hb7⟩
          have HF := hide (below_nextB HWE.out HWE.out.size hb7)
          clear hb7
          go_wp2_with fail
          go_ret
          exact ⟨rfl, HF.out⟩
      · obtain ⟨rfl, rfl⟩ := HZ.out he
        have he1 : (e0 == 0) = false := by simpa using he
        have he2 : (e0 != 0) = true := by simpa using he
        have HWB : Hid (Below w.heap.size w (w2.alloc (.cells #[.int .i64 0, .int .i64 0] 27))) := hide (HW2.out.alloc HW2.out.size _)
        go_wp2_with fail
        · refine (alive_any _).mono ?_
          rintro e w4 ⟨rfl, hb4⟩
          have HF := hide (below_nextB HWB.out HWB.out.size hb4)
          clear hb4
          go_wp2_with fail
          go_ret
          exact ⟨rfl, HF.out⟩
        · refine (side_half0 _ _).mono ?_
          rintro e w4 ⟨rfl, hw4⟩
          have HWC : Hid (Below w.heap.size w w4) := hide (by rw [← hw4]; exact HWB.out)
          clear hw4
          have HSQ : Hid (Sees (w4.alloc (.cells #[.complex .f64 4607182418800017408 4607182418800017408, .complex .f64 0 4598175219545276416] 22)) (some ⟨w4.heap.size, 0, none⟩) [.complex .f64 4607182418800017408 4607182418800017408, .complex .f64 0 4598175219545276416]) := hide (Sees.born _ _ _ _)
          have HWD : Hid (Below w.heap.size w (w4.alloc (.cells #[.complex .f64 4607182418800017408 4607182418800017408, .complex .f64 0 4598175219545276416] 22))) := hide (HWC.out.alloc HWC.out.size _)
          go_wp2_with fail
          refine (total_quarter _ _ HSQ).mono ?_
          rintro e w5 ⟨rfl, hw5⟩
          have HWE : Hid (Below w.heap.size w w5) := hide (by rw [← hw5]; exact HWD.out)
          clear hw5
          go_wp2_with fail
          refine (swap_53 _).mono ?_
          rintro e w6 ⟨rfl, rfl⟩
          go_wp2_with fail
          refine (move_half _ _ _).mono ?_
          rintro e w6 ⟨rfl, rfl⟩
          go_wp2_with fail
          refine (alive_any _).mono ?_
          rintro e w7 ⟨rfl, hb7⟩
          have HF := hide (below_nextB HWE.out HWE.out.size hb7)
          clear hb7
          go_wp2_with fail
          go_ret
          exact ⟨rfl, HF.out⟩
end Go.Proofs.Ytoegcmklilmnfaa
