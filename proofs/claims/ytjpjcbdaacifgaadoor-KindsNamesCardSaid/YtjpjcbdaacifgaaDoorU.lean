/- The walk of the law KindsNames. -/
import Derived.Test.YtjpjcbdaacifgaaDoorT
namespace Go.Proofs.YtjpjcbdaacifgaaDoor
open Go.RowKit
set_option linter.unusedSimpArgs false

theorem same_post {s : ByteArray} {x x' : Int} {q q' : Bool} (h : (q = true ∧ ∃ k : Nat, found s k ∧ x = (k : Int) - 1) ∨ (q = false ∧ lost s ∧ x = 0)) (h' : (q' = true ∧ ∃ k : Nat, found s k ∧ x' = (k : Int) - 1) ∨ (q' = false ∧ lost s ∧ x' = 0)) : x' = x ∧ q' = q := by
  rcases h with ⟨rfl, k, f, rfl⟩ | ⟨rfl, f, rfl⟩ <;> rcases h' with ⟨rfl, j, g, rfl⟩ | ⟨rfl, g, rfl⟩
  · rw [found_one f g]; exact ⟨rfl, rfl⟩
  · exact (found_lost f g).elim
  · exact (found_lost g f).elim
  · exact ⟨rfl, rfl⟩
theorem self_post {t x : Int} {q : Bool} (h : (q = true ∧ ∃ k : Nat, found (nameV t) k ∧ x = (k : Int) - 1) ∨ (q = false ∧ lost (nameV t) ∧ x = 0)) (h0 : -1 ≤ t) (h1 : t ≤ 255) : x = t ∧ q = true := by
  have e : nameV t = nameAt (t + 1).toNat := by unfold nameV; rw [if_pos ⟨h0, h1⟩]
  rw [e] at h
  have hf := found_self (k := (t + 1).toNat) (by omega)
  rcases h with ⟨rfl, k, f, rfl⟩ | ⟨rfl, f, rfl⟩
  · have := found_one f hf
    exact ⟨by omega, rfl⟩
  · exact (found_lost hf f).elim
theorem full_list {t : Int} (h0 : -1 ≤ t) (h1 : t ≤ 255) : (nameV t).toList.isEmpty = false := by
  cases h : (nameV t).toList.isEmpty with
  | false => rfl
  | true =>
    have e : nameV t = nameAt (t + 1).toNat := by unfold nameV; rw [if_pos ⟨h0, h1⟩]
    rw [e] at h
    exact absurd (empty_dec h) (at_full (by omega))
theorem empty_list {t : Int} (h : t < -1 ∨ 255 < t) : (nameV t).toList.isEmpty = true := by rw [nameV_out h, ByteArray.toList_eq]; rfl

set_option maxRecDepth 10000 in
set_option maxHeartbeats 2000000 in
theorem law_names (t : Int) (s : ByteArray) (w : World) (hl : LaidW w) : Calls Tryd.prog 5 #[.int .i64 t, .string s] w fun e w' => e = .returned (.bool true) ∧ Below w.heap.size w w' := by
  have HL := hide hl
  clear hl
  by_cases hs : (s.size : Int) > 100
  · go_enter Tryd.func5, Tryd.ntmps5
    go_wp2_with fail
    refine (alive_any w).mono ?_
    rintro e w1 ⟨rfl, hb⟩
    have HB := hide hb
    clear hb
    go_wp2_with fail
    go_ret
    exact ⟨rfl, HB.out⟩
  · go_enter Tryd.func5, Tryd.ntmps5
    go_wp2_with fail
    refine (name_any t w HL.out).mono ?_
    rintro e w1 ⟨rfl, hb⟩
    have HB1 := hide hb
    clear hb
    obtain ⟨u, hu⟩ : ∃ u, nameV t = u := ⟨_, rfl⟩
    have HU := hide hu
    rw [hu]
    clear hu
    go_wp2_with fail
    refine (byname_any s w1 (HL.out.kept HB1.out)).mono ?_
    rintro e w2 ⟨x, q, rfl, hf, hb⟩
    have HF := hide hf
    have HB2 := hide (below_nextB HB1.out HB1.out.size hb)
    clear hb hf
    go_wp2_with fail
    refine (rbyname_any s w2).mono ?_
    rintro e w3 ⟨x', q', rfl, hf, hb⟩
    obtain ⟨rfl, rfl⟩ := same_post HF.out hf
    have HB3 := hide (below_nextB HB2.out HB2.out.size hb)
    clear hb hf HF
    go_wp2_with fail
    refine (rname_any t w3).mono ?_
    rintro e w4 ⟨rfl, hb⟩
    have HB4 := hide (below_nextB HB3.out HB3.out.size hb)
    clear hb
    rw [HU.out]
    have hk := fun w => hide (known_any t w)
    have hcase : (0 ≤ t ∧ t ≤ 9) ∨ t < -1 ∨ t = -1 ∨ (10 ≤ t ∧ t ≤ 255) ∨ 255 < t := by omega
    rcases hcase with ⟨h0, h1⟩ | h0 | rfl | ⟨h0, h1⟩ | h0
    · have f1 : t < 10 := by omega
      have f2 : -1 ≤ t ∧ t ≤ 255 := by omega
      have HK := fun w => (hk w).out
      simp only [show (decide (0 ≤ (t : Int)) && decide ((t : Int) ≤ 9)) = true from by simp; omega] at HK
      have F2 := hide f2
      clear f2 hk
      go_wp2_with (go_at_call 20; refine (HK _).mono ?_; rintro e w5 ⟨rfl, rfl⟩)
      go_wp2_with fail
      refine (byname_any u w4 (HL.out.kept HB4.out)).mono ?_
      rintro e w5 ⟨x2, q2, rfl, hf, hb⟩
      have HB5 := hide (below_nextB HB4.out HB4.out.size hb)
      clear hb HK
      obtain ⟨rfl, rfl⟩ : x2 = t ∧ q2 = true := self_post (by rw [HU.out]; exact hf) F2.out.1 F2.out.2
      have he : u.toList.isEmpty = false := by rw [← HU.out]; exact full_list F2.out.1 F2.out.2
      have hxx : (x2 == x2) = true := beq_self_eq_true _
      clear hf
      go_wp2_with fail
      refine (alive_any w5).mono ?_
      rintro e w6 ⟨rfl, hb⟩
      have HB6 := hide (below_nextB HB5.out HB5.out.size hb)
      clear hb
      go_wp2_with fail
      go_ret
      exact ⟨rfl, HB6.out⟩
    · have f1 : t < 0 := by omega
      have f2 : t < -1 ∨ 255 < t := .inl h0
      have HK := fun w => (hk w).out
      simp only [show (decide (0 ≤ (t : Int)) && decide ((t : Int) ≤ 9)) = false from by simp; omega] at HK
      have F2 := hide f2
      clear f2 hk
      go_wp2_with (go_at_call 20; refine (HK _).mono ?_; rintro e w5 ⟨rfl, rfl⟩)
      go_wp2_with fail
      refine (byname_any u w4 (HL.out.kept HB4.out)).mono ?_
      rintro e w5 ⟨x2, q2, rfl, hf, hb⟩
      have HB5 := hide (below_nextB HB4.out HB4.out.size hb)
      clear hb HK
      have he : u.toList.isEmpty = true := by rw [← HU.out]; exact empty_list F2.out
      clear hf
      go_wp2_with fail
      refine (alive_any w5).mono ?_
      rintro e w6 ⟨rfl, hb⟩
      have HB6 := hide (below_nextB HB5.out HB5.out.size hb)
      clear hb
      go_wp2_with fail
      go_ret
      exact ⟨rfl, HB6.out⟩
    · have f2 : (-1 : Int) ≤ -1 ∧ (-1 : Int) ≤ 255 := by decide
      have HK := fun w => (hk w).out
      simp only [show (decide (0 ≤ ((-1) : Int)) && decide (((-1) : Int) ≤ 9)) = false from by decide] at HK
      have F2 := hide f2
      clear f2 hk
      go_wp2_with (go_at_call 20; refine (HK _).mono ?_; rintro e w5 ⟨rfl, rfl⟩)
      go_wp2_with fail
      refine (byname_any u w4 (HL.out.kept HB4.out)).mono ?_
      rintro e w5 ⟨x2, q2, rfl, hf, hb⟩
      have HB5 := hide (below_nextB HB4.out HB4.out.size hb)
      clear hb HK
      obtain ⟨rfl, rfl⟩ : x2 = -1 ∧ q2 = true := self_post (by rw [HU.out]; exact hf) F2.out.1 F2.out.2
      have he : u.toList.isEmpty = false := by rw [← HU.out]; exact full_list F2.out.1 F2.out.2
      clear hf
      go_wp2_with fail
      refine (alive_any w5).mono ?_
      rintro e w6 ⟨rfl, hb⟩
      have HB6 := hide (below_nextB HB5.out HB5.out.size hb)
      clear hb
      go_wp2_with fail
      go_ret
      exact ⟨rfl, HB6.out⟩
    · have f0 : 0 ≤ t := by omega
      have f1 : ¬ t < 10 := by omega
      have f2 : -1 ≤ t ∧ t ≤ 255 := by omega
      have HK := fun w => (hk w).out
      simp only [show (decide (0 ≤ (t : Int)) && decide ((t : Int) ≤ 9)) = false from by simp; omega] at HK
      have F2 := hide f2
      clear f2 hk
      go_wp2_with (go_at_call 20; refine (HK _).mono ?_; rintro e w5 ⟨rfl, rfl⟩)
      go_wp2_with fail
      refine (byname_any u w4 (HL.out.kept HB4.out)).mono ?_
      rintro e w5 ⟨x2, q2, rfl, hf, hb⟩
      have HB5 := hide (below_nextB HB4.out HB4.out.size hb)
      clear hb HK
      obtain ⟨rfl, rfl⟩ : x2 = t ∧ q2 = true := self_post (by rw [HU.out]; exact hf) F2.out.1 F2.out.2
      have he : u.toList.isEmpty = false := by rw [← HU.out]; exact full_list F2.out.1 F2.out.2
      have hxx : (x2 == x2) = true := beq_self_eq_true _
      clear hf
      go_wp2_with fail
      refine (alive_any w5).mono ?_
      rintro e w6 ⟨rfl, hb⟩
      have HB6 := hide (below_nextB HB5.out HB5.out.size hb)
      clear hb
      go_wp2_with fail
      go_ret
      exact ⟨rfl, HB6.out⟩
    · have f0 : 0 ≤ t := by omega
      have f1 : ¬ t < 10 := by omega
      have f2 : t < -1 ∨ 255 < t := .inr h0
      have HK := fun w => (hk w).out
      simp only [show (decide (0 ≤ (t : Int)) && decide ((t : Int) ≤ 9)) = false from by simp; omega] at HK
      have F2 := hide f2
      clear f2 hk
      go_wp2_with (go_at_call 20; refine (HK _).mono ?_; rintro e w5 ⟨rfl, rfl⟩)
      go_wp2_with fail
      refine (byname_any u w4 (HL.out.kept HB4.out)).mono ?_
      rintro e w5 ⟨x2, q2, rfl, hf, hb⟩
      have HB5 := hide (below_nextB HB4.out HB4.out.size hb)
      clear hb HK
      have he : u.toList.isEmpty = true := by rw [← HU.out]; exact empty_list F2.out
      clear hf
      go_wp2_with fail
      refine (alive_any w5).mono ?_
      rintro e w6 ⟨rfl, hb⟩
      have HB6 := hide (below_nextB HB5.out HB5.out.size hb)
      clear hb
      go_wp2_with fail
      go_ret
      exact ⟨rfl, HB6.out⟩
end Go.Proofs.YtjpjcbdaacifgaaDoor
