/- Contracts: Right and the two of slices that it calls. -/
import Derived.Test.YtciddilphflhaaaY
namespace Go.Proofs.Ytciddilphflhaaa
open Go.RowKit

def IPost (l : CL) (w : World) (e : Ending) (w' : World) : Prop := ∃ r : Int, e = .returned (.int .i64 r) ∧ decide (r ≥ 0) = !rightL l ∧ Below w.heap.size w w'

set_option maxRecDepth 10000 in
theorem index_any (A : Option Addr) (n c : Nat) (l : CL) (w : World) (hl : l.length = n) (hn : n ≤ 5000) (hs : Chunks w A l) : Calls Try.prog 22 #[.slice A n c, .func (.func 21) #[] #[]] w (IPost l w) := by
  have HLN := hide hl
  have HC := hide hs
  clear hl hs
  go_enter Try.func22, Try.ntmps22
  go_wp2_with fail
  go_loopw [5, 8] (fun _ iv wr => ∃ (i : Nat), iv = .int .i64 (i : Nat) ∧ i ≤ n ∧ Hid (rightL (l.take i) = true) ∧ Hid (Below w.heap.size w wr)) (fun _ iv _ => n - (intOf iv).toNat)
  case atStart => exact ⟨0, rfl, Nat.zero_le _, hide rfl, hide (Below.refl _ _)⟩
  case round =>
    obtain ⟨i, rfl, hi, HM, HW⟩ := hrel
    by_cases hlt : i < n
    · have hil : i < l.length := by have := HLN.out; omega
      obtain ⟨f, b, hd⟩ : ∃ f b, l[i] = (f, b) := ⟨_, _, rfl⟩
      have hg : l[i]? = some (f, b) := by rw [List.getElem?_eq_getElem hil, hd]
      obtain ⟨ga, oa, D, cd, rfl, s0, s1, _⟩ := (HC.out.kept HW.out) i f b hg
      have HJ := hide (right_take hg)
      have i1 : (i : Int) < (n : Int) := by omega
      have i3 : (0 : Int) ≤ (i : Int) := by omega
      by_cases hq : (f == 0 || f == 1) = true
      · have HQ := hide hq
        have hc := bad_any f (.slice D b.length cd) wr
        rw [hq] at hc
        clear hd hg hil hq
        go_wp2_with (go_at_call 21; refine hc.mono ?_; rintro e w1 ⟨rfl, hb⟩)
        have HW1 := hide (below_nextB HW.out HW.out.size hb)
        clear hb
        go_wp2_with fail
        go_roundw
        case rel => exact ⟨i + 1, by go_num, by omega, hide (by rw [HJ.out, HM.out, HQ.out]; rfl), HW1⟩
        case measure => simp [intOf]; omega
      · have hq2 : (f == 0 || f == 1) = false := by simpa using hq
        have HN := hide (right_no hg hq2)
        have hc := bad_any f (.slice D b.length cd) wr
        rw [hq2] at hc
        clear hd hg hil hq hq2
        go_wp2_with (go_at_call 21; refine hc.mono ?_; rintro e w1 ⟨rfl, hb⟩)
        have HW1 := hide (below_nextB HW.out HW.out.size hb)
        clear hb
        go_wp2_with fail
        go_ret
        exact ⟨(i : Int), rfl, by rw [HN.out]; simp, HW1.out⟩
    · have HE : Hid (rightL l = true) := hide (by have := HM.out; rwa [List.take_of_length_le (by have := HLN.out; omega)] at this)
      go_wp2_with fail
      go_ret
      exact ⟨-1, rfl, by rw [HE.out]; rfl, HW.out⟩

set_option maxRecDepth 10000 in
theorem contains_any (A : Option Addr) (n c : Nat) (l : CL) (w : World) (hl : l.length = n) (hn : n ≤ 5000) (hs : Chunks w A l) : Calls Try.prog 20 #[.slice A n c, .func (.func 21) #[] #[]] w fun e w' => e = .returned (.bool (!rightL l)) ∧ Below w.heap.size w w' := by
  have hc := index_any A n c l w hl hn hs
  have HX := hide True.intro
  clear hl hs
  go_enter Try.func20, Try.ntmps20
  go_wp2_with (go_at_call 22; refine hc.mono ?_; rintro e w1 ⟨r, rfl, hr, hb⟩)
  have HB := hide hb
  have HR := hide hr
  clear hb hr hc
  go_wp2_with fail
  go_ret
  exact ⟨by rw [← HR.out]; rfl, HB.out⟩

set_option maxRecDepth 10000 in
theorem right_any (A : Option Addr) (n c : Nat) (l : CL) (w : World) (hl : l.length = n) (hn : n ≤ 5000) (hs : Chunks w A l) : Calls Try.prog 13 #[.slice A n c] w fun e w' => e = .returned (.bool (rightL l)) ∧ Below w.heap.size w w' := by
  have hc := contains_any A n c l w hl hn hs
  clear hl hs
  go_enter Try.func13, Try.ntmps13
  go_wp2_with (go_at_call 20; refine hc.mono ?_; rintro e w1 ⟨rfl, hb⟩)
  have HB := hide hb
  clear hb hc
  go_wp2_with fail
  go_ret
  exact ⟨by cases rightL l <;> rfl, HB.out⟩
end Go.Proofs.Ytciddilphflhaaa
