/- Contracts: ByName, the reference's; the walk of the law KindsNames. -/
import Derived.Test.YtjpjcbdaacifgaaDoorR
namespace Go.Proofs.YtjpjcbdaacifgaaDoor
open Go.RowKit
set_option linter.unusedSimpArgs false

/-- What both say. -/
def FPost (s : ByteArray) (w : World) (e : Ending) (w' : World) : Prop :=
  ∃ (x : Int) (q : Bool), e = .returned (.tuple #[.int .i64 x, .bool q]) ∧ ((q = true ∧ ∃ k : Nat, found s k ∧ x = (k : Int) - 1) ∨ (q = false ∧ lost s ∧ x = 0)) ∧ Below w.heap.size w w'
def noneBelow (s : ByteArray) (k : Nat) : Prop := ∀ j, j < k → nameAt j ≠ s
theorem noneBelow_next {s : ByteArray} {k : Nat} (h : noneBelow s k) (h1 : ((nameAt k).toList == s.toList) = false) (h2 : ((nameAt k).toList == s.toList) = decide (nameAt k = s)) : noneBelow s (k + 1) := fun j hj e => by
  by_cases hjk : j = k
  · subst hjk
    rw [h2] at h1
    exact of_decide_eq_false h1 e
  · exact h j (by omega) e
theorem beq_dec (a b : ByteArray) : (a.toList == b.toList) = decide (a = b) := by
  rw [ByteArray.toList_eq, ByteArray.toList_eq, Bool.eq_iff_iff, beq_iff_eq, decide_eq_true_eq]
  exact ⟨fun h => ByteArray.ext (Array.toList_inj.1 h), fun h => by rw [h]⟩
theorem empty_dec {s : ByteArray} (h : s.toList.isEmpty = true) : s = ⟨#[]⟩ := by
  rw [ByteArray.toList_eq] at h
  have h1 := List.isEmpty_iff.1 h
  exact ByteArray.ext (Array.toList_inj.1 h1)
theorem minus (k : Nat) : ((k : Int) - 1 + 1) = (k : Int) := by omega
set_option maxRecDepth 10000 in
theorem byname_any (s : ByteArray) (w : World) (hl : LaidW w) : Calls Tryd.prog 17 #[.string s] w (FPost s w) := by
  have HL := hide hl
  clear hl
  by_cases hz : s.toList.isEmpty = true
  · have HZ : Hid (lost s) := hide (by rw [empty_dec hz]; exact lost_empty)
    go_enter Tryd.func17, Tryd.ntmps17
    go_wp2_with fail
    go_ret2
    exact ⟨0, false, rfl, .inr ⟨rfl, HZ.out, rfl⟩, Below.refl _ _⟩
  have hz2 : s.toList.isEmpty = false := by cases h : s.toList.isEmpty; rfl; exact absurd h hz
  clear hz
  go_enter Tryd.func17, Tryd.ntmps17
  go_wp2_with fail
  go_loopw [4] (fun tv wr => ∃ k : Nat, k ≤ 257 ∧ tv = .int .i64 ((k : Int) - 1) ∧ Hid (noneBelow s k) ∧ Hid (Below w.heap.size w wr)) (fun tv _ => (256 - intOf tv).toNat)
  case atStart => exact ⟨0, by omega, rfl, hide (fun j hj => absurd hj (Nat.not_lt_zero _)), hide (Below.refl _ _)⟩
  case round =>
    obtain ⟨k, hk, rfl, HN, HW⟩ := hrel
    obtain ⟨z, hz⟩ : ∃ z : Int, (k : Int) - 1 = z := ⟨_, rfl⟩
    by_cases hlt : k < 257
    · have HV : Hid (nameV z = nameAt k) := hide (by rw [← hz]; exact nameV_at hlt)
      have hc := name_any z wr (HL.out.kept HW.out)
      rw [HV.out] at hc
      rw [hz]
      have z1 : z ≤ 255 := by omega
      have z2 : z < 256 := by omega
      have z3 : -1 ≤ z := by omega
      have HZ := hide hz
      clear hz
      cases hq : ((nameAt k).toList == s.toList) with
      | true =>
        have HF : Hid (found s k) := hide ⟨hlt, of_decide_eq_true ((beq_dec _ _).symm.trans hq), HN.out⟩
        generalize nameAt k = u at hc hq
        go_wp2_with (go_at_call 16; refine hc.mono ?_; rintro e w1 ⟨rfl, hb⟩)
        have HB := hide (below_nextB HW.out HW.out.size hb)
        clear hb hc
        go_wp2_with fail
        go_ret2
        exact ⟨z, true, rfl, .inl ⟨rfl, k, HF.out, HZ.out.symm⟩, HB.out⟩
      | false =>
        have HN2 := hide (noneBelow_next HN.out hq (beq_dec _ _))
        generalize nameAt k = u at hc hq
        go_wp2_with (go_at_call 16; refine hc.mono ?_; rintro e w1 ⟨rfl, hb⟩)
        have HB := hide (below_nextB HW.out HW.out.size hb)
        clear hb hc
        go_wp2_with fail
        go_roundw
        case rel => exact ⟨k + 1, by omega, by have := HZ.out; go_num, HN2, HB⟩
        case measure => simp [intOf]; omega
    · have z1 : ¬ z ≤ 255 := by omega
      have z2 : ¬ z < 256 := by omega
      have HL2 : Hid (lost s) := hide (fun j hj => HN.out j (by omega))
      rw [hz]
      clear hz
      go_wp2_with fail
      go_ret2
      exact ⟨0, false, rfl, .inr ⟨rfl, HL2.out, rfl⟩, HW.out⟩
set_option maxRecDepth 10000 in
theorem rbyname_any (s : ByteArray) (w : World) : Calls Tryd.prog 18 #[.string s] w (FPost s w) := by
  go_enter Tryd.func18, Tryd.ntmps18
  go_wp2_with fail
  go_loopw [4] (fun tv wr => ∃ k : Nat, k ≤ 257 ∧ tv = .int .i64 ((k : Int) - 1) ∧ Hid (noneBelow s k) ∧ Hid (Below w.heap.size w wr)) (fun tv _ => (256 - intOf tv).toNat)
  case atStart => exact ⟨0, by omega, rfl, hide (fun j hj => absurd hj (Nat.not_lt_zero _)), hide (Below.refl _ _)⟩
  case round =>
    obtain ⟨k, hk, rfl, HN, HW⟩ := hrel
    obtain ⟨z, hz⟩ : ∃ z : Int, (k : Int) - 1 = z := ⟨_, rfl⟩
    by_cases hlt : k < 257
    · have HV : Hid (nameV z = nameAt k) := hide (by rw [← hz]; exact nameV_at hlt)
      have hc := rname_any z wr
      rw [HV.out] at hc
      rw [hz]
      have z1 : z ≤ 255 := by omega
      have z2 : z < 256 := by omega
      have z3 : -1 ≤ z := by omega
      have HZ := hide hz
      clear hz
      cases hq : ((nameAt k).toList == s.toList) with
      | true =>
        have HF : Hid (found s k) := hide ⟨hlt, of_decide_eq_true ((beq_dec _ _).symm.trans hq), HN.out⟩
        generalize nameAt k = u at hc hq
        go_wp2_with (go_at_call 19; refine hc.mono ?_; rintro e w1 ⟨rfl, hb⟩)
        have HB := hide (below_nextB HW.out HW.out.size hb)
        clear hb hc
        go_wp2_with fail
        go_ret2
        exact ⟨z, true, rfl, .inl ⟨rfl, k, HF.out, HZ.out.symm⟩, HB.out⟩
      | false =>
        have HN2 := hide (noneBelow_next HN.out hq (beq_dec _ _))
        generalize nameAt k = u at hc hq
        go_wp2_with (go_at_call 19; refine hc.mono ?_; rintro e w1 ⟨rfl, hb⟩)
        have HB := hide (below_nextB HW.out HW.out.size hb)
        clear hb hc
        go_wp2_with fail
        go_roundw
        case rel => exact ⟨k + 1, by omega, by have := HZ.out; go_num, HN2, HB⟩
        case measure => simp [intOf]; omega
    · have z1 : ¬ z ≤ 255 := by omega
      have z2 : ¬ z < 256 := by omega
      have HL2 : Hid (lost s) := hide (fun j hj => HN.out j (by omega))
      rw [hz]
      clear hz
      go_wp2_with fail
      go_ret2
      exact ⟨0, false, rfl, .inr ⟨rfl, HL2.out, rfl⟩, HW.out⟩
end Go.Proofs.YtjpjcbdaacifgaaDoor
