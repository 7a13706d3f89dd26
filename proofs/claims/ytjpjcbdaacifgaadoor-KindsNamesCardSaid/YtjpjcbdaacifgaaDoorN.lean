/- Contracts: the reference's Flags; Known, Text, the name of 11; the example. -/
import Derived.Test.YtjpjcbdaacifgaaDoorM
import Derived.Test.YtjpjcbdaacifgaaDoorShelf
namespace Go.Proofs.YtjpjcbdaacifgaaDoor
open Go.RowKit
set_option linter.unusedSimpArgs false

theorem At.of_eq {w wr : World} {A : Option Addr} {n c : Nat} {l l' : List ByteArray} (h : At w wr A n c l) (e : l = l') : At w wr A n c l' := e ▸ h
theorem three (t : Int) : (t == 0) = true ∨ (t == 1) = true ∨ ((t == 0) = false ∧ (t == 1) = false) := by
  simp only [beq_eq_false_iff_ne, beq_iff_eq]
  omega
set_option maxRecDepth 10000 in
set_option maxHeartbeats 4000000 in
theorem rflags_any (t fl : Int) (w : World) (h1 : fl ≤ 9223372036854775807) : Calls Tryd.prog 12 #[.int .i64 t, .int .i64 fl] w (SPost (flagL t fl) w) := by
  have HAS : ∀ f w, Hid (Calls Tryd.prog 9 #[.int .i64 t, .int .i64 fl, .int .i64 f] w fun e w' => e = .returned (.bool (hasB t fl f)) ∧ w = w') := fun f w => hide (rhas_any t fl f w h1)
  have HA0 := hide (At.nil w)
  clear h1
  go_enter Tryd.func12, Tryd.ntmps12
  cases hq : hasB t fl 1 with
  | false =>
    have HN1 : Hid (p1 t fl = []) := hide (by unfold p1; rw [hq]; rfl)
    have HC := fun w => (HAS 1 w).out
    simp only [hq] at HC
    clear hq
    go_wp2_with (go_at_call_of 9 (Value.int .i64 1); refine (HC _).mono ?_; rintro e w1 ⟨rfl, rfl⟩)
    clear HC
    cases hq : hasB t fl 4 with
    | false =>
      have HN4 : Hid (p4 t fl = []) := hide (by unfold p4; rw [hq]; rfl)
      have HC := fun w => (HAS 4 w).out
      simp only [hq] at HC
      clear hq
      go_wp2_with (go_at_call_of 9 (Value.int .i64 4); refine (HC _).mono ?_; rintro e w1 ⟨rfl, rfl⟩)
      clear HC
      cases hq : hasB t fl 8 with
      | false =>
        have HN8 : Hid (p8 t fl = []) := hide (by unfold p8; rw [hq]; rfl)
        have HC := fun w => (HAS 8 w).out
        simp only [hq] at HC
        clear hq
        go_wp2_with (go_at_call_of 9 (Value.int .i64 8); refine (HC _).mono ?_; rintro e w1 ⟨rfl, rfl⟩)
        clear HC
        cases hq : hasB t fl 32 with
        | false =>
          have HN32 : Hid (p32 t fl = []) := hide (by unfold p32; rw [hq]; rfl)
          have HC := fun w => (HAS 32 w).out
          simp only [hq] at HC
          clear hq
          go_wp2_with (go_at_call_of 9 (Value.int .i64 32); refine (HC _).mono ?_; rintro e w1 ⟨rfl, rfl⟩)
          clear HC
          go_wp2_with fail
          go_ret
          have HF : At w _ _ _ _ (flagL t fl) := HA0.out.of_eq (by unfold flagL; rw [HN1.out, HN4.out, HN8.out, HN32.out] <;> rfl)
          exact ⟨_, _, _, rfl, HF.num, HF.own, HF.bel⟩
        | true =>
          have HN32 : Hid (p32 t fl = [⟨#[80, 82, 73, 79, 82, 73, 84, 89]⟩]) := hide (by unfold p32; rw [hq]; rfl)
          have HC := fun w => (HAS 32 w).out
          simp only [hq] at HC
          clear hq
          go_wp2_with (first | (go_at_call_of 9 (Value.int .i64 32); refine (HC _).mono ?_; rintro e w1 ⟨rfl, rfl⟩) | (at_builtin; go_loud (refine wpList_push rfl (.tmp 36) (.tmp 37) 26 rfl w.heap.size 9 info9 rfl Tryd.underlying26 _ _ _ _ _ rfl HA0.out.own _ rfl rfl rfl (by unfold maxLen; omega) (by omega) HA0.out.bel.size ?_)))
          intro g32 c32 w32 hown1 hg1
          have HA32 := hide (HA0.out.push (by omega) hown1 hg1)
          clear hown1 hg1 HC
          go_wp2_with fail
          go_ret
          have HF : At w _ _ _ _ (flagL t fl) := HA32.out.of_eq (by unfold flagL; rw [HN1.out, HN4.out, HN8.out, HN32.out] <;> rfl)
          exact ⟨_, _, _, rfl, HF.num, HF.own, HF.bel⟩
      | true =>
        have HN8 : Hid (p8 t fl = [⟨#[80, 65, 68, 68, 69, 68]⟩]) := hide (by unfold p8; rw [hq]; rfl)
        have HC := fun w => (HAS 8 w).out
        simp only [hq] at HC
        clear hq
        go_wp2_with (first | (go_at_call_of 9 (Value.int .i64 8); refine (HC _).mono ?_; rintro e w1 ⟨rfl, rfl⟩) | (at_builtin; go_loud (refine wpList_push rfl (.tmp 30) (.tmp 31) 26 rfl w.heap.size 9 info9 rfl Tryd.underlying26 _ _ _ _ _ rfl HA0.out.own _ rfl rfl rfl (by unfold maxLen; omega) (by omega) HA0.out.bel.size ?_)))
        intro g8 c8 w8 hown1 hg1
        have HA8 := hide (HA0.out.push (by omega) hown1 hg1)
        clear hown1 hg1 HC
        cases hq : hasB t fl 32 with
        | false =>
          have HN32 : Hid (p32 t fl = []) := hide (by unfold p32; rw [hq]; rfl)
          have HC := fun w => (HAS 32 w).out
          simp only [hq] at HC
          clear hq
          go_wp2_with (go_at_call_of 9 (Value.int .i64 32); refine (HC _).mono ?_; rintro e w1 ⟨rfl, rfl⟩)
          clear HC
          go_wp2_with fail
          go_ret
          have HF : At w _ _ _ _ (flagL t fl) := HA8.out.of_eq (by unfold flagL; rw [HN1.out, HN4.out, HN8.out, HN32.out] <;> rfl)
          exact ⟨_, _, _, rfl, HF.num, HF.own, HF.bel⟩
        | true =>
          have HN32 : Hid (p32 t fl = [⟨#[80, 82, 73, 79, 82, 73, 84, 89]⟩]) := hide (by unfold p32; rw [hq]; rfl)
          have HC := fun w => (HAS 32 w).out
          simp only [hq] at HC
          clear hq
          go_wp2_with (first | (go_at_call_of 9 (Value.int .i64 32); refine (HC _).mono ?_; rintro e w1 ⟨rfl, rfl⟩) | (at_builtin; go_loud (refine wpList_push rfl (.tmp 36) (.tmp 37) 26 rfl w.heap.size 9 info9 rfl Tryd.underlying26 _ _ _ _ _ rfl HA8.out.own _ rfl rfl rfl (by unfold maxLen; omega) (by omega) HA8.out.bel.size ?_)))
          intro g32 c32 w32 hown1 hg1
          have HA32 := hide (HA8.out.push (by omega) hown1 hg1)
          clear hown1 hg1 HC
          go_wp2_with fail
          go_ret
          have HF : At w _ _ _ _ (flagL t fl) := HA32.out.of_eq (by unfold flagL; rw [HN1.out, HN4.out, HN8.out, HN32.out] <;> rfl)
          exact ⟨_, _, _, rfl, HF.num, HF.own, HF.bel⟩
    | true =>
      have HN4 : Hid (p4 t fl = [⟨#[69, 78, 68, 95, 72, 69, 65, 68, 69, 82, 83]⟩]) := hide (by unfold p4; rw [hq]; rfl)
      have HC := fun w => (HAS 4 w).out
      simp only [hq] at HC
      clear hq
      go_wp2_with (first | (go_at_call_of 9 (Value.int .i64 4); refine (HC _).mono ?_; rintro e w1 ⟨rfl, rfl⟩) | (at_builtin; go_loud (refine wpList_push rfl (.tmp 24) (.tmp 25) 26 rfl w.heap.size 9 info9 rfl Tryd.underlying26 _ _ _ _ _ rfl HA0.out.own _ rfl rfl rfl (by unfold maxLen; omega) (by omega) HA0.out.bel.size ?_)))
      intro g4 c4 w4 hown1 hg1
      have HA4 := hide (HA0.out.push (by omega) hown1 hg1)
      clear hown1 hg1 HC
      cases hq : hasB t fl 8 with
      | false =>
        have HN8 : Hid (p8 t fl = []) := hide (by unfold p8; rw [hq]; rfl)
        have HC := fun w => (HAS 8 w).out
        simp only [hq] at HC
        clear hq
        go_wp2_with (go_at_call_of 9 (Value.int .i64 8); refine (HC _).mono ?_; rintro e w1 ⟨rfl, rfl⟩)
        clear HC
        cases hq : hasB t fl 32 with
        | false =>
          have HN32 : Hid (p32 t fl = []) := hide (by unfold p32; rw [hq]; rfl)
          have HC := fun w => (HAS 32 w).out
          simp only [hq] at HC
          clear hq
          go_wp2_with (go_at_call_of 9 (Value.int .i64 32); refine (HC _).mono ?_; rintro e w1 ⟨rfl, rfl⟩)
          clear HC
          go_wp2_with fail
          go_ret
          have HF : At w _ _ _ _ (flagL t fl) := HA4.out.of_eq (by unfold flagL; rw [HN1.out, HN4.out, HN8.out, HN32.out] <;> rfl)
          exact ⟨_, _, _, rfl, HF.num, HF.own, HF.bel⟩
        | true =>
          have HN32 : Hid (p32 t fl = [⟨#[80, 82, 73, 79, 82, 73, 84, 89]⟩]) := hide (by unfold p32; rw [hq]; rfl)
          have HC := fun w => (HAS 32 w).out
          simp only [hq] at HC
          clear hq
          go_wp2_with (first | (go_at_call_of 9 (Value.int .i64 32); refine (HC _).mono ?_; rintro e w1 ⟨rfl, rfl⟩) | (at_builtin; go_loud (refine wpList_push rfl (.tmp 36) (.tmp 37) 26 rfl w.heap.size 9 info9 rfl Tryd.underlying26 _ _ _ _ _ rfl HA4.out.own _ rfl rfl rfl (by unfold maxLen; omega) (by omega) HA4.out.bel.size ?_)))
          intro g32 c32 w32 hown1 hg1
          have HA32 := hide (HA4.out.push (by omega) hown1 hg1)
          clear hown1 hg1 HC
          go_wp2_with fail
          go_ret
          have HF : At w _ _ _ _ (flagL t fl) := HA32.out.of_eq (by unfold flagL; rw [HN1.out, HN4.out, HN8.out, HN32.out] <;> rfl)
          exact ⟨_, _, _, rfl, HF.num, HF.own, HF.bel⟩
      | true =>
        have HN8 : Hid (p8 t fl = [⟨#[80, 65, 68, 68, 69, 68]⟩]) := hide (by unfold p8; rw [hq]; rfl)
        have HC := fun w => (HAS 8 w).out
        simp only [hq] at HC
        clear hq
        go_wp2_with (first | (go_at_call_of 9 (Value.int .i64 8); refine (HC _).mono ?_; rintro e w1 ⟨rfl, rfl⟩) | (at_builtin; go_loud (refine wpList_push rfl (.tmp 30) (.tmp 31) 26 rfl w.heap.size 9 info9 rfl Tryd.underlying26 _ _ _ _ _ rfl HA4.out.own _ rfl rfl rfl (by unfold maxLen; omega) (by omega) HA4.out.bel.size ?_)))
        intro g8 c8 w8 hown1 hg1
        have HA8 := hide (HA4.out.push (by omega) hown1 hg1)
        clear hown1 hg1 HC
        cases hq : hasB t fl 32 with
        | false =>
          have HN32 : Hid (p32 t fl = []) := hide (by unfold p32; rw [hq]; rfl)
          have HC := fun w => (HAS 32 w).out
          simp only [hq] at HC
          clear hq
          go_wp2_with (go_at_call_of 9 (Value.int .i64 32); refine (HC _).mono ?_; rintro e w1 ⟨rfl, rfl⟩)
          clear HC
          go_wp2_with fail
          go_ret
          have HF : At w _ _ _ _ (flagL t fl) := HA8.out.of_eq (by unfold flagL; rw [HN1.out, HN4.out, HN8.out, HN32.out] <;> rfl)
          exact ⟨_, _, _, rfl, HF.num, HF.own, HF.bel⟩
        | true =>
          have HN32 : Hid (p32 t fl = [⟨#[80, 82, 73, 79, 82, 73, 84, 89]⟩]) := hide (by unfold p32; rw [hq]; rfl)
          have HC := fun w => (HAS 32 w).out
          simp only [hq] at HC
          clear hq
          go_wp2_with (first | (go_at_call_of 9 (Value.int .i64 32); refine (HC _).mono ?_; rintro e w1 ⟨rfl, rfl⟩) | (at_builtin; go_loud (refine wpList_push rfl (.tmp 36) (.tmp 37) 26 rfl w.heap.size 9 info9 rfl Tryd.underlying26 _ _ _ _ _ rfl HA8.out.own _ rfl rfl rfl (by unfold maxLen; omega) (by omega) HA8.out.bel.size ?_)))
          intro g32 c32 w32 hown1 hg1
          have HA32 := hide (HA8.out.push (by omega) hown1 hg1)
          clear hown1 hg1 HC
          go_wp2_with fail
          go_ret
          have HF : At w _ _ _ _ (flagL t fl) := HA32.out.of_eq (by unfold flagL; rw [HN1.out, HN4.out, HN8.out, HN32.out] <;> rfl)
          exact ⟨_, _, _, rfl, HF.num, HF.own, HF.bel⟩
  | true =>
    have HU := has_uses hq
    have HP : p1 t fl = [firstS t] := by unfold p1; rw [hq]; rfl
    rw [first_used HU] at HP
    have HC := fun w => (HAS 1 w).out
    simp only [hq] at HC
    clear hq HU
    rcases three t with h0 | h0 | ⟨h0, h1⟩
    · have HN1 : Hid (p1 t fl = [⟨#[69, 78, 68, 95, 83, 84, 82, 69, 65, 77]⟩]) := hide (by rw [HP, h0]; rfl)
      clear HP
      go_wp2_with (first | (go_at_call_of 9 (Value.int .i64 1); refine (HC _).mono ?_; rintro e w1 ⟨rfl, rfl⟩) | (at_builtin; go_loud (refine wpList_push rfl (.tmp 15) (.tmp 16) 26 rfl w.heap.size 9 info9 rfl Tryd.underlying26 _ _ _ _ _ rfl HA0.out.own _ rfl rfl rfl (by unfold maxLen; omega) (by omega) HA0.out.bel.size ?_)))
      intro g1 c1 w1 hown1 hg1
      have HA1 := hide (HA0.out.push (by omega) hown1 hg1)
      clear hown1 hg1 HC
      cases hq : hasB t fl 4 with
      | false =>
        have HN4 : Hid (p4 t fl = []) := hide (by unfold p4; rw [hq]; rfl)
        have HC := fun w => (HAS 4 w).out
        simp only [hq] at HC
        clear hq
        go_wp2_with (go_at_call_of 9 (Value.int .i64 4); refine (HC _).mono ?_; rintro e w1 ⟨rfl, rfl⟩)
        clear HC
        cases hq : hasB t fl 8 with
        | false =>
          have HN8 : Hid (p8 t fl = []) := hide (by unfold p8; rw [hq]; rfl)
          have HC := fun w => (HAS 8 w).out
          simp only [hq] at HC
          clear hq
          go_wp2_with (go_at_call_of 9 (Value.int .i64 8); refine (HC _).mono ?_; rintro e w1 ⟨rfl, rfl⟩)
          clear HC
          cases hq : hasB t fl 32 with
          | false =>
            have HN32 : Hid (p32 t fl = []) := hide (by unfold p32; rw [hq]; rfl)
            have HC := fun w => (HAS 32 w).out
            simp only [hq] at HC
            clear hq
            go_wp2_with (go_at_call_of 9 (Value.int .i64 32); refine (HC _).mono ?_; rintro e w1 ⟨rfl, rfl⟩)
            clear HC
            go_wp2_with fail
            go_ret
            have HF : At w _ _ _ _ (flagL t fl) := HA1.out.of_eq (by unfold flagL; rw [HN1.out, HN4.out, HN8.out, HN32.out] <;> rfl)
            exact ⟨_, _, _, rfl, HF.num, HF.own, HF.bel⟩
          | true =>
            have HN32 : Hid (p32 t fl = [⟨#[80, 82, 73, 79, 82, 73, 84, 89]⟩]) := hide (by unfold p32; rw [hq]; rfl)
            have HC := fun w => (HAS 32 w).out
            simp only [hq] at HC
            clear hq
            go_wp2_with (first | (go_at_call_of 9 (Value.int .i64 32); refine (HC _).mono ?_; rintro e w1 ⟨rfl, rfl⟩) | (at_builtin; go_loud (refine wpList_push rfl (.tmp 36) (.tmp 37) 26 rfl w.heap.size 9 info9 rfl Tryd.underlying26 _ _ _ _ _ rfl HA1.out.own _ rfl rfl rfl (by unfold maxLen; omega) (by omega) HA1.out.bel.size ?_)))
            intro g32 c32 w32 hown1 hg1
            have HA32 := hide (HA1.out.push (by omega) hown1 hg1)
            clear hown1 hg1 HC
            go_wp2_with fail
            go_ret
            have HF : At w _ _ _ _ (flagL t fl) := HA32.out.of_eq (by unfold flagL; rw [HN1.out, HN4.out, HN8.out, HN32.out] <;> rfl)
            exact ⟨_, _, _, rfl, HF.num, HF.own, HF.bel⟩
        | true =>
          have HN8 : Hid (p8 t fl = [⟨#[80, 65, 68, 68, 69, 68]⟩]) := hide (by unfold p8; rw [hq]; rfl)
          have HC := fun w => (HAS 8 w).out
          simp only [hq] at HC
          clear hq
          go_wp2_with (first | (go_at_call_of 9 (Value.int .i64 8); refine (HC _).mono ?_; rintro e w1 ⟨rfl, rfl⟩) | (at_builtin; go_loud (refine wpList_push rfl (.tmp 30) (.tmp 31) 26 rfl w.heap.size 9 info9 rfl Tryd.underlying26 _ _ _ _ _ rfl HA1.out.own _ rfl rfl rfl (by unfold maxLen; omega) (by omega) HA1.out.bel.size ?_)))
          intro g8 c8 w8 hown1 hg1
          have HA8 := hide (HA1.out.push (by omega) hown1 hg1)
          clear hown1 hg1 HC
          cases hq : hasB t fl 32 with
          | false =>
            have HN32 : Hid (p32 t fl = []) := hide (by unfold p32; rw [hq]; rfl)
            have HC := fun w => (HAS 32 w).out
            simp only [hq] at HC
            clear hq
            go_wp2_with (go_at_call_of 9 (Value.int .i64 32); refine (HC _).mono ?_; rintro e w1 ⟨rfl, rfl⟩)
            clear HC
            go_wp2_with fail
            go_ret
            have HF : At w _ _ _ _ (flagL t fl) := HA8.out.of_eq (by unfold flagL; rw [HN1.out, HN4.out, HN8.out, HN32.out] <;> rfl)
            exact ⟨_, _, _, rfl, HF.num, HF.own, HF.bel⟩
          | true =>
            have HN32 : Hid (p32 t fl = [⟨#[80, 82, 73, 79, 82, 73, 84, 89]⟩]) := hide (by unfold p32; rw [hq]; rfl)
            have HC := fun w => (HAS 32 w).out
            simp only [hq] at HC
            clear hq
            go_wp2_with (first | (go_at_call_of 9 (Value.int .i64 32); refine (HC _).mono ?_; rintro e w1 ⟨rfl, rfl⟩) | (at_builtin; go_loud (refine wpList_push rfl (.tmp 36) (.tmp 37) 26 rfl w.heap.size 9 info9 rfl Tryd.underlying26 _ _ _ _ _ rfl HA8.out.own _ rfl rfl rfl (by unfold maxLen; omega) (by omega) HA8.out.bel.size ?_)))
            intro g32 c32 w32 hown1 hg1
            have HA32 := hide (HA8.out.push (by omega) hown1 hg1)
            clear hown1 hg1 HC
            go_wp2_with fail
            go_ret
            have HF : At w _ _ _ _ (flagL t fl) := HA32.out.of_eq (by unfold flagL; rw [HN1.out, HN4.out, HN8.out, HN32.out] <;> rfl)
            exact ⟨_, _, _, rfl, HF.num, HF.own, HF.bel⟩
      | true =>
        have HN4 : Hid (p4 t fl = [⟨#[69, 78, 68, 95, 72, 69, 65, 68, 69, 82, 83]⟩]) := hide (by unfold p4; rw [hq]; rfl)
        have HC := fun w => (HAS 4 w).out
        simp only [hq] at HC
        clear hq
        go_wp2_with (first | (go_at_call_of 9 (Value.int .i64 4); refine (HC _).mono ?_; rintro e w1 ⟨rfl, rfl⟩) | (at_builtin; go_loud (refine wpList_push rfl (.tmp 24) (.tmp 25) 26 rfl w.heap.size 9 info9 rfl Tryd.underlying26 _ _ _ _ _ rfl HA1.out.own _ rfl rfl rfl (by unfold maxLen; omega) (by omega) HA1.out.bel.size ?_)))
        intro g4 c4 w4 hown1 hg1
        have HA4 := hide (HA1.out.push (by omega) hown1 hg1)
        clear hown1 hg1 HC
        cases hq : hasB t fl 8 with
        | false =>
          have HN8 : Hid (p8 t fl = []) := hide (by unfold p8; rw [hq]; rfl)
          have HC := fun w => (HAS 8 w).out
          simp only [hq] at HC
          clear hq
          go_wp2_with (go_at_call_of 9 (Value.int .i64 8); refine (HC _).mono ?_; rintro e w1 ⟨rfl, rfl⟩)
          clear HC
          cases hq : hasB t fl 32 with
          | false =>
            have HN32 : Hid (p32 t fl = []) := hide (by unfold p32; rw [hq]; rfl)
            have HC := fun w => (HAS 32 w).out
            simp only [hq] at HC
            clear hq
            go_wp2_with (go_at_call_of 9 (Value.int .i64 32); refine (HC _).mono ?_; rintro e w1 ⟨rfl, rfl⟩)
            clear HC
            go_wp2_with fail
            go_ret
            have HF : At w _ _ _ _ (flagL t fl) := HA4.out.of_eq (by unfold flagL; rw [HN1.out, HN4.out, HN8.out, HN32.out] <;> rfl)
            exact ⟨_, _, _, rfl, HF.num, HF.own, HF.bel⟩
          | true =>
            have HN32 : Hid (p32 t fl = [⟨#[80, 82, 73, 79, 82, 73, 84, 89]⟩]) := hide (by unfold p32; rw [hq]; rfl)
            have HC := fun w => (HAS 32 w).out
            simp only [hq] at HC
            clear hq
            go_wp2_with (first | (go_at_call_of 9 (Value.int .i64 32); refine (HC _).mono ?_; rintro e w1 ⟨rfl, rfl⟩) | (at_builtin; go_loud (refine wpList_push rfl (.tmp 36) (.tmp 37) 26 rfl w.heap.size 9 info9 rfl Tryd.underlying26 _ _ _ _ _ rfl HA4.out.own _ rfl rfl rfl (by unfold maxLen; omega) (by omega) HA4.out.bel.size ?_)))
            intro g32 c32 w32 hown1 hg1
            have HA32 := hide (HA4.out.push (by omega) hown1 hg1)
            clear hown1 hg1 HC
            go_wp2_with fail
            go_ret
            have HF : At w _ _ _ _ (flagL t fl) := HA32.out.of_eq (by unfold flagL; rw [HN1.out, HN4.out, HN8.out, HN32.out] <;> rfl)
            exact ⟨_, _, _, rfl, HF.num, HF.own, HF.bel⟩
        | true =>
          have HN8 : Hid (p8 t fl = [⟨#[80, 65, 68, 68, 69, 68]⟩]) := hide (by unfold p8; rw [hq]; rfl)
          have HC := fun w => (HAS 8 w).out
          simp only [hq] at HC
          clear hq
          go_wp2_with (first | (go_at_call_of 9 (Value.int .i64 8); refine (HC _).mono ?_; rintro e w1 ⟨rfl, rfl⟩) | (at_builtin; go_loud (refine wpList_push rfl (.tmp 30) (.tmp 31) 26 rfl w.heap.size 9 info9 rfl Tryd.underlying26 _ _ _ _ _ rfl HA4.out.own _ rfl rfl rfl (by unfold maxLen; omega) (by omega) HA4.out.bel.size ?_)))
          intro g8 c8 w8 hown1 hg1
          have HA8 := hide (HA4.out.push (by omega) hown1 hg1)
          clear hown1 hg1 HC
          cases hq : hasB t fl 32 with
          | false =>
            have HN32 : Hid (p32 t fl = []) := hide (by unfold p32; rw [hq]; rfl)
            have HC := fun w => (HAS 32 w).out
            simp only [hq] at HC
            clear hq
            go_wp2_with (go_at_call_of 9 (Value.int .i64 32); refine (HC _).mono ?_; rintro e w1 ⟨rfl, rfl⟩)
            clear HC
            go_wp2_with fail
            go_ret
            have HF : At w _ _ _ _ (flagL t fl) := HA8.out.of_eq (by unfold flagL; rw [HN1.out, HN4.out, HN8.out, HN32.out] <;> rfl)
            exact ⟨_, _, _, rfl, HF.num, HF.own, HF.bel⟩
          | true =>
            have HN32 : Hid (p32 t fl = [⟨#[80, 82, 73, 79, 82, 73, 84, 89]⟩]) := hide (by unfold p32; rw [hq]; rfl)
            have HC := fun w => (HAS 32 w).out
            simp only [hq] at HC
            clear hq
            go_wp2_with (first | (go_at_call_of 9 (Value.int .i64 32); refine (HC _).mono ?_; rintro e w1 ⟨rfl, rfl⟩) | (at_builtin; go_loud (refine wpList_push rfl (.tmp 36) (.tmp 37) 26 rfl w.heap.size 9 info9 rfl Tryd.underlying26 _ _ _ _ _ rfl HA8.out.own _ rfl rfl rfl (by unfold maxLen; omega) (by omega) HA8.out.bel.size ?_)))
            intro g32 c32 w32 hown1 hg1
            have HA32 := hide (HA8.out.push (by omega) hown1 hg1)
            clear hown1 hg1 HC
            go_wp2_with fail
            go_ret
            have HF : At w _ _ _ _ (flagL t fl) := HA32.out.of_eq (by unfold flagL; rw [HN1.out, HN4.out, HN8.out, HN32.out] <;> rfl)
            exact ⟨_, _, _, rfl, HF.num, HF.own, HF.bel⟩
    · have HN1 : Hid (p1 t fl = [⟨#[69, 78, 68, 95, 83, 84, 82, 69, 65, 77]⟩]) := hide (by rw [HP, h0, Bool.or_true]; rfl)
      clear HP
      have h00 : (t == 0) = false := by have := beq_iff_eq.1 h0; subst this; rfl
      go_wp2_with (first | (go_at_call_of 9 (Value.int .i64 1); refine (HC _).mono ?_; rintro e w1 ⟨rfl, rfl⟩) | (at_builtin; go_loud (refine wpList_push rfl (.tmp 15) (.tmp 16) 26 rfl w.heap.size 9 info9 rfl Tryd.underlying26 _ _ _ _ _ rfl HA0.out.own _ rfl rfl rfl (by unfold maxLen; omega) (by omega) HA0.out.bel.size ?_)))
      intro g1 c1 w1 hown1 hg1
      have HA1 := hide (HA0.out.push (by omega) hown1 hg1)
      clear hown1 hg1 HC
      cases hq : hasB t fl 4 with
      | false =>
        have HN4 : Hid (p4 t fl = []) := hide (by unfold p4; rw [hq]; rfl)
        have HC := fun w => (HAS 4 w).out
        simp only [hq] at HC
        clear hq
        go_wp2_with (go_at_call_of 9 (Value.int .i64 4); refine (HC _).mono ?_; rintro e w1 ⟨rfl, rfl⟩)
        clear HC
        cases hq : hasB t fl 8 with
        | false =>
          have HN8 : Hid (p8 t fl = []) := hide (by unfold p8; rw [hq]; rfl)
          have HC := fun w => (HAS 8 w).out
          simp only [hq] at HC
          clear hq
          go_wp2_with (go_at_call_of 9 (Value.int .i64 8); refine (HC _).mono ?_; rintro e w1 ⟨rfl, rfl⟩)
          clear HC
          cases hq : hasB t fl 32 with
          | false =>
            have HN32 : Hid (p32 t fl = []) := hide (by unfold p32; rw [hq]; rfl)
            have HC := fun w => (HAS 32 w).out
            simp only [hq] at HC
            clear hq
            go_wp2_with (go_at_call_of 9 (Value.int .i64 32); refine (HC _).mono ?_; rintro e w1 ⟨rfl, rfl⟩)
            clear HC
            go_wp2_with fail
            go_ret
            have HF : At w _ _ _ _ (flagL t fl) := HA1.out.of_eq (by unfold flagL; rw [HN1.out, HN4.out, HN8.out, HN32.out] <;> rfl)
            exact ⟨_, _, _, rfl, HF.num, HF.own, HF.bel⟩
          | true =>
            have HN32 : Hid (p32 t fl = [⟨#[80, 82, 73, 79, 82, 73, 84, 89]⟩]) := hide (by unfold p32; rw [hq]; rfl)
            have HC := fun w => (HAS 32 w).out
            simp only [hq] at HC
            clear hq
            go_wp2_with (first | (go_at_call_of 9 (Value.int .i64 32); refine (HC _).mono ?_; rintro e w1 ⟨rfl, rfl⟩) | (at_builtin; go_loud (refine wpList_push rfl (.tmp 36) (.tmp 37) 26 rfl w.heap.size 9 info9 rfl Tryd.underlying26 _ _ _ _ _ rfl HA1.out.own _ rfl rfl rfl (by unfold maxLen; omega) (by omega) HA1.out.bel.size ?_)))
            intro g32 c32 w32 hown1 hg1
            have HA32 := hide (HA1.out.push (by omega) hown1 hg1)
            clear hown1 hg1 HC
            go_wp2_with fail
            go_ret
            have HF : At w _ _ _ _ (flagL t fl) := HA32.out.of_eq (by unfold flagL; rw [HN1.out, HN4.out, HN8.out, HN32.out] <;> rfl)
            exact ⟨_, _, _, rfl, HF.num, HF.own, HF.bel⟩
        | true =>
          have HN8 : Hid (p8 t fl = [⟨#[80, 65, 68, 68, 69, 68]⟩]) := hide (by unfold p8; rw [hq]; rfl)
          have HC := fun w => (HAS 8 w).out
          simp only [hq] at HC
          clear hq
          go_wp2_with (first | (go_at_call_of 9 (Value.int .i64 8); refine (HC _).mono ?_; rintro e w1 ⟨rfl, rfl⟩) | (at_builtin; go_loud (refine wpList_push rfl (.tmp 30) (.tmp 31) 26 rfl w.heap.size 9 info9 rfl Tryd.underlying26 _ _ _ _ _ rfl HA1.out.own _ rfl rfl rfl (by unfold maxLen; omega) (by omega) HA1.out.bel.size ?_)))
          intro g8 c8 w8 hown1 hg1
          have HA8 := hide (HA1.out.push (by omega) hown1 hg1)
          clear hown1 hg1 HC
          cases hq : hasB t fl 32 with
          | false =>
            have HN32 : Hid (p32 t fl = []) := hide (by unfold p32; rw [hq]; rfl)
            have HC := fun w => (HAS 32 w).out
            simp only [hq] at HC
            clear hq
            go_wp2_with (go_at_call_of 9 (Value.int .i64 32); refine (HC _).mono ?_; rintro e w1 ⟨rfl, rfl⟩)
            clear HC
            go_wp2_with fail
            go_ret
            have HF : At w _ _ _ _ (flagL t fl) := HA8.out.of_eq (by unfold flagL; rw [HN1.out, HN4.out, HN8.out, HN32.out] <;> rfl)
            exact ⟨_, _, _, rfl, HF.num, HF.own, HF.bel⟩
          | true =>
            have HN32 : Hid (p32 t fl = [⟨#[80, 82, 73, 79, 82, 73, 84, 89]⟩]) := hide (by unfold p32; rw [hq]; rfl)
            have HC := fun w => (HAS 32 w).out
            simp only [hq] at HC
            clear hq
            go_wp2_with (first | (go_at_call_of 9 (Value.int .i64 32); refine (HC _).mono ?_; rintro e w1 ⟨rfl, rfl⟩) | (at_builtin; go_loud (refine wpList_push rfl (.tmp 36) (.tmp 37) 26 rfl w.heap.size 9 info9 rfl Tryd.underlying26 _ _ _ _ _ rfl HA8.out.own _ rfl rfl rfl (by unfold maxLen; omega) (by omega) HA8.out.bel.size ?_)))
            intro g32 c32 w32 hown1 hg1
            have HA32 := hide (HA8.out.push (by omega) hown1 hg1)
            clear hown1 hg1 HC
            go_wp2_with fail
            go_ret
            have HF : At w _ _ _ _ (flagL t fl) := HA32.out.of_eq (by unfold flagL; rw [HN1.out, HN4.out, HN8.out, HN32.out] <;> rfl)
            exact ⟨_, _, _, rfl, HF.num, HF.own, HF.bel⟩
      | true =>
        have HN4 : Hid (p4 t fl = [⟨#[69, 78, 68, 95, 72, 69, 65, 68, 69, 82, 83]⟩]) := hide (by unfold p4; rw [hq]; rfl)
        have HC := fun w => (HAS 4 w).out
        simp only [hq] at HC
        clear hq
        go_wp2_with (first | (go_at_call_of 9 (Value.int .i64 4); refine (HC _).mono ?_; rintro e w1 ⟨rfl, rfl⟩) | (at_builtin; go_loud (refine wpList_push rfl (.tmp 24) (.tmp 25) 26 rfl w.heap.size 9 info9 rfl Tryd.underlying26 _ _ _ _ _ rfl HA1.out.own _ rfl rfl rfl (by unfold maxLen; omega) (by omega) HA1.out.bel.size ?_)))
        intro g4 c4 w4 hown1 hg1
        have HA4 := hide (HA1.out.push (by omega) hown1 hg1)
        clear hown1 hg1 HC
        cases hq : hasB t fl 8 with
        | false =>
          have HN8 : Hid (p8 t fl = []) := hide (by unfold p8; rw [hq]; rfl)
          have HC := fun w => (HAS 8 w).out
          simp only [hq] at HC
          clear hq
          go_wp2_with (go_at_call_of 9 (Value.int .i64 8); refine (HC _).mono ?_; rintro e w1 ⟨rfl, rfl⟩)
          clear HC
          cases hq : hasB t fl 32 with
          | false =>
            have HN32 : Hid (p32 t fl = []) := hide (by unfold p32; rw [hq]; rfl)
            have HC := fun w => (HAS 32 w).out
            simp only [hq] at HC
            clear hq
            go_wp2_with (go_at_call_of 9 (Value.int .i64 32); refine (HC _).mono ?_; rintro e w1 ⟨rfl, rfl⟩)
            clear HC
            go_wp2_with fail
            go_ret
            have HF : At w _ _ _ _ (flagL t fl) := HA4.out.of_eq (by unfold flagL; rw [HN1.out, HN4.out, HN8.out, HN32.out] <;> rfl)
            exact ⟨_, _, _, rfl, HF.num, HF.own, HF.bel⟩
          | true =>
            have HN32 : Hid (p32 t fl = [⟨#[80, 82, 73, 79, 82, 73, 84, 89]⟩]) := hide (by unfold p32; rw [hq]; rfl)
            have HC := fun w => (HAS 32 w).out
            simp only [hq] at HC
            clear hq
            go_wp2_with (first | (go_at_call_of 9 (Value.int .i64 32); refine (HC _).mono ?_; rintro e w1 ⟨rfl, rfl⟩) | (at_builtin; go_loud (refine wpList_push rfl (.tmp 36) (.tmp 37) 26 rfl w.heap.size 9 info9 rfl Tryd.underlying26 _ _ _ _ _ rfl HA4.out.own _ rfl rfl rfl (by unfold maxLen; omega) (by omega) HA4.out.bel.size ?_)))
            intro g32 c32 w32 hown1 hg1
            have HA32 := hide (HA4.out.push (by omega) hown1 hg1)
            clear hown1 hg1 HC
            go_wp2_with fail
            go_ret
            have HF : At w _ _ _ _ (flagL t fl) := HA32.out.of_eq (by unfold flagL; rw [HN1.out, HN4.out, HN8.out, HN32.out] <;> rfl)
            exact ⟨_, _, _, rfl, HF.num, HF.own, HF.bel⟩
        | true =>
          have HN8 : Hid (p8 t fl = [⟨#[80, 65, 68, 68, 69, 68]⟩]) := hide (by unfold p8; rw [hq]; rfl)
          have HC := fun w => (HAS 8 w).out
          simp only [hq] at HC
          clear hq
          go_wp2_with (first | (go_at_call_of 9 (Value.int .i64 8); refine (HC _).mono ?_; rintro e w1 ⟨rfl, rfl⟩) | (at_builtin; go_loud (refine wpList_push rfl (.tmp 30) (.tmp 31) 26 rfl w.heap.size 9 info9 rfl Tryd.underlying26 _ _ _ _ _ rfl HA4.out.own _ rfl rfl rfl (by unfold maxLen; omega) (by omega) HA4.out.bel.size ?_)))
          intro g8 c8 w8 hown1 hg1
          have HA8 := hide (HA4.out.push (by omega) hown1 hg1)
          clear hown1 hg1 HC
          cases hq : hasB t fl 32 with
          | false =>
            have HN32 : Hid (p32 t fl = []) := hide (by unfold p32; rw [hq]; rfl)
            have HC := fun w => (HAS 32 w).out
            simp only [hq] at HC
            clear hq
            go_wp2_with (go_at_call_of 9 (Value.int .i64 32); refine (HC _).mono ?_; rintro e w1 ⟨rfl, rfl⟩)
            clear HC
            go_wp2_with fail
            go_ret
            have HF : At w _ _ _ _ (flagL t fl) := HA8.out.of_eq (by unfold flagL; rw [HN1.out, HN4.out, HN8.out, HN32.out] <;> rfl)
            exact ⟨_, _, _, rfl, HF.num, HF.own, HF.bel⟩
          | true =>
            have HN32 : Hid (p32 t fl = [⟨#[80, 82, 73, 79, 82, 73, 84, 89]⟩]) := hide (by unfold p32; rw [hq]; rfl)
            have HC := fun w => (HAS 32 w).out
            simp only [hq] at HC
            clear hq
            go_wp2_with (first | (go_at_call_of 9 (Value.int .i64 32); refine (HC _).mono ?_; rintro e w1 ⟨rfl, rfl⟩) | (at_builtin; go_loud (refine wpList_push rfl (.tmp 36) (.tmp 37) 26 rfl w.heap.size 9 info9 rfl Tryd.underlying26 _ _ _ _ _ rfl HA8.out.own _ rfl rfl rfl (by unfold maxLen; omega) (by omega) HA8.out.bel.size ?_)))
            intro g32 c32 w32 hown1 hg1
            have HA32 := hide (HA8.out.push (by omega) hown1 hg1)
            clear hown1 hg1 HC
            go_wp2_with fail
            go_ret
            have HF : At w _ _ _ _ (flagL t fl) := HA32.out.of_eq (by unfold flagL; rw [HN1.out, HN4.out, HN8.out, HN32.out] <;> rfl)
            exact ⟨_, _, _, rfl, HF.num, HF.own, HF.bel⟩
    · have HN1 : Hid (p1 t fl = [⟨#[65, 67, 75]⟩]) := hide (by rw [HP, h0, h1]; rfl)
      clear HP
      go_wp2_with (first | (go_at_call_of 9 (Value.int .i64 1); refine (HC _).mono ?_; rintro e w1 ⟨rfl, rfl⟩) | (at_builtin; go_loud (refine wpList_push rfl (.tmp 18) (.tmp 19) 26 rfl w.heap.size 9 info9 rfl Tryd.underlying26 _ _ _ _ _ rfl HA0.out.own _ rfl rfl rfl (by unfold maxLen; omega) (by omega) HA0.out.bel.size ?_)))
      intro g1 c1 w1 hown1 hg1
      have HA1 := hide (HA0.out.push (by omega) hown1 hg1)
      clear hown1 hg1 HC
      cases hq : hasB t fl 4 with
      | false =>
        have HN4 : Hid (p4 t fl = []) := hide (by unfold p4; rw [hq]; rfl)
        have HC := fun w => (HAS 4 w).out
        simp only [hq] at HC
        clear hq
        go_wp2_with (go_at_call_of 9 (Value.int .i64 4); refine (HC _).mono ?_; rintro e w1 ⟨rfl, rfl⟩)
        clear HC
        cases hq : hasB t fl 8 with
        | false =>
          have HN8 : Hid (p8 t fl = []) := hide (by unfold p8; rw [hq]; rfl)
          have HC := fun w => (HAS 8 w).out
          simp only [hq] at HC
          clear hq
          go_wp2_with (go_at_call_of 9 (Value.int .i64 8); refine (HC _).mono ?_; rintro e w1 ⟨rfl, rfl⟩)
          clear HC
          cases hq : hasB t fl 32 with
          | false =>
            have HN32 : Hid (p32 t fl = []) := hide (by unfold p32; rw [hq]; rfl)
            have HC := fun w => (HAS 32 w).out
            simp only [hq] at HC
            clear hq
            go_wp2_with (go_at_call_of 9 (Value.int .i64 32); refine (HC _).mono ?_; rintro e w1 ⟨rfl, rfl⟩)
            clear HC
            go_wp2_with fail
            go_ret
            have HF : At w _ _ _ _ (flagL t fl) := HA1.out.of_eq (by unfold flagL; rw [HN1.out, HN4.out, HN8.out, HN32.out] <;> rfl)
            exact ⟨_, _, _, rfl, HF.num, HF.own, HF.bel⟩
          | true =>
            have HN32 : Hid (p32 t fl = [⟨#[80, 82, 73, 79, 82, 73, 84, 89]⟩]) := hide (by unfold p32; rw [hq]; rfl)
            have HC := fun w => (HAS 32 w).out
            simp only [hq] at HC
            clear hq
            go_wp2_with (first | (go_at_call_of 9 (Value.int .i64 32); refine (HC _).mono ?_; rintro e w1 ⟨rfl, rfl⟩) | (at_builtin; go_loud (refine wpList_push rfl (.tmp 36) (.tmp 37) 26 rfl w.heap.size 9 info9 rfl Tryd.underlying26 _ _ _ _ _ rfl HA1.out.own _ rfl rfl rfl (by unfold maxLen; omega) (by omega) HA1.out.bel.size ?_)))
            intro g32 c32 w32 hown1 hg1
            have HA32 := hide (HA1.out.push (by omega) hown1 hg1)
            clear hown1 hg1 HC
            go_wp2_with fail
            go_ret
            have HF : At w _ _ _ _ (flagL t fl) := HA32.out.of_eq (by unfold flagL; rw [HN1.out, HN4.out, HN8.out, HN32.out] <;> rfl)
            exact ⟨_, _, _, rfl, HF.num, HF.own, HF.bel⟩
        | true =>
          have HN8 : Hid (p8 t fl = [⟨#[80, 65, 68, 68, 69, 68]⟩]) := hide (by unfold p8; rw [hq]; rfl)
          have HC := fun w => (HAS 8 w).out
          simp only [hq] at HC
          clear hq
          go_wp2_with (first | (go_at_call_of 9 (Value.int .i64 8); refine (HC _).mono ?_; rintro e w1 ⟨rfl, rfl⟩) | (at_builtin; go_loud (refine wpList_push rfl (.tmp 30) (.tmp 31) 26 rfl w.heap.size 9 info9 rfl Tryd.underlying26 _ _ _ _ _ rfl HA1.out.own _ rfl rfl rfl (by unfold maxLen; omega) (by omega) HA1.out.bel.size ?_)))
          intro g8 c8 w8 hown1 hg1
          have HA8 := hide (HA1.out.push (by omega) hown1 hg1)
          clear hown1 hg1 HC
          cases hq : hasB t fl 32 with
          | false =>
            have HN32 : Hid (p32 t fl = []) := hide (by unfold p32; rw [hq]; rfl)
            have HC := fun w => (HAS 32 w).out
            simp only [hq] at HC
            clear hq
            go_wp2_with (go_at_call_of 9 (Value.int .i64 32); refine (HC _).mono ?_; rintro e w1 ⟨rfl, rfl⟩)
            clear HC
            go_wp2_with fail
            go_ret
            have HF : At w _ _ _ _ (flagL t fl) := HA8.out.of_eq (by unfold flagL; rw [HN1.out, HN4.out, HN8.out, HN32.out] <;> rfl)
            exact ⟨_, _, _, rfl, HF.num, HF.own, HF.bel⟩
          | true =>
            have HN32 : Hid (p32 t fl = [⟨#[80, 82, 73, 79, 82, 73, 84, 89]⟩]) := hide (by unfold p32; rw [hq]; rfl)
            have HC := fun w => (HAS 32 w).out
            simp only [hq] at HC
            clear hq
            go_wp2_with (first | (go_at_call_of 9 (Value.int .i64 32); refine (HC _).mono ?_; rintro e w1 ⟨rfl, rfl⟩) | (at_builtin; go_loud (refine wpList_push rfl (.tmp 36) (.tmp 37) 26 rfl w.heap.size 9 info9 rfl Tryd.underlying26 _ _ _ _ _ rfl HA8.out.own _ rfl rfl rfl (by unfold maxLen; omega) (by omega) HA8.out.bel.size ?_)))
            intro g32 c32 w32 hown1 hg1
            have HA32 := hide (HA8.out.push (by omega) hown1 hg1)
            clear hown1 hg1 HC
            go_wp2_with fail
            go_ret
            have HF : At w _ _ _ _ (flagL t fl) := HA32.out.of_eq (by unfold flagL; rw [HN1.out, HN4.out, HN8.out, HN32.out] <;> rfl)
            exact ⟨_, _, _, rfl, HF.num, HF.own, HF.bel⟩
      | true =>
        have HN4 : Hid (p4 t fl = [⟨#[69, 78, 68, 95, 72, 69, 65, 68, 69, 82, 83]⟩]) := hide (by unfold p4; rw [hq]; rfl)
        have HC := fun w => (HAS 4 w).out
        simp only [hq] at HC
        clear hq
        go_wp2_with (first | (go_at_call_of 9 (Value.int .i64 4); refine (HC _).mono ?_; rintro e w1 ⟨rfl, rfl⟩) | (at_builtin; go_loud (refine wpList_push rfl (.tmp 24) (.tmp 25) 26 rfl w.heap.size 9 info9 rfl Tryd.underlying26 _ _ _ _ _ rfl HA1.out.own _ rfl rfl rfl (by unfold maxLen; omega) (by omega) HA1.out.bel.size ?_)))
        intro g4 c4 w4 hown1 hg1
        have HA4 := hide (HA1.out.push (by omega) hown1 hg1)
        clear hown1 hg1 HC
        cases hq : hasB t fl 8 with
        | false =>
          have HN8 : Hid (p8 t fl = []) := hide (by unfold p8; rw [hq]; rfl)
          have HC := fun w => (HAS 8 w).out
          simp only [hq] at HC
          clear hq
          go_wp2_with (go_at_call_of 9 (Value.int .i64 8); refine (HC _).mono ?_; rintro e w1 ⟨rfl, rfl⟩)
          clear HC
          cases hq : hasB t fl 32 with
          | false =>
            have HN32 : Hid (p32 t fl = []) := hide (by unfold p32; rw [hq]; rfl)
            have HC := fun w => (HAS 32 w).out
            simp only [hq] at HC
            clear hq
            go_wp2_with (go_at_call_of 9 (Value.int .i64 32); refine (HC _).mono ?_; rintro e w1 ⟨rfl, rfl⟩)
            clear HC
            go_wp2_with fail
            go_ret
            have HF : At w _ _ _ _ (flagL t fl) := HA4.out.of_eq (by unfold flagL; rw [HN1.out, HN4.out, HN8.out, HN32.out] <;> rfl)
            exact ⟨_, _, _, rfl, HF.num, HF.own, HF.bel⟩
          | true =>
            have HN32 : Hid (p32 t fl = [⟨#[80, 82, 73, 79, 82, 73, 84, 89]⟩]) := hide (by unfold p32; rw [hq]; rfl)
            have HC := fun w => (HAS 32 w).out
            simp only [hq] at HC
            clear hq
            go_wp2_with (first | (go_at_call_of 9 (Value.int .i64 32); refine (HC _).mono ?_; rintro e w1 ⟨rfl, rfl⟩) | (at_builtin; go_loud (refine wpList_push rfl (.tmp 36) (.tmp 37) 26 rfl w.heap.size 9 info9 rfl Tryd.underlying26 _ _ _ _ _ rfl HA4.out.own _ rfl rfl rfl (by unfold maxLen; omega) (by omega) HA4.out.bel.size ?_)))
            intro g32 c32 w32 hown1 hg1
            have HA32 := hide (HA4.out.push (by omega) hown1 hg1)
            clear hown1 hg1 HC
            go_wp2_with fail
            go_ret
            have HF : At w _ _ _ _ (flagL t fl) := HA32.out.of_eq (by unfold flagL; rw [HN1.out, HN4.out, HN8.out, HN32.out] <;> rfl)
            exact ⟨_, _, _, rfl, HF.num, HF.own, HF.bel⟩
        | true =>
          have HN8 : Hid (p8 t fl = [⟨#[80, 65, 68, 68, 69, 68]⟩]) := hide (by unfold p8; rw [hq]; rfl)
          have HC := fun w => (HAS 8 w).out
          simp only [hq] at HC
          clear hq
          go_wp2_with (first | (go_at_call_of 9 (Value.int .i64 8); refine (HC _).mono ?_; rintro e w1 ⟨rfl, rfl⟩) | (at_builtin; go_loud (refine wpList_push rfl (.tmp 30) (.tmp 31) 26 rfl w.heap.size 9 info9 rfl Tryd.underlying26 _ _ _ _ _ rfl HA4.out.own _ rfl rfl rfl (by unfold maxLen; omega) (by omega) HA4.out.bel.size ?_)))
          intro g8 c8 w8 hown1 hg1
          have HA8 := hide (HA4.out.push (by omega) hown1 hg1)
          clear hown1 hg1 HC
          cases hq : hasB t fl 32 with
          | false =>
            have HN32 : Hid (p32 t fl = []) := hide (by unfold p32; rw [hq]; rfl)
            have HC := fun w => (HAS 32 w).out
            simp only [hq] at HC
            clear hq
            go_wp2_with (go_at_call_of 9 (Value.int .i64 32); refine (HC _).mono ?_; rintro e w1 ⟨rfl, rfl⟩)
            clear HC
            go_wp2_with fail
            go_ret
            have HF : At w _ _ _ _ (flagL t fl) := HA8.out.of_eq (by unfold flagL; rw [HN1.out, HN4.out, HN8.out, HN32.out] <;> rfl)
            exact ⟨_, _, _, rfl, HF.num, HF.own, HF.bel⟩
          | true =>
            have HN32 : Hid (p32 t fl = [⟨#[80, 82, 73, 79, 82, 73, 84, 89]⟩]) := hide (by unfold p32; rw [hq]; rfl)
            have HC := fun w => (HAS 32 w).out
            simp only [hq] at HC
            clear hq
            go_wp2_with (first | (go_at_call_of 9 (Value.int .i64 32); refine (HC _).mono ?_; rintro e w1 ⟨rfl, rfl⟩) | (at_builtin; go_loud (refine wpList_push rfl (.tmp 36) (.tmp 37) 26 rfl w.heap.size 9 info9 rfl Tryd.underlying26 _ _ _ _ _ rfl HA8.out.own _ rfl rfl rfl (by unfold maxLen; omega) (by omega) HA8.out.bel.size ?_)))
            intro g32 c32 w32 hown1 hg1
            have HA32 := hide (HA8.out.push (by omega) hown1 hg1)
            clear hown1 hg1 HC
            go_wp2_with fail
            go_ret
            have HF : At w _ _ _ _ (flagL t fl) := HA32.out.of_eq (by unfold flagL; rw [HN1.out, HN4.out, HN8.out, HN32.out] <;> rfl)
            exact ⟨_, _, _, rfl, HF.num, HF.own, HF.bel⟩

theorem known_any (t : Int) (w : World) : Calls Tryd.prog 20 #[.int .i64 t] w fun e w' => e = .returned (.bool (decide (0 ≤ t) && decide (t ≤ 9))) ∧ w = w' := by
  by_cases h0 : 0 ≤ t
  · have HZ := hide h0
    go_enter Tryd.func20, Tryd.ntmps20
    go_wp2_with fail
    go_ret
    refine ⟨ret_bool ?_, rfl⟩
    simp [HZ.out]
  · have HZ : Hid (decide (0 ≤ t) = false) := hide (by simpa using h0)
    have hlt : t < 0 := by omega
    clear h0
    go_enter Tryd.func20, Tryd.ntmps20
    go_wp2_with fail
    go_ret
    refine ⟨ret_bool ?_, rfl⟩
    rw [HZ.out]; rfl
theorem text_small (i : Nat) (hi : i < 100) (w : World) : Calls Tryd.prog 22 #[.int .i64 (i : Nat)] w fun e w' => e = .returned (.string ⟨(Lib.decDigits i).toArray⟩) ∧ w = w' := by
  have hc := Tryd.strconv_Itoa_small i hi w
  clear hi
  go_enter Tryd.func22, Tryd.ntmps22
  go_wp2_with (go_at_call 25; refine hc.mono ?_; rintro e w1 ⟨rfl, rfl⟩)
  go_wp2_with fail
  go_ret
  exact ⟨rfl, rfl⟩
theorem name11 (w : World) : Calls Tryd.prog 16 #[.int .i64 11] w fun e w' => e = .returned (.string ⟨#[84, 89, 80, 69, 95, 49, 49]⟩) ∧ w = w' := by
  have hk := known_any 11 w
  rw [show (decide ((0 : Int) ≤ 11) && decide ((11 : Int) ≤ 9)) = false from by decide] at hk
  have hc := text_small 11 (by decide) w
  rw [show (Lib.decDigits 11).toArray = #[49, 49] from by decide +kernel] at hc
  go_enter Tryd.func16, Tryd.ntmps16
  go_wp2_with (first | (go_at_call 20; refine hk.mono ?_; rintro e w1 ⟨rfl, rfl⟩) | (go_at_call 22; refine hc.mono ?_; rintro e w1 ⟨rfl, rfl⟩))
  go_wp2_with fail
  go_ret
  exact ⟨rfl, rfl⟩
end Go.Proofs.YtjpjcbdaacifgaaDoor
