/- Contracts: Same of lists of strings, first, Flags, the reference's Flags. -/
import Derived.Test.YtjpjcbdaacifgaaDoorL
namespace Go.Proofs.YtjpjcbdaacifgaaDoor
open Go.RowKit
set_option linter.unusedSimpArgs false

theorem info9 : (Tryd.prog.info? 9).map (fun i => (i.zero, i.size, i.bytes)) = some (some (.string ⟨#[]⟩), 1, 16) := by kernel_rfl
def strs (l : List ByteArray) : List Value := l.map Value.string

set_option maxRecDepth 10000 in
theorem same04 (A B : Option Addr) (n c d : Nat) (xs : List ByteArray) (w : World) (hl : xs.length = n) (hn : n ≤ 1000) (hs : Sees w A (strs xs)) (ht : Sees w B (strs xs)) :
    Calls Tryd.prog 10 #[.slice A n c, .slice B n d] w fun e w' => e = .returned (.bool true) ∧ Below w.heap.size w w' := by
  have HL := hide hl
  have HA := hide hs
  have HB := hide ht
  clear hl hs ht
  go_enter Tryd.func10, Tryd.ntmps10
  go_wp2_with fail
  go_loopw [5] (fun i wr => ∃ k : Nat, k ≤ n ∧ i = .int .i64 k ∧ Hid (Below w.heap.size w wr)) (fun i _ => n - (intOf i).toNat)
  case atStart => exact ⟨0, Nat.zero_le _, rfl, hide (Below.refl _ _)⟩
  case round =>
    obtain ⟨k, hk, rfl, HW⟩ := hrel
    by_cases hlt : k < n
    · have hkl : k < xs.length := by have := HL.out; omega
      obtain ⟨y, hy⟩ : ∃ y, xs[k] = y := ⟨_, rfl⟩
      have hu : (strs xs)[k]? = some (.string y) := by unfold strs; rw [List.getElem?_map, List.getElem?_eq_getElem hkl, hy]; rfl
      obtain ⟨b, o, rfl, hc⟩ := (HA.out.kept HW.out) k _ hu
      obtain ⟨b', o', rfl, hc'⟩ := (HB.out.kept HW.out) k _ hu
      have i1 : (k : Int) < (n : Int) := by omega
      have i3 : (0 : Int) ≤ (k : Int) := by omega
      clear hy hu hkl
      go_wp2_with fail
      go_quiet (fail)
      go_wp2_with fail
      go_roundw
      case rel => exact ⟨k + 1, by omega, by go_num, hide (below_drewN HW.out _)⟩
      case measure => simp [intOf]; omega
    · go_wp2_with fail
      go_ret
      exact ⟨rfl, HW.out⟩

def firstS (t : Int) : ByteArray := if t == 4 || t == 6 || t == 7 then ⟨#[65, 67, 75]⟩ else ⟨#[69, 78, 68, 95, 83, 84, 82, 69, 65, 77]⟩
theorem first_any (t : Int) (w : World) : Calls Tryd.prog 21 #[.int .i64 t] w fun e w' => e = .returned (.string (firstS t)) ∧ w = w' := by
  have hc := streams_any t w
  cases hq : (t == 4 || t == 6 || t == 7) with
  | true =>
    have HZ : Hid (firstS t = ⟨#[65, 67, 75]⟩) := hide (by simp only [firstS, hq]; rfl)
    rw [show streamsN t = 0 from by simp only [streamsN, hq]; rfl] at hc
    clear hq
    go_enter Tryd.func21, Tryd.ntmps21
    go_wp2_with (go_at_call 14; refine hc.mono ?_; rintro e w1 ⟨rfl, rfl⟩)
    go_wp2_with fail
    go_ret
    exact ⟨by rw [HZ.out]; rfl, rfl⟩
  | false =>
    have HZ : Hid (firstS t = ⟨#[69, 78, 68, 95, 83, 84, 82, 69, 65, 77]⟩) := hide (by simp only [firstS, hq]; rfl)
    obtain ⟨q, hq2, hq3⟩ : ∃ q : Int, streamsN t = q ∧ (q == 0) = false := ⟨_, rfl, by simp only [streamsN, hq]; split <;> first | (next h => cases h) | (split <;> rfl)⟩
    rw [hq2] at hc
    clear hq hq2
    go_enter Tryd.func21, Tryd.ntmps21
    go_wp2_with (go_at_call 14; refine hc.mono ?_; rintro e w1 ⟨rfl, rfl⟩)
    go_wp2_with fail
    go_ret
    exact ⟨by rw [HZ.out]; rfl, rfl⟩

/-- The names of a type's flags. -/
def p1 (t fl : Int) : List ByteArray := if hasB t fl 1 then [firstS t] else []
def p4 (t fl : Int) : List ByteArray := if hasB t fl 4 then [⟨#[69, 78, 68, 95, 72, 69, 65, 68, 69, 82, 83]⟩] else []
def p8 (t fl : Int) : List ByteArray := if hasB t fl 8 then [⟨#[80, 65, 68, 68, 69, 68]⟩] else []
def p32 (t fl : Int) : List ByteArray := if hasB t fl 32 then [⟨#[80, 82, 73, 79, 82, 73, 84, 89]⟩] else []
def q1 (t fl : Int) := p1 t fl
def q4 (t fl : Int) := p1 t fl ++ p4 t fl
def q8 (t fl : Int) := p1 t fl ++ p4 t fl ++ p8 t fl
def flagL (t fl : Int) := p1 t fl ++ p4 t fl ++ p8 t fl ++ p32 t fl
theorem strs_snoc (l : List ByteArray) (s : ByteArray) : strs (l ++ [s]) = strs l ++ [.string s] := by simp [strs]
theorem has2 (t fl : Int) : hasB t fl 2 = false ∧ hasB t fl 16 = false := ⟨rfl, rfl⟩
theorem first_used {t : Int} (h : usesB t 1 = true) : firstS t = if t == 0 || t == 1 then ⟨#[69, 78, 68, 95, 83, 84, 82, 69, 65, 77]⟩ else ⟨#[65, 67, 75]⟩ := by
  rcases ten t with rfl | rfl | rfl | rfl | rfl | rfl | rfl | rfl | rfl | rfl | ⟨h0, h1, h2, h3, h4, h5, h6, h7, h8, h9⟩
  all_goals first | rfl | (exact absurd h (by decide)) | (simp [usesB, h0, h1, h4, h6] at h)
theorem has_uses {t fl f : Int} (h : hasB t fl f = true) : usesB t f = true := by
  unfold hasB at h
  simp at h
  exact h.1
theorem flag_len (t fl : Int) : (flagL t fl).length ≤ 4 := by
  unfold flagL p1 p4 p8 p32
  simp only [List.length_append]
  split <;> split <;> split <;> split <;> simp

/-- What a function says that gives a list of strings of its own. -/
def SPost (l : List ByteArray) (w : World) (e : Ending) (w' : World) : Prop :=
  ∃ A n c, e = .returned (.slice A n c) ∧ n = l.length ∧ w'.ownsRow w.heap.size 9 1 (.slice A n c) n (strs l) ∧ Below w.heap.size w w'
/-- What is known in the midst. -/
structure At (w wr : World) (A : Option Addr) (n c : Nat) (l : List ByteArray) : Prop where
  num : n = l.length
  le : n ≤ 4
  own : wr.ownsRow w.heap.size 9 1 (.slice A n c) n (strs l)
  bel : Below w.heap.size w wr
theorem At.nil (w : World) : At w w none 0 0 [] := ⟨rfl, by decide, World.ownsRow_nil _ _ _ _, Below.refl _ _⟩
theorem At.push {w wr w1 : World} {A : Option Addr} {n c g c' : Nat} {l : List ByteArray} {s : ByteArray} {t : TypeId} (h : At w wr A n c l) (hn : n ≤ 3) (ho : w1.ownsRow w.heap.size 9 1 (.slice (some ⟨g, 0, none⟩) (n + 1) c') (n + 1) (strs l ++ [.string s]))
    (hg : (wr.alloc (.cells #[.string s] t)).grownBy w1 (Value.slice A n c).ownBlock) : At w w1 (some ⟨g, 0, none⟩) (n + 1) c' (l ++ [s]) :=
  ⟨by rw [List.length_append, h.num]; rfl, by omega, by rw [strs_snoc]; exact ho, (h.bel.alloc h.bel.size _).grown hg (by have := h.bel.size; simp; omega) (fun j hj => own_row_ge h.own j hj)⟩

set_option maxRecDepth 10000 in
set_option maxHeartbeats 2000000 in
theorem flags_any (t fl : Int) (w : World) (h1 : fl ≤ 9223372036854775807) : Calls Tryd.prog 11 #[.int .i64 t, .int .i64 fl] w (SPost (flagL t fl) w) := by
  have HAS : ∀ f w, Hid (Calls Tryd.prog 8 #[.int .i64 t, .int .i64 fl, .int .i64 f] w fun e w' => e = .returned (.bool (hasB t fl f)) ∧ w = w') := fun f w => hide (has_any t fl f w h1)
  clear h1
  go_enter Tryd.func11, Tryd.ntmps11
  go_wp2_with fail
  go_loopw [5, 6] (fun ov fv wr => ∃ (A : Option Addr) (n c : Nat), ov = .slice A n c ∧ Hid ((fv = .int .i64 1 ∧ At w wr A n c []) ∨ (fv = .int .i64 2 ∧ At w wr A n c (q1 t fl)) ∨ (fv = .int .i64 4 ∧ At w wr A n c (q1 t fl)) ∨ (fv = .int .i64 8 ∧ At w wr A n c (q4 t fl)) ∨ (fv = .int .i64 16 ∧ At w wr A n c (q8 t fl)) ∨ (fv = .int .i64 32 ∧ At w wr A n c (q8 t fl)) ∨ (fv = .int .i64 64 ∧ At w wr A n c (flagL t fl)))) (fun _ fv _ => 64 - (intOf fv).toNat)
  case atStart => exact ⟨none, 0, 0, rfl, hide (.inl ⟨rfl, At.nil w⟩)⟩
  case round =>
    obtain ⟨A, n, c, rfl, HD⟩ := hrel
    rcases HD.out with ⟨rfl, h⟩ | ⟨rfl, h⟩ | ⟨rfl, h⟩ | ⟨rfl, h⟩ | ⟨rfl, h⟩ | ⟨rfl, h⟩ | ⟨rfl, h⟩
    · have HA := hide h
      clear h HD
      have hln := HA.out.num
      have hl3 : n ≤ 3 := by rw [hln]; exact Nat.zero_le _
      clear hln
      cases hq : hasB t fl 1
      · have HN : Hid (p1 t fl = []) := hide (by unfold p1; rw [hq]; rfl)
        have HC := fun w => (HAS 1 w).out
        simp only [hq] at HC
        clear hq
        go_wp2_with (go_at_call 8; refine (HC _).mono ?_; rintro e w1 ⟨rfl, rfl⟩)
        go_wp2_with fail
        go_roundw
        case rel => exact ⟨_, _, _, rfl, hide (.inr (.inl ⟨by go_num, (by have := HA.out; simpa [q1, q4, q8, flagL, HN.out] using this)⟩))⟩
        case measure => simp [intOf]
      · have HN : Hid (p1 t fl = [firstS t]) := hide (by unfold p1; rw [hq]; rfl)
        have HC := fun w => (HAS 1 w).out
        simp only [hq] at HC
        clear hq
        go_wp2_with (first | (go_at_call 8; refine (HC _).mono ?_; rintro e w1 ⟨rfl, rfl⟩) | (go_at_call 21; refine (first_any t _).mono ?_; rintro e w1 ⟨rfl, rfl⟩) | (at_builtin; go_loud (refine wpList_push rfl (.tmp 22) (.tmp 25) 26 rfl w.heap.size 9 info9 rfl Tryd.underlying26 _ _ _ _ _ rfl HA.out.own _ rfl rfl rfl (by unfold maxLen; have := HA.out.le; omega) (by have := HA.out.le; omega) HA.out.bel.size ?_)))
        intro g1 c1 w1 hown1 hg1
        have HA2 := hide (HA.out.push hl3 hown1 hg1)
        clear hown1 hg1
        go_wp2_with fail
        go_roundw
        case rel => exact ⟨_, _, _, rfl, hide (.inr (.inl ⟨by go_num, (by have := HA2.out; simpa [q1, q4, q8, flagL, HN.out] using this)⟩))⟩
        case measure => simp [intOf]
    · have HA := hide h
      clear h HD
      have HC := fun w => (HAS 2 w).out
      simp only [show hasB t fl 2 = false from rfl] at HC
      go_wp2_with (go_at_call 8; refine (HC _).mono ?_; rintro e w1 ⟨rfl, rfl⟩)
      go_wp2_with fail
      go_roundw
      case rel => exact ⟨_, _, _, rfl, hide (.inr (.inr (.inl ⟨by go_num, HA.out⟩)))⟩
      case measure => simp [intOf]
    · have HA := hide h
      clear h HD
      have hln := HA.out.num
      have hl3 : n ≤ 3 := by rw [hln]; unfold q1 p1; split <;> simp
      clear hln
      cases hq : hasB t fl 4
      · have HN : Hid (p4 t fl = []) := hide (by unfold p4; rw [hq]; rfl)
        have HC := fun w => (HAS 4 w).out
        simp only [hq] at HC
        clear hq
        go_wp2_with (go_at_call 8; refine (HC _).mono ?_; rintro e w1 ⟨rfl, rfl⟩)
        go_wp2_with fail
        go_roundw
        case rel => exact ⟨_, _, _, rfl, hide (.inr (.inr (.inr (.inl ⟨by go_num, (by have := HA.out; simpa [q1, q4, q8, flagL, HN.out] using this)⟩))))⟩
        case measure => simp [intOf]
      · have HN : Hid (p4 t fl = [⟨#[69, 78, 68, 95, 72, 69, 65, 68, 69, 82, 83]⟩]) := hide (by unfold p4; rw [hq]; rfl)
        have HC := fun w => (HAS 4 w).out
        simp only [hq] at HC
        clear hq
        go_wp2_with (first | (go_at_call 8; refine (HC _).mono ?_; rintro e w1 ⟨rfl, rfl⟩) | (at_builtin; go_loud (refine wpList_push rfl (.tmp 29) (.tmp 30) 26 rfl w.heap.size 9 info9 rfl Tryd.underlying26 _ _ _ _ _ rfl HA.out.own _ rfl rfl rfl (by unfold maxLen; have := HA.out.le; omega) (by have := HA.out.le; omega) HA.out.bel.size ?_)))
        intro g1 c1 w1 hown1 hg1
        have HA2 := hide (HA.out.push hl3 hown1 hg1)
        clear hown1 hg1
        go_wp2_with fail
        go_roundw
        case rel => exact ⟨_, _, _, rfl, hide (.inr (.inr (.inr (.inl ⟨by go_num, (by have := HA2.out; simpa [q1, q4, q8, flagL, HN.out] using this)⟩))))⟩
        case measure => simp [intOf]
    · have HA := hide h
      clear h HD
      have hln := HA.out.num
      have hl3 : n ≤ 3 := by rw [hln]; unfold q4 p1 p4; simp only [List.length_append]; split <;> split <;> simp
      clear hln
      cases hq : hasB t fl 8
      · have HN : Hid (p8 t fl = []) := hide (by unfold p8; rw [hq]; rfl)
        have HC := fun w => (HAS 8 w).out
        simp only [hq] at HC
        clear hq
        go_wp2_with (go_at_call 8; refine (HC _).mono ?_; rintro e w1 ⟨rfl, rfl⟩)
        go_wp2_with fail
        go_roundw
        case rel => exact ⟨_, _, _, rfl, hide (.inr (.inr (.inr (.inr (.inl ⟨by go_num, (by have := HA.out; simpa [q1, q4, q8, flagL, HN.out] using this)⟩)))))⟩
        case measure => simp [intOf]
      · have HN : Hid (p8 t fl = [⟨#[80, 65, 68, 68, 69, 68]⟩]) := hide (by unfold p8; rw [hq]; rfl)
        have HC := fun w => (HAS 8 w).out
        simp only [hq] at HC
        clear hq
        go_wp2_with (first | (go_at_call 8; refine (HC _).mono ?_; rintro e w1 ⟨rfl, rfl⟩) | (at_builtin; go_loud (refine wpList_push rfl (.tmp 34) (.tmp 35) 26 rfl w.heap.size 9 info9 rfl Tryd.underlying26 _ _ _ _ _ rfl HA.out.own _ rfl rfl rfl (by unfold maxLen; have := HA.out.le; omega) (by have := HA.out.le; omega) HA.out.bel.size ?_)))
        intro g1 c1 w1 hown1 hg1
        have HA2 := hide (HA.out.push hl3 hown1 hg1)
        clear hown1 hg1
        go_wp2_with fail
        go_roundw
        case rel => exact ⟨_, _, _, rfl, hide (.inr (.inr (.inr (.inr (.inl ⟨by go_num, (by have := HA2.out; simpa [q1, q4, q8, flagL, HN.out] using this)⟩)))))⟩
        case measure => simp [intOf]
    · have HA := hide h
      clear h HD
      have HC := fun w => (HAS 16 w).out
      simp only [show hasB t fl 16 = false from rfl] at HC
      go_wp2_with (go_at_call 8; refine (HC _).mono ?_; rintro e w1 ⟨rfl, rfl⟩)
      go_wp2_with fail
      go_roundw
      case rel => exact ⟨_, _, _, rfl, hide (.inr (.inr (.inr (.inr (.inr (.inl ⟨by go_num, HA.out⟩))))))⟩
      case measure => simp [intOf]
    · have HA := hide h
      clear h HD
      have hln := HA.out.num
      have hl3 : n ≤ 3 := by rw [hln]; unfold q8 p1 p4 p8; simp only [List.length_append]; split <;> split <;> split <;> simp
      clear hln
      cases hq : hasB t fl 32
      · have HN : Hid (p32 t fl = []) := hide (by unfold p32; rw [hq]; rfl)
        have HC := fun w => (HAS 32 w).out
        simp only [hq] at HC
        clear hq
        go_wp2_with (go_at_call 8; refine (HC _).mono ?_; rintro e w1 ⟨rfl, rfl⟩)
        go_wp2_with fail
        go_roundw
        case rel => exact ⟨_, _, _, rfl, hide (.inr (.inr (.inr (.inr (.inr (.inr ⟨by go_num, (by have := HA.out; simpa [q1, q4, q8, flagL, HN.out] using this)⟩))))))⟩
        case measure => simp [intOf]
      · have HN : Hid (p32 t fl = [⟨#[80, 82, 73, 79, 82, 73, 84, 89]⟩]) := hide (by unfold p32; rw [hq]; rfl)
        have HC := fun w => (HAS 32 w).out
        simp only [hq] at HC
        clear hq
        go_wp2_with (first | (go_at_call 8; refine (HC _).mono ?_; rintro e w1 ⟨rfl, rfl⟩) | (at_builtin; go_loud (refine wpList_push rfl (.tmp 17) (.tmp 18) 26 rfl w.heap.size 9 info9 rfl Tryd.underlying26 _ _ _ _ _ rfl HA.out.own _ rfl rfl rfl (by unfold maxLen; have := HA.out.le; omega) (by have := HA.out.le; omega) HA.out.bel.size ?_)))
        intro g1 c1 w1 hown1 hg1
        have HA2 := hide (HA.out.push hl3 hown1 hg1)
        clear hown1 hg1
        go_wp2_with fail
        go_roundw
        case rel => exact ⟨_, _, _, rfl, hide (.inr (.inr (.inr (.inr (.inr (.inr ⟨by go_num, (by have := HA2.out; simpa [q1, q4, q8, flagL, HN.out] using this)⟩))))))⟩
        case measure => simp [intOf]
    · have HA := hide h
      clear h HD
      go_wp2_with fail
      go_ret
      exact ⟨_, _, _, rfl, HA.out.num, HA.out.own, HA.out.bel⟩
end Go.Proofs.YtjpjcbdaacifgaaDoor
