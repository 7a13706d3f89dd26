/- The example; the walks of the laws KindsStreams and KindsFlags. -/
import Derived.Test.YtjpjcbdaacifgaaDoorN
namespace Go.Proofs.YtjpjcbdaacifgaaDoor
open Go.RowKit
set_option linter.unusedSimpArgs false

set_option maxRecDepth 10000 in
theorem alive_any (w : World) : Calls Tryd.prog 13 #[] w fun e w' => e = .returned (.bool true) ∧ Below w.heap.size w w' := by
  have hF1 : flagL 1 5 = [⟨#[69, 78, 68, 95, 83, 84, 82, 69, 65, 77]⟩, ⟨#[69, 78, 68, 95, 72, 69, 65, 68, 69, 82, 83]⟩] := by rfl
  have hF2 : flagL 4 255 = [⟨#[65, 67, 75]⟩] := by rfl
  have HF1 := fun w => hide (flags_any 1 5 w (by decide))
  have HF2 := fun w => hide (flags_any 4 255 w (by decide))
  simp only [hF1] at HF1
  simp only [hF2] at HF2
  clear hF1 hF2
  go_enter Tryd.func13, Tryd.ntmps13
  go_wp2_with fail
  refine (HF1 _).out.mono ?_
  rintro e w1 ⟨A1, n1, c1, rfl, hn, ho, hb⟩
  obtain rfl : n1 = 2 := hn
  have HS1 := hide (Sees.of_own ho)
  have HB1 := hide hb
  clear ho hb
  go_wp2_with fail
  refine (same04 A1 _ 2 c1 2 [⟨#[69, 78, 68, 95, 83, 84, 82, 69, 65, 77]⟩, ⟨#[69, 78, 68, 95, 72, 69, 65, 68, 69, 82, 83]⟩] _ rfl (by decide) (HS1.out.alloc _) (Sees.born w1 _ _ _)).mono ?_
  rintro e w2 ⟨rfl, hb⟩
  have HB2 := hide (below_nextB HB1.out HB1.out.size (below_base1 hb))
  clear hb
  go_wp2_with fail
  refine (HF2 _).out.mono ?_
  rintro e w3 ⟨A2, n2, c2, rfl, hn, ho, hb⟩
  obtain rfl : n2 = 1 := hn
  have HS3 := hide (Sees.of_own ho)
  have HB3 := hide (below_nextB HB2.out HB2.out.size hb)
  clear ho hb
  go_wp2_with fail
  refine (same04 A2 _ 1 c2 1 [⟨#[65, 67, 75]⟩] _ rfl (by decide) (HS3.out.alloc _) (Sees.born w3 _ _ _)).mono ?_
  rintro e w4 ⟨rfl, hb⟩
  have HB4 := hide (below_nextB HB3.out HB3.out.size (below_base1 hb))
  clear hb
  go_wp2_with (go_at_call 16; refine (name11 _).mono ?_; rintro e w5 ⟨rfl, rfl⟩)
  go_wp2_with fail
  go_ret
  exact ⟨rfl, HB4.out⟩

set_option maxRecDepth 10000 in
theorem law_streams (t : Int) (w : World) : Calls Tryd.prog 4 #[.int .i64 t] w fun e w' => e = .returned (.bool true) ∧ Below w.heap.size w w' := by
  have h1 := streams_any t w
  have h2 := rstreams_any t w
  have h3 := alive_any w
  obtain ⟨q, hq⟩ : ∃ q, streamsN t = q := ⟨_, rfl⟩
  rw [hq] at h1 h2
  have hqq : (q == q) = true := beq_self_eq_true _
  clear hq
  go_enter Tryd.func4, Tryd.ntmps4
  go_wp2_with (first | (go_at_call 14; refine h1.mono ?_; rintro e w1 ⟨rfl, rfl⟩) | (go_at_call 15; refine h2.mono ?_; rintro e w1 ⟨rfl, rfl⟩))
  go_wp2_with fail
  refine h3.mono ?_
  rintro e w2 ⟨rfl, hb⟩
  have HB := hide hb
  clear hb h1 h2 h3
  go_wp2_with fail
  go_ret
  exact ⟨rfl, HB.out⟩

/-- What a flag adds. -/
def un (t f : Int) : Int := if usesB t f then f else 0
theorem un_yes {t f : Int} (h : usesB t f = true) : un t f = f := by unfold un; rw [h]; rfl
theorem un_no {t f : Int} (h : usesB t f = false) : un t f = 0 := by unfold un; rw [h]; rfl
theorem un_le (t f : Int) (hf : 0 ≤ f) : 0 ≤ un t f ∧ un t f ≤ f := by unfold un; split <;> omega
theorem used_sum (t : Int) : un t 1 + un t 4 + un t 8 + un t 32 = (usedN t : Nat) := by
  rcases ten t with rfl | rfl | rfl | rfl | rfl | rfl | rfl | rfl | rfl | rfl | ⟨h0, h1, h2, h3, h4, h5, h6, h7, h8, h9⟩
  all_goals first | decide | simp [un, usedN, usesB, h0, h1, h2, h3, h4, h5, h6, h7, h8, h9]

set_option maxRecDepth 10000 in
set_option maxHeartbeats 2000000 in
theorem law_flags (t fl f : Int) (w : World) (h1 : fl ≤ 9223372036854775807) : Calls Tryd.prog 3 #[.int .i64 t, .int .i64 fl, .int .i64 f] w fun e w' => e = .returned (.bool true) ∧ Below w.heap.size w w' := by
  have HUS := fun f w => hide (uses_any t f w)
  have HFL := hide h1
  have B1 := hide (un_le t 1 (by decide))
  have B4 := hide (un_le t 4 (by decide))
  have B8 := hide (un_le t 8 (by decide))
  have B32 := hide (un_le t 32 (by decide))
  clear h1
  go_enter Tryd.func3, Tryd.ntmps3
  go_wp2_with fail
  go_loopw [7, 8] (fun uv fv wr => ∃ u : Int, uv = .int .i64 u ∧ Hid (w = wr) ∧ Hid ((fv = .int .i64 1 ∧ u = 0) ∨ (fv = .int .i64 2 ∧ u = un t 1) ∨ (fv = .int .i64 4 ∧ u = un t 1) ∨ (fv = .int .i64 8 ∧ u = un t 1 + un t 4) ∨ (fv = .int .i64 16 ∧ u = un t 1 + un t 4 + un t 8) ∨ (fv = .int .i64 32 ∧ u = un t 1 + un t 4 + un t 8) ∨ (fv = .int .i64 64 ∧ u = un t 1 + un t 4 + un t 8 + un t 32))) (fun _ fv _ => 64 - (intOf fv).toNat)
  case atStart => exact ⟨0, rfl, hide rfl, hide (.inl ⟨rfl, rfl⟩)⟩
  case round =>
    obtain ⟨u, rfl, HW, HD⟩ := hrel
    obtain rfl := HW.out
    have hub : 0 ≤ u ∧ u ≤ 45 := by
      have b1 := B1.out; have b4 := B4.out; have b8 := B8.out; have b32 := B32.out
      rcases HD.out with ⟨_, h⟩ | ⟨_, h⟩ | ⟨_, h⟩ | ⟨_, h⟩ | ⟨_, h⟩ | ⟨_, h⟩ | ⟨_, h⟩ <;> omega
    obtain ⟨hu0, hu1⟩ := hub
    rcases HD.out with ⟨rfl, h⟩ | ⟨rfl, h⟩ | ⟨rfl, h⟩ | ⟨rfl, h⟩ | ⟨rfl, h⟩ | ⟨rfl, h⟩ | ⟨rfl, h⟩
    · have HE := hide h
      clear h HD
      cases hq : usesB t 1
      · have HN := hide (un_no hq)
        have HC := fun w => (HUS 1 w).out
        simp only [hq] at HC
        clear hq
        go_wp2_with (go_at_call_of 6 (Value.int .i64 1); refine (HC _).mono ?_; rintro e w1 ⟨rfl, rfl⟩)
        go_wp2_with fail
        go_roundw
        case rel => exact ⟨u, rfl, trivial, hide (.inr (.inl ⟨by go_num, (by have h1 := HE.out; have h2 := HN.out; omega)⟩))⟩
        case measure => simp [intOf]
      · have HN := hide (un_yes hq)
        have HC := fun w => (HUS 1 w).out
        simp only [hq] at HC
        clear hq
        go_wp2_with (go_at_call_of 6 (Value.int .i64 1); refine (HC _).mono ?_; rintro e w1 ⟨rfl, rfl⟩)
        go_wp2_with fail
        go_roundw
        case rel => exact ⟨u + 1, by go_num, trivial, hide (.inr (.inl ⟨by go_num, (by have h1 := HE.out; have h2 := HN.out; omega)⟩))⟩
        case measure => simp [intOf]
    · have HE := hide h
      have HC := fun w => (HUS 2 w).out
      simp only [show usesB t 2 = false from rfl] at HC
      clear h HD
      go_wp2_with (go_at_call_of 6 (Value.int .i64 2); refine (HC _).mono ?_; rintro e w1 ⟨rfl, rfl⟩)
      go_wp2_with fail
      go_roundw
      case rel => exact ⟨u, rfl, trivial, hide (.inr (.inr (.inl ⟨by go_num, HE.out⟩)))⟩
      case measure => simp [intOf]
    · have HE := hide h
      clear h HD
      cases hq : usesB t 4
      · have HN := hide (un_no hq)
        have HC := fun w => (HUS 4 w).out
        simp only [hq] at HC
        clear hq
        go_wp2_with (go_at_call_of 6 (Value.int .i64 4); refine (HC _).mono ?_; rintro e w1 ⟨rfl, rfl⟩)
        go_wp2_with fail
        go_roundw
        case rel => exact ⟨u, rfl, trivial, hide (.inr (.inr (.inr (.inl ⟨by go_num, (by have h1 := HE.out; have h2 := HN.out; omega)⟩))))⟩
        case measure => simp [intOf]
      · have HN := hide (un_yes hq)
        have HC := fun w => (HUS 4 w).out
        simp only [hq] at HC
        clear hq
        go_wp2_with (go_at_call_of 6 (Value.int .i64 4); refine (HC _).mono ?_; rintro e w1 ⟨rfl, rfl⟩)
        go_wp2_with fail
        go_roundw
        case rel => exact ⟨u + 4, by go_num, trivial, hide (.inr (.inr (.inr (.inl ⟨by go_num, (by have h1 := HE.out; have h2 := HN.out; omega)⟩))))⟩
        case measure => simp [intOf]
    · have HE := hide h
      clear h HD
      cases hq : usesB t 8
      · have HN := hide (un_no hq)
        have HC := fun w => (HUS 8 w).out
        simp only [hq] at HC
        clear hq
        go_wp2_with (go_at_call_of 6 (Value.int .i64 8); refine (HC _).mono ?_; rintro e w1 ⟨rfl, rfl⟩)
        go_wp2_with fail
        go_roundw
        case rel => exact ⟨u, rfl, trivial, hide (.inr (.inr (.inr (.inr (.inl ⟨by go_num, (by have h1 := HE.out; have h2 := HN.out; omega)⟩)))))⟩
        case measure => simp [intOf]
      · have HN := hide (un_yes hq)
        have HC := fun w => (HUS 8 w).out
        simp only [hq] at HC
        clear hq
        go_wp2_with (go_at_call_of 6 (Value.int .i64 8); refine (HC _).mono ?_; rintro e w1 ⟨rfl, rfl⟩)
        go_wp2_with fail
        go_roundw
        case rel => exact ⟨u + 8, by go_num, trivial, hide (.inr (.inr (.inr (.inr (.inl ⟨by go_num, (by have h1 := HE.out; have h2 := HN.out; omega)⟩)))))⟩
        case measure => simp [intOf]
    · have HE := hide h
      have HC := fun w => (HUS 16 w).out
      simp only [show usesB t 16 = false from rfl] at HC
      clear h HD
      go_wp2_with (go_at_call_of 6 (Value.int .i64 16); refine (HC _).mono ?_; rintro e w1 ⟨rfl, rfl⟩)
      go_wp2_with fail
      go_roundw
      case rel => exact ⟨u, rfl, trivial, hide (.inr (.inr (.inr (.inr (.inr (.inl ⟨by go_num, HE.out⟩))))))⟩
      case measure => simp [intOf]
    · have HE := hide h
      clear h HD
      cases hq : usesB t 32
      · have HN := hide (un_no hq)
        have HC := fun w => (HUS 32 w).out
        simp only [hq] at HC
        clear hq
        go_wp2_with (go_at_call_of 6 (Value.int .i64 32); refine (HC _).mono ?_; rintro e w1 ⟨rfl, rfl⟩)
        go_wp2_with fail
        go_roundw
        case rel => exact ⟨u, rfl, trivial, hide (.inr (.inr (.inr (.inr (.inr (.inr ⟨by go_num, (by have h1 := HE.out; have h2 := HN.out; omega)⟩))))))⟩
        case measure => simp [intOf]
      · have HN := hide (un_yes hq)
        have HC := fun w => (HUS 32 w).out
        simp only [hq] at HC
        clear hq
        go_wp2_with (go_at_call_of 6 (Value.int .i64 32); refine (HC _).mono ?_; rintro e w1 ⟨rfl, rfl⟩)
        go_wp2_with fail
        go_roundw
        case rel => exact ⟨u + 32, by go_num, trivial, hide (.inr (.inr (.inr (.inr (.inr (.inr ⟨by go_num, (by have h1 := HE.out; have h2 := HN.out; omega)⟩))))))⟩
        case measure => simp [intOf]
    · have hu : (usedN t : Int) = u := by rw [h, used_sum]
      have hc1 := used_any t w
      rw [hu] at hc1
      have hqq : (u == u) = true := beq_self_eq_true _
      have h3 := has_any t fl f w HFL.out
      have h4 := rhas_any t fl f w HFL.out
      obtain ⟨q, hq⟩ : ∃ q, hasB t fl f = q := ⟨_, rfl⟩
      rw [hq] at h3 h4
      have hbb : (q == q) = true := beq_self_eq_true _
      have hle := flag_len t fl
      have HLE := hide hle
      clear h HD hu hq hle
      go_wp2_with (first | (go_at_call 7; refine hc1.mono ?_; rintro e w1 ⟨rfl, rfl⟩) | (go_at_call 8; refine h3.mono ?_; rintro e w1 ⟨rfl, rfl⟩) | (go_at_call 9; refine h4.mono ?_; rintro e w1 ⟨rfl, rfl⟩))
      refine (flags_any t fl w HFL.out).mono ?_
      rintro e w1 ⟨A1, n1, c1, rfl, hn, ho, hb⟩
      have HN1 := hide hn
      have HS1 := hide (Sees.of_own ho)
      have HB1 := hide hb
      clear hn ho hb hc1 h3 h4
      go_wp2_with fail
      refine (rflags_any t fl w1 HFL.out).mono ?_
      rintro e w2 ⟨A2, n2, c2, rfl, hn, ho, hb⟩
      obtain rfl : n2 = n1 := by rw [hn, HN1.out]
      have HS2 := hide (Sees.of_own ho)
      have HS1' := hide (HS1.out.kept hb)
      have HB2 := hide (below_nextB HB1.out HB1.out.size hb)
      clear hn ho hb
      go_wp2_with fail
      refine (same04 A1 A2 n2 c1 c2 (flagL t fl) w2 HN1.out.symm (by have h1 := HN1.out; have h2 := HLE.out; omega) HS1'.out HS2.out).mono ?_
      rintro e w3 ⟨rfl, hb⟩
      have HB3 := hide (below_nextB HB2.out HB2.out.size hb)
      clear hb
      go_wp2_with fail
      refine (alive_any w3).mono ?_
      rintro e w4 ⟨rfl, hb⟩
      have HB4 := hide (below_nextB HB3.out HB3.out.size hb)
      clear hb
      go_wp2_with fail
      go_ret
      exact ⟨rfl, HB4.out⟩
end Go.Proofs.YtjpjcbdaacifgaaDoor
