/- The walks of CodebookCodes, CodebookFinds and CodebookOne. -/
import Derived.Test.YtlnaedaibhglcaaT
namespace Go.Proofs.Ytlnaedaibhglcaa
open Go.RowKit

set_option maxRecDepth 10000 in
theorem lcodes_any (s : Int) (w : World) : Calls Try.prog 5 #[.int .i64 s] w fun e w' => e = .returned (.bool true) ∧ Below w.heap.size w w' := by
  go_enter Try.func5, Try.ntmps5
  go_wp2_with fail
  refine (make_any _).mono ?_
  rintro e w1 ⟨g, rfl, _, hbk, hb⟩
  have HB := hide hbk
  have HW := hide hb
  clear hbk hb
  go_wp2_with fail
  refine (code_any g s _ HB).mono ?_
  rintro e w2 ⟨rfl, hb⟩
  have HB2 := hide (HB.out.kept hb)
  have HW2 := hide (below_next HW.out hb)
  clear hb HB HW
  go_wp2_with fail
  refine (rcode_any s _).mono ?_
  rintro e w3 ⟨rfl, hb⟩
  have HB3 := hide (HB2.out.kept hb)
  have HW3 := hide (below_next HW2.out hb)
  clear hb HB2 HW2
  go_wp2_with fail
  refine (len_any g s _ HB3).mono ?_
  rintro e w4 ⟨rfl, rfl⟩
  go_wp2_with fail
  refine (rlen_any s _).mono ?_
  rintro e w5 ⟨rfl, hb⟩
  have HB5 := hide (HB3.out.kept hb)
  have HW5 := hide (below_next HW3.out hb)
  clear hb HB3 HW3
  go_wp2_with fail
  refine (order_any g _ HB5).mono ?_
  rintro e w6 ⟨A, c, rfl, hs, hb⟩
  have HS6 := hide hs
  have HW6 := hide (below_next HW5.out hb)
  clear hb hs HB5 HW5
  go_wp2_with fail
  refine (rord_any _).mono ?_
  rintro e w7 ⟨B, d, rfl, hs, hb⟩
  have HT7 := hide hs
  have HS7 := hide (HS6.out.kept hb)
  have HW7 := hide (below_next HW6.out hb)
  clear hb hs HS6 HW6
  go_wp2_with fail
  refine (same_yes A B ordl.length c d ordl _ (by rw [ordl_len]; decide) (hide rfl) HS7 HT7).mono ?_
  rintro e w8 ⟨rfl, hb⟩
  have HW8 := hide (below_next HW7.out hb)
  clear hb HS7 HT7 HW7
  go_wp2_with fail
  refine (alive_any _).mono ?_
  rintro e w9 ⟨rfl, hb⟩
  have HW9 := hide (below_next HW8.out hb)
  clear hb
  go_wp2_with fail
  go_ret
  exact ⟨rfl, HW9.out⟩

set_option maxRecDepth 10000 in
theorem lfinds_any (code n : Int) (w : World) (hb : code ≤ 9223372036854775807) : Calls Try.prog 4 #[.int .i64 code, .int .i64 n] w fun e w' => e = .returned (.bool true) ∧ Below w.heap.size w w' := by
  have HBD := hide hb
  clear hb
  obtain ⟨q, hq⟩ : ∃ q, fndS code n = q := ⟨_, rfl⟩
  have HQ := hide hq
  clear hq
  go_enter Try.func4, Try.ntmps4
  go_wp2_with fail
  refine (make_any _).mono ?_
  rintro e w1 ⟨g, rfl, _, hbk, hb⟩
  have HB := hide hbk
  have HW := hide hb
  clear hbk hb
  go_wp2_with fail
  refine (find_any g code n _ HBD.out HB).mono ?_
  rintro e w2 ⟨rfl, hb⟩
  have HB2 := hide (HB.out.kept hb)
  have HW2 := hide (below_next HW.out hb)
  rw [HQ.out]
  clear hb HB HW
  cases q with
  | none =>
    go_wp2_with fail
    refine (rfind_any code n _).mono ?_
    rintro e w3 ⟨rfl, hb⟩
    have HB3 := hide (HB2.out.kept hb)
    have HW3 := hide (below_next HW2.out hb)
    rw [HQ.out]
    clear hb HB2 HW2
    go_wp2_with fail
    refine (code_any g 0 _ HB3).mono ?_
    rintro e w4 ⟨rfl, hb⟩
    have HW4 := hide (below_next HW3.out hb)
    clear hb HB3 HW3
    go_wp2_with fail
    refine (alive_any _).mono ?_
    rintro e w9 ⟨rfl, hb⟩
    have HW9 := hide (below_next HW4.out hb)
    clear hb
    go_wp2_with fail
    go_ret
    exact ⟨rfl, HW9.out⟩
  | some x =>
    have hx := fnd_some HQ.out
    have HC : Hid (codI (x : Nat) = code) := hide (by unfold codI; rw [if_pos (by unfold isIn; omega)]; simpa using hx.2.1)
    have HZ : Hid (szI (x : Nat) = n) := hide (by unfold szI; rw [if_pos (by unfold isIn; omega)]; simpa using hx.2.2)
    clear hx
    go_wp2_with fail
    refine (rfind_any code n _).mono ?_
    rintro e w3 ⟨rfl, hb⟩
    have HB3 := hide (HB2.out.kept hb)
    have HW3 := hide (below_next HW2.out hb)
    rw [HQ.out]
    clear hb HB2 HW2
    go_wp2_with fail
    refine (code_any g (x : Nat) _ HB3).mono ?_
    rintro e w4 ⟨rfl, hb⟩
    have HW4 := hide (below_next HW3.out hb)
    rw [HC.out, HZ.out]
    clear hb HB3 HW3
    go_wp2_with fail
    refine (alive_any _).mono ?_
    rintro e w9 ⟨rfl, hb⟩
    have HW9 := hide (below_next HW4.out hb)
    clear hb
    go_wp2_with fail
    go_ret
    exact ⟨rfl, HW9.out⟩

theorem hit_int (u : Int) (k : Nat) : (u % 1073741824 / 2 ^ (30 - sz k) == ((cod k : Nat) : Int)) = hit (u % 1073741824).toNat k := by
  have h0 : 0 ≤ u % 1073741824 := Int.emod_nonneg _ (by decide)
  obtain ⟨v, hv⟩ : ∃ v : Nat, u % 1073741824 = v := ⟨(u % 1073741824).toNat, by omega⟩
  rw [hv, Int.toNat_natCast]
  unfold hit
  have e : ((v : Int) / 2 ^ (30 - sz k)) = ((v / 2 ^ (30 - sz k) : Nat) : Int) := by simp
  rw [e]
  rw [Bool.eq_iff_iff, beq_iff_eq, beq_iff_eq]
  omega
theorem many_yes {v k : Nat} (h : hit v k = true) : many v (k + 1) = many v k + 1 := by
  show many v k + _ = _
  rw [if_pos h]
theorem many_no {v k : Nat} (h : hit v k = false) : many v (k + 1) = many v k := by
  show many v k + _ = _
  rw [if_neg (by rw [h]; decide)]; rfl

set_option maxRecDepth 10000 in
set_option maxHeartbeats 1000000 in
theorem lone_any (u : Int) (w : World) (hu1 : 0 ≤ u) (hu2 : u ≤ 4294967295) : Calls Try.prog 3 #[.int .u32 u] w fun e w' => e = .returned (.bool true) ∧ Below w.heap.size w w' := by
  go_enter Try.func3, Try.ntmps3
  go_wp2_with fail
  refine (make_any _).mono ?_
  rintro e w1 ⟨g, rfl, _, hbk, hb⟩
  have HB := hide hbk
  have HW := hide hb
  clear hbk hb
  go_wp2_with fail
  go_loopw [5, 6] (fun cc ii wr => ∃ k : Nat, cc = .int .i64 ((many (u % 1073741824).toNat k : Nat) : Int) ∧ ii = .int .i64 (k : Nat) ∧ k ≤ 257 ∧ Hid (Book wr g) ∧ Hid (Below w.heap.size w wr)) (fun _ ii _ => 257 - (intOf ii).toNat)
  case atStart => exact ⟨0, rfl, rfl, Nat.zero_le _, HB, HW⟩
  case round =>
    clear HB HW
    obtain ⟨k, rfl, rfl, hk, HB, HW⟩ := hrel
    have hmb := many_le (u % 1073741824).toNat k
    by_cases hlt : k < 257
    · have hki : (k : Int) ≤ 256 := by omega
      obtain ⟨z1, z2⟩ := sz_all k hlt
      go_wp2_with fail
      refine (code_in g k _ hlt HB).mono ?_
      rintro e w2 ⟨rfl, hb⟩
      have HB2 := hide (HB.out.kept hb)
      have HW2 := hide (below_next HW.out hb)
      clear hb
      cases hh : hit (u % 1073741824).toNat k with
      | true =>
        have hq := (hit_int u k).trans hh
        have HM := hide (many_yes hh)
        clear hh
        go_wp2_with fail
        go_roundw
        case rel => exact ⟨k + 1, by rw [HM.out]; go_num, by go_num, by omega, HB2, HW2⟩
        case measure => simp [intOf]; omega
      | false =>
        have hq := (hit_int u k).trans hh
        have HM := hide (many_no hh)
        clear hh
        go_wp2_with fail
        go_roundw
        case rel => exact ⟨k + 1, by rw [HM.out], by go_num, by omega, HB2, HW2⟩
        case measure => simp [intOf]; omega
    · have HK : Hid (many (u % 1073741824).toNat k = 1) := hide (by
        obtain rfl : k = 257 := by omega
        exact many_one _ (by omega))
      rw [HK.out]
      go_wp2_with fail
      refine (alive_any _).mono ?_
      rintro e w9 ⟨rfl, hb⟩
      have HW9 := hide (below_nextB HW.out HW.out.size hb)
      clear hb
      go_wp2_with fail
      go_ret
      exact ⟨rfl, HW9.out⟩
end Go.Proofs.Ytlnaedaibhglcaa
