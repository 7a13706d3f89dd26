/- Contracts: Code, Find, of the reference; alive. -/
import Derived.Test.YtlnaedaibhglcaaS
namespace Go.Proofs.Ytlnaedaibhglcaa
open Go.RowKit

set_option maxRecDepth 10000 in
theorem rcode_in (k : Nat) (w : World) (hk : k < 257) : Calls Try.prog 12 #[.int .i64 (k : Nat)] w fun e w' => e = .returned (.tuple #[.int .i64 (cod k : Nat), .int .i64 (sz k : Nat)]) ∧ Below w.heap.size w w' := by
  have hki : (k : Int) ≤ 256 := by omega
  have hkj : (k : Int) < 257 := by omega
  have HCL := hide codl_len
  go_enter Try.func12, Try.ntmps12
  go_wp2_with fail
  go_region_with (first
    | (go_at_call 21; refine (codes_any _).mono ?_; rintro e w1 ⟨A, c, rfl, hs1, hb1⟩; obtain ⟨bb, oo, rfl, c1⟩ := hs1 k _ (ints_at _ (codl_at hk)); have HB1 := hide hb1; have hlt1 := World.block_lt_of_cell? w1 _ c1; have HC1 := hide (And.intro hlt1 c1); rw [HCL.out]; clear hs1 hb1 hlt1)
    | (go_at_call 14; refine (rlen_in k _ hk).mono ?_; rintro e w2 ⟨rfl, hb2⟩; have HB2 := hide hb2; clear hb2; (try have c2 := (HB2.out.cell (p := ⟨_, _, none⟩) HC1.out.1).trans HC1.out.2)))
  all_goals
    go_wp2_with fail
    go_ret2
    refine ⟨rfl, ?_⟩
    first
      | exact below_next (below_undrew HB1.out) HB2.out
      | exact below_next (below_undrew HB2.out) HB1.out
      | exact below_undrew (below_next HB1.out HB2.out)
theorem rcode_any (s : Int) (w : World) : Calls Try.prog 12 #[.int .i64 s] w fun e w' => e = .returned (.tuple #[.int .i64 (codI s), .int .i64 (szI s)]) ∧ Below w.heap.size w w' := by
  unfold codI szI
  by_cases h : isIn s
  · rw [if_pos h, if_pos h]
    obtain ⟨k, rfl⟩ : ∃ k : Nat, s = k := ⟨s.toNat, by unfold isIn at h; omega⟩
    have := rcode_in k w (by unfold isIn at h; omega)
    simpa using this
  · rw [if_neg h, if_neg h]
    rcases out_of h with h1 | h1
    all_goals
      go_enter Try.func12, Try.ntmps12
      go_wp2_with fail
      go_ret2
      exact ⟨rfl, Below.refl _ _⟩

/-! ### Find -/
theorem fnd_some {code n : Int} {x : Nat} (h : fndS code n = some x) : x < 257 ∧ (cod x : Int) = code ∧ (sz x : Int) = n := by
  unfold fndS at h
  split at h
  · rename_i hc
    obtain ⟨h1, h2, h3, h4⟩ := hc
    obtain ⟨e1, e2, e3⟩ := flt_at _ _ _ _ h
    refine ⟨e3, ?_, by omega⟩
    unfold cod
    rw [e2, e1]
    omega
  · cases h
theorem fnd_hit (k : Nat) (hk : k < 257) : fndS (cod k : Nat) (sz k : Nat) = some k := by
  have hg := flt_get (sz k) 257 k hk rfl
  have hl := (List.getElem?_eq_some_iff.1 hg).1
  rw [flt_length] at hl
  have hz := sz_all k hk
  have e1 : ((sz k : Nat) : Int).toNat = sz k := by omega
  have e2 : (((cod k : Nat) : Int) - (fs (sz k) : Nat)).toNat = cnt (sz k) k := by unfold cod; omega
  unfold fndS
  rw [e1, if_pos ⟨by omega, by omega, by unfold cod; omega, by unfold cod; omega⟩, e2]
  exact hg
theorem fnd_none {code n : Int} (h : ∀ s, s < 257 → ¬ ((cod s : Int) = code ∧ (sz s : Int) = n)) : fndS code n = none := by
  cases hx : fndS code n with
  | none => rfl
  | some x => exact absurd (fnd_some hx).2 (h x (fnd_some hx).1)
/-- What both Finds give. -/
def FPost (code n : Int) (w : World) (e : Ending) (w' : World) : Prop := e = .returned (.tuple #[.int .i64 ((fndS code n).getD 0 : Nat), .bool (fndS code n).isSome]) ∧ Below w.heap.size w w'
theorem find_any (g : Nat) (code n : Int) (w : World) (hb : code ≤ 9223372036854775807) (HB : Hid (Book w g)) : Calls Try.prog 10 #[.pointer (some ⟨g, 0, none⟩), .int .i64 code, .int .i64 n] w (FPost code n w) := by
  unfold FPost
  by_cases hn : 1 ≤ n ∧ n ≤ 30
  · obtain ⟨m, rfl⟩ : ∃ m : Nat, n = m := ⟨n.toNat, by omega⟩
    have em : ((m : Nat) : Int).toNat = m := by omega
    by_cases h1 : code < (fs m : Nat)
    · have : fndS code (m : Nat) = none := by unfold fndS; rw [em, if_neg (by omega)]
      rw [this]
      exact find_low g m code w (by omega) (by omega) h1 HB
    · by_cases h2 : (cnt m 257 : Nat) ≤ code - (fs m : Nat)
      · have : fndS code (m : Nat) = none := by unfold fndS; rw [em, if_neg (by omega)]
        rw [this]
        exact find_high g m code w (by omega) (by omega) (by omega) h2 hb HB
      · obtain ⟨a, rfl⟩ : ∃ a : Nat, code = ((fs m + a : Nat) : Int) := ⟨(code - fs m).toNat, by omega⟩
        have hal : a < (flt m 257).length := by rw [flt_length]; omega
        have hx : (flt m 257)[a]? = some (flt m 257)[a] := List.getElem?_eq_getElem hal
        have e : fndS ((fs m + a : Nat) : Int) (m : Nat) = some (flt m 257)[a] := by
          unfold fndS
          rw [em, if_pos ⟨by omega, by omega, by omega, by omega⟩, show (((fs m + a : Nat) : Int) - (fs m : Nat)).toNat = a from by omega]
          exact hx
        rw [e]
        exact find_yes g m a _ w (by omega) (by omega) hx HB
  · have : fndS code n = none := by unfold fndS; rw [if_neg (by omega)]
    rw [this]
    exact find_bad g code n w (by omega) HB

set_option maxRecDepth 10000 in
set_option maxHeartbeats 1000000 in
theorem rfind_any (code n : Int) (w : World) : Calls Try.prog 11 #[.int .i64 code, .int .i64 n] w (FPost code n w) := by
  go_enter Try.func11, Try.ntmps11
  go_wp2_with fail
  refine (lens_any _).mono ?_
  rintro e w1 ⟨D, DC, rfl, hs1, hb1⟩
  have HS1 := hide hs1
  have HB1 := hide hb1
  have HD := hide lens_len
  rw [HD.out]
  clear hs1 hb1
  go_wp2_with fail
  refine (codes_any _).mono ?_
  rintro e w2 ⟨E, EC, rfl, hs2, hb2⟩
  have HS2 := hide hs2
  have HS3 := hide (HS1.out.kept hb2)
  have HB2 := hide (below_next HB1.out hb2)
  have HE := hide codl_len
  rw [HE.out]
  clear hs2 hb2 HS1 HB1
  go_wp2_with fail
  go_loop [8] (fun ii => ∃ k : Nat, ii = .int .i64 (k : Nat) ∧ k ≤ 257 ∧ Hid (∀ s, s < k → ¬ ((cod s : Int) = code ∧ (sz s : Int) = n))) (fun ii => 257 - (intOf ii).toNat)
  case atStart => exact ⟨0, rfl, Nat.zero_le _, hide (fun s h => absurd h (Nat.not_lt_zero _))⟩
  case round =>
    obtain ⟨k, rfl, hk, HN⟩ := hrel
    by_cases hlt : k < 257
    · have hki : (k : Int) ≤ 256 := by omega
      obtain ⟨db, dd, rfl, d0⟩ := HS3.out k _ (ints_at _ (lens_at hlt))
      obtain ⟨eb, eo, rfl, e0⟩ := HS2.out k _ (ints_at _ (codl_at hlt))
      by_cases hc : (cod k : Int) = code
      · by_cases hz : (sz k : Int) = n
        · subst hc hz
          have HF := hide (fnd_hit k hlt)
          go_wp2_with fail
          go_ret2
          exact ⟨by rw [HF.out]; rfl, HB2.out⟩
        · have hz1 : (((sz k : Nat) : Int) == n) = false := by rw [beq_eq_false_iff_ne]; exact hz
          have HN1 : Hid (∀ s, s < k + 1 → ¬ ((cod s : Int) = code ∧ (sz s : Int) = n)) := hide (fun s hs h => by
            by_cases e : s = k
            · subst e; exact hz h.2
            · exact HN.out s (by omega) h)
          subst hc
          clear hz
          go_wp2_with fail
          go_round
          case rel => exact ⟨k + 1, by go_num, by omega, HN1⟩
          case measure => simp [intOf]; omega
      · have hc1 : (((cod k : Nat) : Int) == code) = false := by rw [beq_eq_false_iff_ne]; exact hc
        have HN1 : Hid (∀ s, s < k + 1 → ¬ ((cod s : Int) = code ∧ (sz s : Int) = n)) := hide (fun s hs h => by
          by_cases e : s = k
          · subst e; exact hc h.1
          · exact HN.out s (by omega) h)
        clear hc
        go_wp2_with fail
        go_round
        case rel => exact ⟨k + 1, by go_num, by omega, HN1⟩
        case measure => simp [intOf]; omega
    · have HF : Hid (fndS code n = none) := hide (fnd_none fun s hs => HN.out s (by omega))
      go_wp2_with fail
      go_ret2
      exact ⟨by rw [HF.out]; rfl, HB2.out⟩

/-! ### alive -/
theorem vals : codI 97 = 3 ∧ szI 97 = 5 ∧ codI 32 = 20 ∧ szI 32 = 6 ∧ codI 256 = 1073741823 ∧ szI 256 = 30 ∧ szI 48 = 5 := by decide +kernel
theorem alive_any (w : World) : Calls Try.prog 9 #[] w fun e w' => e = .returned (.bool true) ∧ Below w.heap.size w w' := by
  have HV := hide vals
  go_enter Try.func9, Try.ntmps9
  go_wp2_with fail
  refine (make_any _).mono ?_
  rintro e w1 ⟨g, rfl, _, hbk, hb⟩
  have HB := hide hbk
  have HW := hide hb
  clear hbk hb
  go_wp2_with fail
  refine (code_any g 97 _ HB).mono ?_
  rintro e w2 ⟨rfl, hb⟩
  rw [HV.out.1, HV.out.2.1]
  have HB2 := hide (HB.out.kept hb)
  have HW2 := hide (below_next HW.out hb)
  clear hb
  go_wp2_with fail
  refine (code_any g 32 _ HB2).mono ?_
  rintro e w3 ⟨rfl, hb⟩
  rw [HV.out.2.2.1, HV.out.2.2.2.1]
  have HB3 := hide (HB2.out.kept hb)
  have HW3 := hide (below_next HW2.out hb)
  clear hb
  go_wp2_with fail
  refine (code_any g 256 _ HB3).mono ?_
  rintro e w4 ⟨rfl, hb⟩
  rw [HV.out.2.2.2.2.1, HV.out.2.2.2.2.2.1]
  have HB4 := hide (HB3.out.kept hb)
  have HW4 := hide (below_next HW3.out hb)
  clear hb
  go_wp2_with fail
  refine (len_any g 48 _ HB4).mono ?_
  rintro e w5 ⟨rfl, rfl⟩
  rw [HV.out.2.2.2.2.2.2]
  go_wp2_with fail
  go_ret
  exact ⟨rfl, HW4.out⟩
end Go.Proofs.Ytlnaedaibhglcaa
