/- The reference's Get, where more bytes come. -/
import Derived.Test.YtpkdmbdmfokkiaaH
namespace Go.Proofs.Ytpkdmbdmfokkiaa
open Go.RowKit

theorem power_z (a v : Int) (w : World) (h : Hid ((pw a.toNat : Int) = v)) (h0 : 0 ≤ a) (hn : a ≤ 61) : Calls Try.prog 13 #[.int .i64 a] w fun e w' => e = .returned (.int .i64 v) ∧ w = w' := by
  rw [← h.out, show a = ((a.toNat : Nat) : Int) from by omega]; exact power_any a.toNat w (by omega)

def HN (n i : Nat) : Prop := n < 256 * 2 ^ (7 * (i - 1))
/-- One step of the number's sum, in bounds. -/
theorem step_sum (i n y : Nat) (h1 : 1 ≤ i) (h5 : i ≤ 5) (hn : HN n i) : ∃ p t m' : Nat, p ≤ 268435456 ∧ pw (7 * (i - 1)) = p ∧ y % 128 * p = t ∧ t ≤ 34091302912 ∧ n ≤ 68719476736 ∧ n + t = m' ∧ n + y % 128 * 2 ^ (7 * (i - 1)) = m' ∧ HN m' (i + 1) := by
  have h : i = 1 ∨ i = 2 ∨ i = 3 ∨ i = 4 ∨ i = 5 := by omega
  rcases h with rfl | rfl | rfl | rfl | rfl
  all_goals
    unfold HN at hn ⊢
    simp only [pw, Nat.reduceMul, Nat.reduceSub, Nat.reduceAdd, Nat.reducePow] at hn ⊢
    refine ⟨_, _, _, ?_, rfl, rfl, ?_, ?_, rfl, rfl, ?_⟩ <;> omega

set_option maxRecDepth 10000 in
set_option maxHeartbeats 1000000 in
theorem rget_go (A : Option Addr) (c b : Nat) (l : List Int) (w : World) (h1 : 1 ≤ b) (h8 : b ≤ 8) (hs : Sees w A (l.map (Value.int .u8))) (hl : 1 ≤ l.length) (hm : l.length ≤ 1000000) (hw : ∀ x ∈ l, 0 ≤ x ∧ x ≤ 255)
    (hf : ¬ (l.getD 0 0).toNat % 2 ^ b < fl b) : Calls Try.prog 11 #[.slice A l.length c, .int .i64 b] w (GetPost (goS l 5 1 ((l.getD 0 0).toNat % 2 ^ b)) w) := by
  have hf0 := fl_lt h8
  have hpw := pw_fl b
  have hpp := pw_pos b
  have hp8 := pw_le8 h8
  obtain ⟨bb, oo, rfl, hc⟩ := hs 0 _ (u8_at (show 0 < l.length from hl))
  obtain ⟨x, hx1, hx2, hx255⟩ := getD_at (show 0 < l.length from hl) hw
  rw [hx1, Nat.add_zero] at hc
  rw [hx2, Int.toNat_natCast] at hf ⊢
  obtain ⟨r, hr⟩ : ∃ r, x % 2 ^ b = r := ⟨_, rfl⟩
  rw [hr] at hf ⊢
  have hsucc : ((fl b : Nat) : Int) + 1 = ((2 ^ b : Nat) : Int) := by have := fl_succ b; omega
  have hrem : (x : Int) % (((fl b : Nat) : Int) + 1) = (r : Int) := by rw [hsucc, ← Int.natCast_emod, hr]
  have hrf : ((fl b : Nat) : Int) ≤ (x : Int) % (((fl b : Nat) : Int) + 1) := by omega
  have hr255 : r ≤ 255 := by have h9 := Nat.mod_le x (2 ^ b); rw [hr] at h9; omega
  have hll : (1 : Int) ≤ (l.length : Int) := by omega
  have el0 : ((l.length : Int) == 0) = false := by rw [beq_eq_false_iff_ne]; omega
  have HW := hide hw
  have HREM := hide hrem
  clear hr hf hx1 hx2 hw hrem hsucc
  go_enter Try.func11, Try.ntmps11
  go_wp2_with fail
  refine (power_any b _ (by omega)).mono ?_
  rintro e w1 ⟨rfl, rfl⟩
  go_wp2_with fail
  go_loopw [8, 9] (fun nn ii wr => ∃ (j i n : Nat), nn = .int .i64 n ∧ ii = .int .i64 i ∧ Hid (goS l 5 1 r = goS l j i n) ∧ i + j = 6 ∧ 1 ≤ i ∧ HN n i ∧ Below w.heap.size w wr) (fun _ ii _ => 6 - (intOf ii).toNat)
  case atStart => exact ⟨5, 1, r, by rw [HREM.out], rfl, rfl, rfl, Nat.le_refl _, by show r < 256 * 1; omega, Below.refl _ _⟩
  case round =>
    obtain ⟨j, i, n, rfl, rfl, HE, hij, hi1, hN, hbel⟩ := hrel
    clear hc hrf hr255 el0 hpw hpp hp8 hf0
    by_cases h6 : i = 6
    · subst h6
      obtain rfl : j = 0 := by omega
      have HX := hide (HE.out.trans (show goS l 0 6 n = (0, 0, 5) from rfl))
      go_wp2_with fail
      go_ret3
      exact get_ret HX.out rfl hbel
    · have hi5 : i ≤ 5 := by omega
      obtain ⟨j, rfl⟩ : ∃ j', j = j' + 1 := ⟨j - 1, by omega⟩
      by_cases hlen : l.length ≤ i
      · have HX := hide (HE.out.trans (goS_short hlen))
        go_wp2_with fail
        go_ret3
        exact get_ret HX.out rfl hbel
      · have hlen' : i < l.length := by omega
        obtain ⟨b2, o2, e2, hc1⟩ := (hs.kept hbel) i _ (u8_at hlen')
        injection e2 with e2
        injection e2 with e2 e3
        subst e2 e3
        obtain ⟨y, hy1, hy2, hy3⟩ := getD_at hlen' HW.out
        rw [hy1] at hc1
        have HY := hide hy2
        obtain ⟨p, t, m', hp, hpw, ht, htb, hnb, hm1, hm2, hm3⟩ := step_sum i n y hi1 hi5 hN
        have q1 : Int.tmod (y : Int) 128 = (y : Int) % 128 := Int.tmod_eq_emod_of_nonneg (by omega)
        have q2' : (y : Int) % 128 * (p : Int) = (t : Int) := by rw [← ht, Int.natCast_mul, Int.natCast_emod]; rfl
        have q2 : IntKind.i64.wrap ((y : Int) % 128 * (p : Int)) = (t : Int) := by rw [q2']; exact IntWalk.i64_in _ (by omega)
        have hmi : (n : Int) + (t : Int) = (m' : Int) := by omega
        have q3 : IntKind.i64.wrap ((n : Int) + (t : Int)) = (m' : Int) := by rw [hmi]; exact IntWalk.i64_in _ (by omega)
        have q4 : IntKind.i64.wrap (m' : Int) = (m' : Int) := IntWalk.i64_in _ (by omega)
        have HP : Hid ((pw (7 * ((i : Int) - 1)).toNat : Int) = (p : Int)) := by rw [Hid, ← hpw, show (7 * ((i : Int) - 1)).toNat = 7 * (i - 1) from by omega]
        have HM := hide hm2
        clear hy1 hy2 hlen hm2 hm1 ht hpw q2' hmi
        go_wp2_with fail
        go_quiet ((go_at_call 13; exact Calls.quiet_of_same ((power_z _ _ _ HP (by omega) (by omega)).mono fun e w' h => ⟨h.1, h.2.symm⟩)))
        by_cases h128 : 128 ≤ y
        · have HX := hide (HE.out.trans (goS_on hlen' HY.out h128 HM.out))
          go_wp2_with fail
          go_roundw
          case rel => exact ⟨j, i + 1, m', by go_num, by go_num, HX, by omega, by omega, hm3, below_drewN hbel _⟩
          case measure => simp [intOf]; omega
        · have h128' : y < 128 := by omega
          by_cases hg : 2147483647 < m'
          · have HX := hide (HE.out.trans (goS_great hlen' HY.out h128' HM.out hg))
            go_wp2_with fail
            go_ret3
            exact get_ret HX.out rfl (below_drewN hbel _)
          · have HX := hide (HE.out.trans (goS_end hlen' HY.out h128' HM.out hg (show ((i + 1 : Nat) : Int) = (i : Int) + 1 from rfl)))
            go_wp2_with fail
            go_ret3
            exact get_ret HX.out rfl (below_drewN hbel _)
end Go.Proofs.Ytpkdmbdmfokkiaa
