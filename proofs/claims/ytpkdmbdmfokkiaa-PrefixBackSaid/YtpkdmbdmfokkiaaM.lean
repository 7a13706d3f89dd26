/- Put, where more bytes follow; and Put as a whole. -/
import Derived.Test.YtpkdmbdmfokkiaaL
namespace Go.Proofs.Ytpkdmbdmfokkiaa
open Go.RowKit

theorem own_cap {w : World} {base : Nat} {e : TypeId} {size : Nat} {n : Nat} {xs : List Value} {g c : Nat} (h : w.ownsRow base e size (.slice (some ⟨g, 0, none⟩) n c) n xs) : n ≤ c := by
  rcases h.2 with ⟨h1, _⟩ | ⟨g2, cap, cur, h1, _, _, hnc, _⟩
  · simp at h1
  · simp only [Value.slice.injEq, true_and] at h1
    rw [h1.2]; exact hnc
theorem shr7 (n : Nat) : (n : Int) / 128 = ((n / 128 : Nat) : Int) := by omega

set_option maxRecDepth 10000 in
set_option maxHeartbeats 1000000 in
theorem put_great (a b n : Nat) (w : World) (h1 : 1 ≤ b) (h8 : b ≤ 8) (ha : a ≤ 255) (h : a % 2 ^ b = 0) (hn : fl b ≤ n) (hx : a + fl b ≤ 255) (hm : n ≤ 2147483647) :
    Calls Try.prog 6 #[.int .i64 a, .int .i64 b, .int .i64 n] w (PutCap (((a : Int) + fl b) :: dg 5 (n - fl b), 0) w) := by
  have HB := hide (And.intro h1 h8)
  have hand := and_fl a b ha h8
  rw [h] at hand
  have hf := fl_lt h8
  have hs := fl_succ b
  have hor := or_low a b (fl b) ha h (by omega) (by omega)
  have hnf : ((fl b : Nat) : Int) ≤ (n : Int) := by omega
  have hf0 : ((fl b : Nat) : Int) ≤ 255 := by omega
  have hx2 : (a : Int) + ((fl b : Nat) : Int) ≤ 255 := by omega
  rw [show ((a + fl b : Nat) : Int) = (a : Int) + ((fl b : Nat) : Int) from by omega] at hor
  clear h1 h8 h hs
  obtain ⟨i0, hi, hz0, hz1, hz2⟩ := info_parts Try.info5
  obtain ⟨x, hxx⟩ : ∃ x : Int, (a : Int) + ((fl b : Nat) : Int) = x := ⟨_, rfl⟩
  obtain ⟨m0, hm0⟩ : ∃ m : Nat, n - fl b = m := ⟨_, rfl⟩
  have HX := hide hxx
  have HM0 := hide hm0
  have hm0i : (n : Int) - ((fl b : Nat) : Int) = (m0 : Int) := by omega
  rw [hm0]
  have hdn : decide (n < fl b) = false := by simpa using hn
  clear hm0 hxx
  go_enter Try.func6, Try.ntmps6
  go_wp2_with fail
  refine (full_yes b _ HB.out.1 HB.out.2).mono ?_
  rintro e w1 ⟨rfl, rfl⟩
  go_wp2_with fail
  have hm0' : m0 ≤ 2147483647 := by omega
  have hp0 : m0 < 128 ^ (5 + 1) := by omega
  have HP0 := hide hp0
  clear hp0 hm0i hand hor hnf hm hn
  go_loopw [2, 10] (fun nn v wr => ∃ (j m : Nat) (done : List Int) (g c : Nat), nn = .int .i64 m ∧ v = .slice (some ⟨g, 0, none⟩) done.length c ∧ wr.ownsRow w.heap.size 5 1 (.slice (some ⟨g, 0, none⟩) done.length c) done.length (done.map (Value.int .u8)) ∧
      Hid (x :: dg 5 m0 = done ++ dg j m) ∧ Hid (m < 128 ^ (j + 1)) ∧ m ≤ 2147483647 ∧ done.length + j ≤ 6 ∧ Below w.heap.size w wr) (fun nn _ _ => (intOf nn).toNat)
  case atStart =>
    refine ⟨5, m0, [x], w.heap.size, 1, rfl, rfl, ?_, rfl, HP0, hm0', by simp, (Below.refl _ _).alloc (Nat.le_refl _) _⟩
    rw [← HX.out]
    exact own_lit w _ 5 1 (by decide) rfl _ (Nat.le_refl _)
  case round =>
    obtain ⟨j, m, done, g, c, rfl, rfl, hown, HE, HP, hm, hd, hbel⟩ := hrel
    have hsz := hbel.size
    by_cases h128 : m < 128
    · go_wp2_with (at_builtin; go_loud (refine wpList_push rfl (.tmp 68) (.tmp 71) 22 rfl w.heap.size 5 Try.info5 rfl Try.underlying22 (some ⟨g, 0, none⟩) done.length c _ _ rfl hown wr.heap.size rfl rfl rfl (by unfold maxLen; omega) (by omega) hsz ?_))
      intro g' c' w2 own2 hg2
      have hb2 : Below w.heap.size w w2 := (hbel.alloc hsz _).grown hg2 (by simp; omega) (fun k e => own_row_ge hown k e)
      clear hg2 hown
      go_wp2_with fail
      go_ret2
      have he := HE.out
      rw [dg_small j m h128] at he
      refine ⟨some ⟨g', 0, none⟩, c', ?_, ?_, ?_, hb2⟩
      · rw [HX.out, he]
        show Ending.returned _ = _
        simp
      · rw [HX.out, he]
        have := own_cap own2
        simpa using this
      · rw [HX.out, he]
        have := Sees.of_own own2
        simpa using this
    · obtain ⟨j', rfl⟩ : ∃ j', j = j' + 1 := ⟨j - 1, by
        rcases j with _ | j
        · have := HP.out; simp at this; omega
        · omega⟩
      have hl := low7 m (by omega)
      have ho := or128 (m % 128) (by omega)
      rw [show ((128 + m % 128 : Nat) : Int) = 128 + (m : Int) % 128 from by omega] at ho
      rw [show ((m % 128 : Nat) : Int) = (m : Int) % 128 from by omega] at hl ho
      go_wp2_with (at_builtin; go_loud (refine wpList_push rfl (.tmp 59) (.tmp 64) 22 rfl w.heap.size 5 Try.info5 rfl Try.underlying22 (some ⟨g, 0, none⟩) done.length c _ _ rfl hown wr.heap.size rfl rfl rfl (by unfold maxLen; omega) (by omega) hsz ?_))
      intro g' c' w2 own2 hg2
      have hb2 : Below w.heap.size w w2 := (hbel.alloc hsz _).grown hg2 (by simp; omega) (fun k e => own_row_ge hown k e)
      have HE2 : Hid (x :: dg 5 m0 = (done ++ [128 + (m : Int) % 128]) ++ dg j' (m / 128)) := by
        have := HE.out
        rw [dg_more _ _ h128] at this
        rw [Hid, this, List.append_assoc, show ((128 + m % 128 : Nat) : Int) = 128 + (m : Int) % 128 from by omega]
        rfl
      have HP2 : Hid (m / 128 < 128 ^ (j' + 1)) := by
        have := HP.out
        rw [Nat.pow_succ] at this
        rw [Hid, Nat.div_lt_iff_lt_mul (by decide)]
        exact this
      clear hg2 hown hl ho
      go_wp2_with fail
      go_roundw
      case rel => exact ⟨j', m / 128, done ++ [128 + (m : Int) % 128], g', c', by go_num, by simp, by simpa using own2, HE2, HP2, by omega, by simp; omega, hb2⟩
      case measure => simp [intOf]; omega

theorem pow_le8 {b : Nat} (h : b ≤ 8) : 2 ^ b ≤ 256 := by
  have : 2 ^ b ≤ 2 ^ 8 := Nat.pow_le_pow_right (by decide) h
  omega
theorem mult_fl {a b : Nat} (ha : a ≤ 255) (h8 : b ≤ 8) (h : a % 2 ^ b = 0) : a + fl b ≤ 255 := by
  have h1 := fl_succ b
  obtain ⟨q, rfl⟩ : ∃ q, a = 2 ^ b * q := ⟨a / 2 ^ b, by have := Nat.div_add_mod a (2 ^ b); omega⟩
  have h256 : 2 ^ b * 2 ^ (8 - b) = 256 := by rw [← Nat.pow_add, show b + (8 - b) = 8 from by omega]
  have hq : q + 1 ≤ 2 ^ (8 - b) := by
    have : 2 ^ b * q < 2 ^ b * 2 ^ (8 - b) := by omega
    exact Nat.lt_of_mul_lt_mul_left this
  have : 2 ^ b * (q + 1) ≤ 2 ^ b * 2 ^ (8 - b) := Nat.mul_le_mul_left _ hq
  rw [Nat.mul_add, Nat.mul_one] at this
  omega

theorem put_any (first bits n : Int) (w : World) : Calls Try.prog 6 #[.int .i64 first, .int .i64 bits, .int .i64 n] w (PutCap (putS first bits n) w) := by
  by_cases hb : bits < 1 ∨ 8 < bits
  · exact put_nobits first bits n w hb
  · obtain ⟨b, rfl⟩ : ∃ b : Nat, bits = b := ⟨bits.toNat, by omega⟩
    have h1 : 1 ≤ b := by omega
    have h8 : b ≤ 8 := by omega
    by_cases ha : first < 0 ∨ 255 < first ∨ first.toNat % 2 ^ b ≠ 0
    · rw [putS_arg (by rcases ha with h | h | h; exact .inr (.inr (.inl h)); exact .inr (.inr (.inr (.inl h))); exact .inr (.inr (.inr (.inr (by simpa using h)))))]
      exact put_arg first n b w h1 h8 ha
    · have hno : ¬ ((b : Int) < 1 ∨ 8 < (b : Int) ∨ first < 0 ∨ 255 < first ∨ first.toNat % 2 ^ (b : Int).toNat ≠ 0) := by
        rintro (h | h | h | h | h)
        · omega
        · omega
        · exact ha (.inl h)
        · exact ha (.inr (.inl h))
        · exact ha (.inr (.inr (by simpa using h)))
      obtain ⟨a, rfl⟩ : ∃ a : Nat, first = a := ⟨first.toNat, by omega⟩
      have ha2 : a ≤ 255 := by omega
      have hm : a % 2 ^ b = 0 := by
        rcases Nat.eq_zero_or_pos (a % 2 ^ b) with h | h
        · exact h
        · exact absurd (.inr (.inr (by simp; omega))) ha
      by_cases hn : n < 0 ∨ 2147483647 < n
      · rw [putS_range hno hn]
        exact put_range a b n w h1 h8 ha2 hm hn
      · obtain ⟨m, rfl⟩ : ∃ m : Nat, n = m := ⟨n.toNat, by omega⟩
        have hx := mult_fl ha2 h8 hm
        by_cases hs : m < fl b
        · rw [putS_small hno hn (by simpa using hs)]
          exact put_small a b m w h1 h8 ha2 hm hs (by omega)
        · rw [putS_great hno hn (by simpa using hs)]
          have e : ((m : Int) - (fl (b : Int).toNat : Nat)).toNat = m - fl b := by simp
          rw [e]
          have e2 : ((b : Int).toNat) = b := by simp
          rw [e2]
          exact put_great a b m w h1 h8 ha2 hm (by omega) hx (by omega)
end Go.Proofs.Ytpkdmbdmfokkiaa
