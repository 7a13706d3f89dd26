/- The reference's Put; Same. -/
import Derived.Test.YtpkdmbdmfokkiaaM
import Derived.Deep.QuietTactic
import Derived.BigQuiet
namespace Go.Proofs.Ytpkdmbdmfokkiaa
open Go.RowKit

theorem pw_fl (b : Nat) : ((pw b : Nat) : Int) - 1 = (fl b : Nat) := by have := fl_succ b; unfold pw; omega
theorem pw_pos (b : Nat) : (1 : Int) ≤ (pw b : Nat) := by have := fl_succ b; unfold pw; omega
theorem pw_le8 {b : Nat} (h : b ≤ 8) : ((pw b : Nat) : Int) ≤ 256 := by have := pow_le8 h; unfold pw; omega

theorem rput_nobits (first bits n : Int) (w : World) (h : bits < 1 ∨ 8 < bits) : Calls Try.prog 7 #[.int .i64 first, .int .i64 bits, .int .i64 n] w (PutPost (putS first bits n) w) := by
  rw [putS_arg (by omega)]
  by_cases h1 : bits < 1
  all_goals
    have h' : bits < 1 ∨ 8 < bits := h
    clear h
    go_enter Try.func7, Try.ntmps7
    go_wp2_with fail
    go_ret2
    exact ⟨none, 0, rfl, Sees.nil _ _, Below.refl _ _⟩

theorem rput_arg (first n : Int) (b : Nat) (w : World) (h1 : 1 ≤ b) (h8 : b ≤ 8) (h : first < 0 ∨ 255 < first ∨ first.toNat % 2 ^ b ≠ 0) : Calls Try.prog 7 #[.int .i64 first, .int .i64 b, .int .i64 n] w (PutPost ([], 1) w) := by
  by_cases hf : first < 0
  · clear h
    go_enter Try.func7, Try.ntmps7
    go_wp2_with fail
    go_ret2
    exact ⟨none, 0, rfl, Sees.nil _ _, Below.refl _ _⟩
  · by_cases hf2 : 255 < first
    · clear h
      go_enter Try.func7, Try.ntmps7
      go_wp2_with fail
      go_ret2
      exact ⟨none, 0, rfl, Sees.nil _ _, Below.refl _ _⟩
    · obtain ⟨a, rfl⟩ : ∃ a : Nat, first = a := ⟨first.toNat, by omega⟩
      have hm : a % pw b ≠ 0 := by rcases h with h | h | h; omega; omega; simpa [pw] using h
      have hp := pw_pos b
      have hp8 := pw_le8 h8
      obtain ⟨r, hr⟩ : ∃ r, a % pw b = r := ⟨_, rfl⟩
      have hmod : (a : Int) % ((pw b : Nat) : Int) = (r : Int) := by rw [← hr]; exact (Int.natCast_emod a (pw b)).symm
      rw [hr] at hm
      have er : ((r : Int) != 0) = true := by simp; omega
      clear h hr hm
      go_enter Try.func7, Try.ntmps7
      go_wp2_with fail
      refine (power_any b _ (by omega)).mono ?_
      rintro e w1 ⟨rfl, rfl⟩
      go_wp2_with fail
      go_ret2
      exact ⟨none, 0, rfl, Sees.nil _ _, Below.refl _ _⟩

theorem rput_range (a b : Nat) (n : Int) (w : World) (h1 : 1 ≤ b) (h8 : b ≤ 8) (ha : a ≤ 255) (h : a % 2 ^ b = 0) (hn : n < 0 ∨ 2147483647 < n) : Calls Try.prog 7 #[.int .i64 a, .int .i64 b, .int .i64 n] w (PutPost ([], 5) w) := by
  have hp := pw_pos b
  have hp8 := pw_le8 h8
  have hmod : (a : Int) % ((pw b : Nat) : Int) = 0 := by rw [← Int.natCast_emod]; unfold pw; rw [h]; rfl
  clear h
  by_cases hf : n < 0
  all_goals
    have hn' : n < 0 ∨ 2147483647 < n := hn
    clear hn
    go_enter Try.func7, Try.ntmps7
    go_wp2_with fail
    refine (power_any b _ (by omega)).mono ?_
    rintro e w1 ⟨rfl, rfl⟩
    go_wp2_with fail
    go_ret2
    exact ⟨none, 0, rfl, Sees.nil _ _, Below.refl _ _⟩

theorem rput_small (a b n : Nat) (w : World) (h1 : 1 ≤ b) (h8 : b ≤ 8) (ha : a ≤ 255) (h : a % 2 ^ b = 0) (hn : n < fl b) (hx : a + n ≤ 255) : Calls Try.prog 7 #[.int .i64 a, .int .i64 b, .int .i64 n] w (PutPost ([(a : Int) + n], 0) w) := by
  have hp := pw_pos b
  have hp8 := pw_le8 h8
  have hfl := pw_fl b
  have hmod : (a : Int) % ((pw b : Nat) : Int) = 0 := by rw [← Int.natCast_emod]; unfold pw; rw [h]; rfl
  have hn2 : (n : Int) ≤ 255 := by omega
  have hx2 : (a : Int) + (n : Int) ≤ 255 := by omega
  clear h
  go_enter Try.func7, Try.ntmps7
  go_wp2_with fail
  refine (power_any b _ (by omega)).mono ?_
  rintro e w1 ⟨rfl, rfl⟩
  go_wp2_with fail
  refine (power_any b _ (by omega)).mono ?_
  rintro e w1 ⟨rfl, rfl⟩
  go_wp2_with fail
  go_ret2
  exact ⟨_, 1, rfl, Sees.born _ _ #[.int .u8 ((a : Int) + n)] _, (Below.refl _ _).alloc (Nat.le_refl _) _⟩

set_option maxRecDepth 10000 in
theorem rput_great (a b n : Nat) (w : World) (h1 : 1 ≤ b) (h8 : b ≤ 8) (ha : a ≤ 255) (h : a % 2 ^ b = 0) (hn : fl b ≤ n) (hx : a + fl b ≤ 255) (hm : n ≤ 2147483647) :
    Calls Try.prog 7 #[.int .i64 a, .int .i64 b, .int .i64 n] w (PutPost (((a : Int) + fl b) :: dg 5 (n - fl b), 0) w) := by
  have hp := pw_pos b
  have hp8 := pw_le8 h8
  have hfl := pw_fl b
  have hmod : (a : Int) % ((pw b : Nat) : Int) = 0 := by rw [← Int.natCast_emod]; unfold pw; rw [h]; rfl
  have hnf : ((fl b : Nat) : Int) ≤ (n : Int) := by omega
  have hf0 : ((fl b : Nat) : Int) ≤ 255 := by omega
  have hx2 : (a : Int) + ((fl b : Nat) : Int) ≤ 255 := by omega
  obtain ⟨i0, hi, hz0, hz1, hz2⟩ := info_parts Try.info5
  obtain ⟨x, hxx⟩ : ∃ x : Int, (a : Int) + ((fl b : Nat) : Int) = x := ⟨_, rfl⟩
  obtain ⟨m0, hm0⟩ : ∃ m : Nat, n - fl b = m := ⟨_, rfl⟩
  have hm0i : (n : Int) - ((fl b : Nat) : Int) = (m0 : Int) := by omega
  have HM := hide (show m0 < 128 ^ (5 + 1) from by omega)
  have HL := hide (dg_len 5 m0)
  have hdn : decide (n < fl b) = false := by simpa using hn
  have hx0 : 0 ≤ x := by omega
  have hx3 : x ≤ 255 := by omega
  rw [hm0, hxx]
  clear h hm0 hn
  go_enter Try.func7, Try.ntmps7
  go_wp2_with fail
  refine (power_any b _ (by omega)).mono ?_
  rintro e w1 ⟨rfl, rfl⟩
  go_wp2_with fail
  refine (power_any b _ (by omega)).mono ?_
  rintro e w1 ⟨rfl, rfl⟩
  go_wp2_with fail
  refine (digits_any 5 m0 _ HM.out (by decide)).mono ?_
  rintro e w1 ⟨g, c, rfl, hown, hb⟩
  have B1 : Blk w1 w.heap.size 5 #[.int .u8 x] := (Blk.born _ _ _).kept hb
  have hb1 := below_base1 hb
  clear hb
  have own1 : w1.ownsRow w.heap.size 5 1 (.slice (some ⟨w.heap.size, 0, none⟩) 1 1) 1 [.int .u8 x] :=
    ⟨rfl, .inr ⟨w.heap.size, 1, _, rfl, Nat.le_refl _, B1, Nat.le_refl _, by decide, rfl, rfl⟩⟩
  have HC := hide (fun j u hu => hown.cells (g := g) rfl j u hu)
  have hsz := hb1.size
  clear hown B1
  go_wp2_with (at_builtin; go_loud (refine wpList_append_own _ rfl (.tmp 51) (.tmp 55) 22 rfl w.heap.size 5 i0 (.int .u8 0) 1 1 Try.underlying22 hi hz0 hz1 hz2 rfl (by decide) _ 1 _ rfl own1 ⟨g, 0, none⟩ (dg 5 m0).length c ((dg 5 m0).map (Value.int .u8)) rfl (by simp) HC.out (ints_oneCell _ _) (by have := HL.out; unfold maxLen; omega) (by have := HL.out; omega) hsz ?_))
  intro v' w2 hown2 hg2 _
  obtain ⟨g', c', rfl⟩ := own_some hown2 (by omega)
  have hb2 := hb1.grown hg2 hsz (fun k e => by simp [Value.ownBlock] at e; omega)
  go_wp2_with fail
  go_ret2
  have el : (x :: dg 5 m0).length = 1 + (dg 5 m0).length := by simp; omega
  refine ⟨some ⟨g', 0, none⟩, c', ?_, ?_, hb2⟩
  · show Ending.returned _ = _
    rw [el]
    rfl
  · exact Sees.of_own hown2

theorem rput_any (first bits n : Int) (w : World) : Calls Try.prog 7 #[.int .i64 first, .int .i64 bits, .int .i64 n] w (PutPost (putS first bits n) w) := by
  by_cases hb : bits < 1 ∨ 8 < bits
  · exact rput_nobits first bits n w hb
  · obtain ⟨b, rfl⟩ : ∃ b : Nat, bits = b := ⟨bits.toNat, by omega⟩
    have h1 : 1 ≤ b := by omega
    have h8 : b ≤ 8 := by omega
    by_cases ha : first < 0 ∨ 255 < first ∨ first.toNat % 2 ^ b ≠ 0
    · rw [putS_arg (by rcases ha with h | h | h; exact .inr (.inr (.inl h)); exact .inr (.inr (.inr (.inl h))); exact .inr (.inr (.inr (.inr (by simpa using h)))))]
      exact rput_arg first n b w h1 h8 ha
    · have hno : ¬ ((b : Int) < 1 ∨ 8 < (b : Int) ∨ first < 0 ∨ 255 < first ∨ first.toNat % 2 ^ (b : Int).toNat ≠ 0) := by
        rintro (h | h | h | h | h)
        · omega
        · omega
        · exact ha (.inl h)
        · exact ha (.inr (.inl h))
        · exact ha (.inr (.inr (by simpa using h)))
      obtain ⟨a, rfl⟩ : ∃ a : Nat, first = a := ⟨first.toNat, by omega⟩
      have ha2 : a ≤ 255 := by omega
      have hm : a % 2 ^ b = 0 := by
        rcases Nat.eq_zero_or_pos (a % 2 ^ b) with h | h
        · exact h
        · exact absurd (.inr (.inr (by simp; omega))) ha
      by_cases hn : n < 0 ∨ 2147483647 < n
      · rw [putS_range hno hn]
        exact rput_range a b n w h1 h8 ha2 hm hn
      · obtain ⟨m, rfl⟩ : ∃ m : Nat, n = m := ⟨n.toNat, by omega⟩
        have hx := mult_fl ha2 h8 hm
        by_cases hs : m < fl b
        · rw [putS_small hno hn (by simpa using hs)]
          exact rput_small a b m w h1 h8 ha2 hm hs (by omega)
        · rw [putS_great hno hn (by simpa using hs)]
          have e : ((m : Int) - (fl (b : Int).toNat : Nat)).toNat = m - fl b := by simp
          rw [e]
          have e2 : ((b : Int).toNat) = b := by simp
          rw [e2]
          exact rput_great a b m w h1 h8 ha2 hm (by omega) hx (by omega)

theorem same_any (A B : Option Addr) (c d : Nat) (xs ys : List Int) (w : World) (hs : Sees w A (xs.map (Value.int .u8))) (ht : Sees w B (ys.map (Value.int .u8))) (hm : xs.length ≤ 1000000) (hn : ys.length ≤ 1000000) :
    Calls Try.prog 8 #[.slice A xs.length c, .slice B ys.length d] w fun e w' => e = .returned (.bool (xs == ys)) ∧ Below w.heap.size w w' := by
  by_cases hl : xs.length = ys.length
  · have hl1 : xs.length ≤ ys.length := by omega
    have hl2 : ys.length ≤ xs.length := by omega
    have HL := hide hl
    clear hl
    go_enter Try.func8, Try.ntmps8
    go_wp2
    go_loopw [5] (fun i wr => ∃ k : Nat, k ≤ xs.length ∧ i = .int .i64 k ∧ Hid (xs.take k = ys.take k) ∧ Below w.heap.size w wr) (fun i _ => xs.length - (intOf i).toNat)
    case atStart => exact ⟨0, Nat.zero_le _, rfl, rfl, Below.refl _ _⟩
    case round =>
      obtain ⟨k, hk, rfl, HA, hbel⟩ := hrel
      by_cases hlt : k < xs.length
      · have hlt' : k < ys.length := by omega
        obtain ⟨b, o, rfl, hc⟩ := (hs.kept hbel) k _ (u8_at hlt)
        obtain ⟨b', o', rfl, hc'⟩ := (ht.kept hbel) k _ (u8_at hlt')
        have i1 : (k : Int) < (xs.length : Int) := by omega
        have i2 : (k : Int) < (ys.length : Int) := by omega
        have i3 : (0 : Int) ≤ (k : Int) := by omega
        by_cases he : xs[k] = ys[k]
        · have e1 : (xs[k] != ys[k]) = false := by simpa using he
          have HN := hide (show xs.take (k + 1) = ys.take (k + 1) from by rw [List.take_succ_eq_append_getElem hlt, List.take_succ_eq_append_getElem hlt', HA.out, he])
          clear he
          go_wp2
          go_quiet (fail)
          go_wp2
          go_roundw
          case rel => exact ⟨k + 1, by omega, by go_num, HN, below_drewN hbel _⟩
          case measure => simp [intOf]; omega
        · have e1 : (xs[k] != ys[k]) = true := by simpa using he
          have HN := hide (show (xs == ys) = false from by rw [beq_eq_false_iff_ne]; rintro rfl; exact he rfl)
          clear he
          go_wp2
          go_quiet (fail)
          go_wp2
          go_ret
          exact ⟨ret_bool HN.out.symm, below_drewN hbel _⟩
      · go_wp2
        go_ret
        have h1 := HA.out
        rw [List.take_of_length_le (by omega), List.take_of_length_le (by omega)] at h1
        exact ⟨ret_bool (by rw [h1]; simp), hbel⟩
  · have HN := hide (show (xs == ys) = false from by rw [beq_eq_false_iff_ne]; rintro rfl; exact hl rfl)
    have hl' : ((xs.length : Int) != (ys.length : Int)) = true := by simp; omega
    clear hl
    go_enter Try.func8, Try.ntmps8
    go_wp2
    go_ret
    exact ⟨ret_bool HN.out.symm, Below.refl _ _⟩

end Go.Proofs.Ytpkdmbdmfokkiaa
