/- Contract: Total, of the program. -/
import Derived.Test.YtoegcmklilmnfaaM
import Derived.Test.YtoegcmklilmnfaaF
import Derived.WalkMore
namespace Go.Proofs.Ytoegcmklilmnfaa
open Go.RowKit

/-- The sum of what is left, on top of two amounts: both sums and the error. -/
def totS : List (Option (Int × Int)) → Int → Int → Int × Int × Int
  | [], a, b => (a, b, 0)
  | none :: _, _, _ => (0, 0, 4)
  | some (c, d) :: l, a, b => if Am (a + c) ∧ Am (b + d) then totS l (a + c) (b + d) else (0, 0, 5)
/-- Two words, and the amounts that they are. -/
def El (u v : Nat) : Option (Int × Int) → Prop
  | some (c, d) => Am c ∧ Am d ∧ u = fw c ∧ v = fw d
  | none => ∀ w, Calls Try.prog 19 #[.complex .f64 u v] w fun e w' => e = .returned (.bool false) ∧ w = w'
theorem El.yes {u v : Nat} {c d : Int} (h : El u v (some (c, d))) (w : World) : Calls Try.prog 19 #[.complex .f64 u v] w fun e w' => e = .returned (.bool true) ∧ w = w' := by
  obtain ⟨h1, h2, rfl, rfl⟩ := h
  exact right_yes c d w h1.1 h1.2 h2.1 h2.2
theorem El.no {u v : Nat} (h : El u v none) (w : World) : Calls Try.prog 19 #[.complex .f64 u v] w fun e w' => e = .returned (.bool false) ∧ w = w' := h w
theorem add_some (b d : Int) (hb : Am b) (hd : Am d) : ∃ v, floatBits .add .f64 (fw b) (fw d) = some v ∧ (Am (b + d) → v = fw (b + d)) ∧ (¬ Am (b + d) → Far v) := by
  by_cases h : Am (b + d)
  · exact ⟨_, add_fw b d (am_abs hb) (am_abs hd) (am_abs h), fun _ => rfl, fun h2 => absurd h h2⟩
  · obtain ⟨x, hx, hf⟩ := add_far b d hb hd h
    exact ⟨x, hx, fun h2 => absurd h2 h, fun _ => hf⟩
/-- A sum of two pairs, and whether it is one. -/
theorem sum_el (a b c d : Int) (ha : Am a) (hb : Am b) (hc : Am c) (hd : Am d) : ∃ u v, (∀ w, (binOp .add 22 (.complex .f64 (fw a) (fw b)) (.complex .f64 (fw c) (fw d))).run Try.prog w = .ok (.complex .f64 u v) w) ∧
    El u v (if Am (a + c) ∧ Am (b + d) then some (a + c, b + d) else none) := by
  obtain ⟨u, hu, u1, u2⟩ := add_some a c ha hc
  obtain ⟨v, hv, v1, v2⟩ := add_some b d hb hd
  refine ⟨u, v, cadd_far a b c d u v hu hv, ?_⟩
  by_cases h1 : Am (a + c)
  · by_cases h2 : Am (b + d)
    · rw [if_pos ⟨h1, h2⟩]; exact ⟨h1, h2, u1 h1, v1 h2⟩
    · rw [if_neg (fun h => h2 h.2)]; rw [u1 h1]; exact fun w => right_no2 (a + c) v w h1.1 h1.2 (v2 h2)
  · rw [if_neg (fun h => h1 h.1)]; exact fun w => right_no1 u v w (u2 h1)

set_option maxHeartbeats 1000000 in
theorem total15 (A : Option Addr) (n c : Nat) (l : List (Nat × Nat × Option (Int × Int))) (x y e0 : Int) (w : World) (HL : Hid (l.length = n)) (hn : n ≤ maxLen) (HS : Hid (Sees w A (l.map fun q => Value.complex .f64 q.1 q.2.1))) (HE : Hid (∀ q ∈ l, El q.1 q.2.1 q.2.2))
    (HT : Hid (totS (l.map fun q => q.2.2) 0 0 = (x, y, e0))) : Calls Try.prog 15 #[.slice A n c] w fun e w' => e = .returned (.tuple #[.complex .f64 (fw x) (fw y), .int .i64 e0]) ∧ w = w' := by
  have H0 : Hid (Am 0) := hide am0
  have hz : fw 0 = 0 := fw_zero
  unfold maxLen at hn
  go_enter Try.func15, Try.ntmps15
  go_wp2_with fail
  go_loop [4, 9] (fun cc ii => ∃ (k : Nat) (a b : Int), cc = .complex .f64 (fw a) (fw b) ∧ ii = .int .i64 k ∧ k ≤ n ∧ Hid (Am a) ∧ Hid (Am b) ∧ Hid (totS ((l.drop k).map fun q => q.2.2) a b = (x, y, e0))) (fun _ ii => n - (intOf ii).toNat)
  case atStart => exact ⟨0, 0, 0, by rw [fw_zero], rfl, Nat.zero_le _, H0, H0, by simpa using HT⟩
  case round =>
    obtain ⟨k, a, b, rfl, rfl, hk, ha, hb, HR⟩ := hrel
    clear hz
    by_cases hlt : k < n
    · have hkl : k < l.length := by have := HL.out; omega
      obtain ⟨u, v, o, hst⟩ : ∃ u v o, l[k] = (u, v, o) := ⟨_, _, _, rfl⟩
      have hel : El u v o := by have := HE.out l[k] (List.getElem_mem hkl); rw [hst] at this; exact this
      obtain ⟨bb, oo, rfl, s0⟩ := HS.out k (.complex .f64 u v) (by rw [List.getElem?_map, List.getElem?_eq_getElem hkl, hst]; rfl)
      have hki : (k : Int) < (n : Int) := by omega
      have HR2 : Hid (totS (o :: (l.drop (k + 1)).map fun q => q.2.2) a b = (x, y, e0)) := hide (by
        have := HR.out
        rw [List.drop_eq_getElem_cons hkl, List.map_cons, hst] at this
        exact this)
      have HEL := hide hel
      clear hel hst hkl HR
      cases o with
      | none =>
        have h2 := HR2.out
        unfold totS at h2
        obtain ⟨rfl, rfl, rfl⟩ : 0 = x ∧ 0 = y ∧ 4 = e0 := by simpa using h2
        clear h2
        go_wp2_with fail
        refine (HEL.out.no _).mono ?_
        rintro e w1 ⟨rfl, rfl⟩
        go_wp2_with fail
        go_ret2
        exact ⟨by rw [fw_zero]; rfl, rfl⟩
      | some q =>
        obtain ⟨cc, dd⟩ := q
        obtain ⟨hc1, hd1, rfl, rfl⟩ := HEL.out
        obtain ⟨u, v, hadd, hs⟩ := sum_el a b cc dd ha.out hb.out hc1 hd1
        have HEL2 := hide hs
        clear hs hc1 hd1
        by_cases hq : Am (a + cc) ∧ Am (b + dd)
        · have HEL3 : Hid (El u v (some (a + cc, b + dd))) := hide (by have := HEL2.out; rw [if_pos hq] at this; exact this)
          have HR3 : Hid (totS ((l.drop (k + 1)).map fun q => q.2.2) (a + cc) (b + dd) = (x, y, e0)) := hide (by
            have h2 := HR2.out
            unfold totS at h2
            rw [if_pos hq] at h2
            exact h2)
          have HA := hide hq.1
          have HB := hide hq.2
          clear hq HEL2
          obtain ⟨_, _, rfl, rfl⟩ := HEL3.out
          go_wp2_with fail
          refine (HEL.out.yes _).mono ?_
          rintro e w1 ⟨rfl, rfl⟩
          go_wp2_with fail
          refine (HEL3.out.yes _).mono ?_
          rintro e w1 ⟨rfl, rfl⟩
          go_wp2_with fail
          go_round
          case rel => exact ⟨k + 1, a + cc, b + dd, rfl, by go_num, by omega, HA, HB, HR3⟩
          case measure => simp [intOf]; omega
        · have HEL3 : Hid (El u v none) := hide (by have := HEL2.out; rw [if_neg hq] at this; exact this)
          have h2 := HR2.out
          unfold totS at h2
          rw [if_neg hq] at h2
          obtain ⟨rfl, rfl, rfl⟩ : 0 = x ∧ 0 = y ∧ 5 = e0 := by simpa using h2
          clear h2 hq HEL2
          go_wp2_with fail
          refine (HEL.out.yes _).mono ?_
          rintro e w1 ⟨rfl, rfl⟩
          go_wp2_with fail
          refine (HEL3.out.no _).mono ?_
          rintro e w1 ⟨rfl, rfl⟩
          go_wp2_with fail
          go_ret2
          exact ⟨by rw [fw_zero]; rfl, rfl⟩
    · have h2 := HR.out
      rw [List.drop_eq_nil_of_le (by have := HL.out; omega)] at h2
      unfold totS at h2
      obtain ⟨rfl, rfl, rfl⟩ : a = x ∧ b = y ∧ 0 = e0 := by simpa using h2
      clear h2
      go_wp2_with fail
      go_ret2
      exact ⟨rfl, rfl⟩
end Go.Proofs.Ytoegcmklilmnfaa
