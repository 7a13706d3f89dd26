/- Contracts of the reference's functions May and Beyond, over a list of numbers that a slice shows. -/
import Derived.Test.YtndddngpinoagaaRows
import Derived.Test.YtndddngpinoagaaK0
import Derived.Outline
namespace Go.Proofs.Ytndddngpinoagaa
open Go.RowKit

def mayB (m : List Int) (x : Int) : Bool := decide (0 ≤ x) && (decide (x ≤ 2147483647) && m.all (fun y => decide (x ≤ y)))
def beyB (m : List Int) (x : Int) : Bool := m.any (fun y => decide (y < x))

theorem int_at {m : List Int} {k : Nat} (h : k < m.length) : (m.map (Value.int .i64))[k]? = some (.int .i64 m[k]) := by simp [h]
theorem all_take {m : List Int} {p : Int → Bool} {k : Nat} (h : k < m.length) (ha : (m.take k).all p = true) (hp : p m[k] = true) : (m.take (k + 1)).all p = true := by
  rw [List.take_succ_eq_append_getElem h, List.all_append, ha]; simp [hp]
theorem any_take {m : List Int} {p : Int → Bool} {k : Nat} (h : k < m.length) (ha : (m.take k).any p = false) (hp : p m[k] = false) : (m.take (k + 1)).any p = false := by
  rw [List.take_succ_eq_append_getElem h, List.any_append, ha]; simp [hp]
theorem all_no {m : List Int} {p : Int → Bool} {k : Nat} (h : k < m.length) (hp : p m[k] = false) : m.all p = false := by
  rw [List.all_eq_false]; exact ⟨_, List.getElem_mem h, by simp [hp]⟩
theorem any_yes {m : List Int} {p : Int → Bool} {k : Nat} (h : k < m.length) (hp : p m[k] = true) : m.any p = true := by
  rw [List.any_eq_true]; exact ⟨_, List.getElem_mem h, hp⟩

theorem may_any (A : Option Addr) (c : Nat) (m : List Int) (x : Int) (w : World) (B : Nat) (hs : Sees w B A (m.map (Value.int .i64))) (hm : m.length ≤ 1000000) :
    Calls Try.prog 7 #[.slice A m.length c, .int .i64 x] w fun e w' => e = .returned (.bool (mayB m x)) ∧ w = w' := by
  by_cases h0 : 0 ≤ x
  · by_cases h1 : x ≤ 2147483647
    · go_enter Try.func7, Try.ntmps7
      go_wp2
      go_loop [5] (fun i => ∃ k : Nat, k ≤ m.length ∧ i = .int .i64 k ∧ Hid ((m.take k).all (fun y => decide (x ≤ y)) = true)) (fun i => m.length - (intOf i).toNat)
      case atStart => exact ⟨0, Nat.zero_le _, rfl, by simp [Hid]⟩
      case round =>
        obtain ⟨k, hk, rfl, HA⟩ := hrel
        by_cases hlt : k < m.length
        · obtain ⟨b, o, rfl, hb, hc⟩ := hs k _ (int_at hlt)
          clear hs
          by_cases hy : x ≤ m[k]
          · have HA' : Hid ((m.take (k + 1)).all (fun y => decide (x ≤ y)) = true) := all_take hlt HA.out (by simpa using hy)
            go_wp2
            go_round
            case rel => exact ⟨k + 1, by omega, by go_num, HA'⟩
            case measure => simp [intOf]; omega
          · have hy' : m[k] < x := by omega
            have HN : Hid (mayB m x = false) := by simp only [Hid, mayB, all_no (p := fun y => decide (x ≤ y)) hlt (by simpa using hy'), Bool.and_false]
            clear hy
            go_wp2
            go_ret
            exact ⟨ret_bool HN.out.symm, rfl⟩
        · go_wp2
          go_ret
          have := HA.out
          rw [List.take_of_length_le (by omega)] at this
          exact ⟨ret_bool (by rw [mayB, this]; simp [h0, h1]), rfl⟩
    · have h1' : 2147483647 < x := by omega
      go_enter Try.func7, Try.ntmps7
      go_wp2
      go_ret
      exact ⟨ret_bool (by rw [mayB, show decide (x ≤ 2147483647) = false from by simpa using h1']; simp), rfl⟩
  · have h0' : x < 0 := by omega
    go_enter Try.func7, Try.ntmps7
    go_wp2
    go_ret
    exact ⟨ret_bool (by rw [mayB, show decide (0 ≤ x) = false from by simpa using h0']; simp), rfl⟩

theorem beyB_any (A : Option Addr) (c : Nat) (m : List Int) (x : Int) (w : World) (B : Nat) (hs : Sees w B A (m.map (Value.int .i64))) (hm : m.length ≤ 1000000) :
    Calls Try.prog 9 #[.slice A m.length c, .int .i64 x] w fun e w' => e = .returned (.bool (beyB m x)) ∧ w = w' := by
  go_enter Try.func9, Try.ntmps9
  go_wp2
  go_loop [5] (fun i => ∃ k : Nat, k ≤ m.length ∧ i = .int .i64 k ∧ Hid ((m.take k).any (fun y => decide (y < x)) = false)) (fun i => m.length - (intOf i).toNat)
  case atStart => exact ⟨0, Nat.zero_le _, rfl, by simp [Hid]⟩
  case round =>
    obtain ⟨k, hk, rfl, HA⟩ := hrel
    by_cases hlt : k < m.length
    · obtain ⟨b, o, rfl, hb, hc⟩ := hs k _ (int_at hlt)
      clear hs
      by_cases hy : m[k] < x
      · have HN : Hid (beyB m x = true) := any_yes hlt (by simpa using hy)
        go_wp2
        go_ret
        exact ⟨ret_bool HN.out.symm, rfl⟩
      · have HA' : Hid ((m.take (k + 1)).any (fun y => decide (y < x)) = false) := any_take hlt HA.out (by simpa using hy)
        have hy' : x ≤ m[k] := by omega
        clear hy
        go_wp2
        go_round
        case rel => exact ⟨k + 1, by omega, by go_num, HA'⟩
        case measure => simp [intOf]; omega
    · go_wp2
      go_ret
      have := HA.out
      rw [List.take_of_length_le (by omega)] at this
      exact ⟨ret_bool (by rw [beyB, this]), rfl⟩
theorem may_q (A : Option Addr) (n c : Nat) (m : List Int) (x : Int) (w : World) (B : Nat) (q : Bool) (hn : m.length = n) (hq : mayB m x = q) (hs : Sees w B A (m.map (Value.int .i64))) (hm : m.length ≤ 1000000) :
    Calls Try.prog 7 #[.slice A n c, .int .i64 x] w fun e w' => e = .returned (.bool q) ∧ w = w' := by
  rw [← hq, ← hn]; exact may_any A c m x w B hs hm
theorem beyB_q (A : Option Addr) (n c : Nat) (m : List Int) (x : Int) (w : World) (B : Nat) (q : Bool) (hn : m.length = n) (hq : beyB m x = q) (hs : Sees w B A (m.map (Value.int .i64))) (hm : m.length ≤ 1000000) :
    Calls Try.prog 9 #[.slice A n c, .int .i64 x] w fun e w' => e = .returned (.bool q) ∧ w = w' := by
  rw [← hq, ← hn]; exact beyB_any A c m x w B hs hm
end Go.Proofs.Ytndddngpinoagaa
