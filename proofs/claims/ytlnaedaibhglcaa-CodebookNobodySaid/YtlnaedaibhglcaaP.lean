/- Contracts: Code, Length, Find, Order, of the book. -/
import Derived.Test.YtlnaedaibhglcaaN
namespace Go.Proofs.Ytlnaedaibhglcaa
open Go.RowKit

def isIn (s : Int) : Prop := 0 ≤ s ∧ s ≤ 256
instance (s : Int) : Decidable (isIn s) := inferInstanceAs (Decidable (_ ∧ _))
theorem out_of {s : Int} (h : ¬ isIn s) : s < 0 ∨ 256 < s := by unfold isIn at h; omega

theorem Book.made {w : World} {g : Nat} (h : Book w g) : w.cell? ⟨g, 0, none⟩ = some (.bool true) := by
  obtain ⟨A, c, h1, _⟩ := h
  exact h1.cell (by omega)
theorem Book.code {w : World} {g : Nat} (h : Book w g) {k : Nat} (hk : k < 257) : w.cell? ⟨g, 1 + k, none⟩ = some (.int .i64 (cod k : Nat)) := by
  obtain ⟨A, c, h1, _⟩ := h
  rw [h1.cell (by omega), bv_code _ _ _ _ _ _ _ hk]

theorem code_in (g k : Nat) (w : World) (hk : k < 257) (HB : Hid (Book w g)) : Calls Try.prog 8 #[.pointer (some ⟨g, 0, none⟩), .int .i64 (k : Nat)] w fun e w' => e = .returned (.tuple #[.int .i64 (cod k : Nat), .int .i64 (sz k : Nat)]) ∧ Below w.heap.size w w' := by
  have c0 := HB.out.code hk
  have hki : (k : Int) < 257 := by omega
  go_enter Try.func8, Try.ntmps8
  go_wp2_with fail
  refine (has_yes g k _ HB.out.made (by omega) (by omega)).mono ?_
  rintro e w1 ⟨rfl, rfl⟩
  go_wp2_with fail
  go_region_with (go_at_call 18; refine (size_q k _ hk).mono ?_; rintro e w1 ⟨rfl, rfl⟩)
  all_goals
    go_wp2_with fail
    go_ret2
    exact ⟨rfl, (Below.refl _ _).drew⟩
theorem code_out (g : Nat) (s : Int) (w : World) (hs : Hid (¬ isIn s)) (HB : Hid (Book w g)) : Calls Try.prog 8 #[.pointer (some ⟨g, 0, none⟩), .int .i64 s] w fun e w' => e = .returned (.tuple #[.int .i64 0, .int .i64 0]) ∧ Below w.heap.size w w' := by
  go_enter Try.func8, Try.ntmps8
  go_wp2_with fail
  refine (has_no g s _ HB.out.made (out_of hs.out)).mono ?_
  rintro e w1 ⟨rfl, rfl⟩
  go_wp2_with fail
  go_ret2
  exact ⟨rfl, Below.refl _ _⟩
/-- A symbol's code and its size, of any number. -/
def codI (s : Int) : Int := if isIn s then (cod s.toNat : Nat) else 0
def szI (s : Int) : Int := if isIn s then (sz s.toNat : Nat) else 0
theorem code_any (g : Nat) (s : Int) (w : World) (HB : Hid (Book w g)) : Calls Try.prog 8 #[.pointer (some ⟨g, 0, none⟩), .int .i64 s] w fun e w' => e = .returned (.tuple #[.int .i64 (codI s), .int .i64 (szI s)]) ∧ Below w.heap.size w w' := by
  unfold codI szI
  by_cases h : isIn s
  · rw [if_pos h, if_pos h]
    obtain ⟨k, rfl⟩ : ∃ k : Nat, s = k := ⟨s.toNat, by unfold isIn at h; omega⟩
    have := code_in g k w (by unfold isIn at h; omega) HB
    simpa using this
  · rw [if_neg h, if_neg h]
    exact code_out g s w (hide h) HB

theorem len_in (g k : Nat) (w : World) (hk : k < 257) (HB : Hid (Book w g)) : Calls Try.prog 13 #[.pointer (some ⟨g, 0, none⟩), .int .i64 (k : Nat)] w fun e w' => e = .returned (.int .i64 (sz k : Nat)) ∧ w = w' := by
  go_enter Try.func13, Try.ntmps13
  go_wp2_with fail
  refine (has_yes g k _ HB.out.made (by omega) (by omega)).mono ?_
  rintro e w1 ⟨rfl, rfl⟩
  go_wp2_with fail
  refine (size_q k _ hk).mono ?_
  rintro e w1 ⟨rfl, rfl⟩
  go_wp2_with fail
  go_ret
  exact ⟨rfl, rfl⟩
theorem len_out (g : Nat) (s : Int) (w : World) (hs : Hid (¬ isIn s)) (HB : Hid (Book w g)) : Calls Try.prog 13 #[.pointer (some ⟨g, 0, none⟩), .int .i64 s] w fun e w' => e = .returned (.int .i64 0) ∧ w = w' := by
  go_enter Try.func13, Try.ntmps13
  go_wp2_with fail
  refine (has_no g s _ HB.out.made (out_of hs.out)).mono ?_
  rintro e w1 ⟨rfl, rfl⟩
  go_wp2_with fail
  go_ret
  exact ⟨rfl, rfl⟩
theorem len_any (g : Nat) (s : Int) (w : World) (HB : Hid (Book w g)) : Calls Try.prog 13 #[.pointer (some ⟨g, 0, none⟩), .int .i64 s] w fun e w' => e = .returned (.int .i64 (szI s)) ∧ w = w' := by
  unfold szI
  by_cases h : isIn s
  · rw [if_pos h]
    obtain ⟨k, rfl⟩ : ∃ k : Nat, s = k := ⟨s.toNat, by unfold isIn at h; omega⟩
    have := len_in g k w (by unfold isIn at h; omega) HB
    simpa using this
  · rw [if_neg h]
    exact len_out g s w (hide h) HB

/-! ### Find -/
/-- The symbol of a code of so many bits. -/
def fndS (code n : Int) : Option Nat := if 1 ≤ n ∧ n ≤ 30 ∧ (fs n.toNat : Int) ≤ code ∧ code - fs n.toNat < (cnt n.toNat 257 : Nat) then (flt n.toNat 257)[(code - fs n.toNat).toNat]? else none
theorem find_bad (g : Nat) (code n : Int) (w : World) (hn : n < 1 ∨ 30 < n) (HB : Hid (Book w g)) : Calls Try.prog 10 #[.pointer (some ⟨g, 0, none⟩), .int .i64 code, .int .i64 n] w fun e w' => e = .returned (.tuple #[.int .i64 0, .bool false]) ∧ Below w.heap.size w w' := by
  rcases hn with hn | hn
  all_goals
    go_enter Try.func10, Try.ntmps10
    go_wp2_with fail
    refine (has_yes g 0 _ HB.out.made (by omega) (by omega)).mono ?_
    rintro e w1 ⟨rfl, rfl⟩
    go_wp2_with fail
    go_ret2
    exact ⟨rfl, Below.refl _ _⟩
theorem find_low (g n : Nat) (code : Int) (w : World) (h1 : 1 ≤ n) (h2 : n ≤ 30) (hc : code < (fs n : Nat)) (HB : Hid (Book w g)) : Calls Try.prog 10 #[.pointer (some ⟨g, 0, none⟩), .int .i64 code, .int .i64 (n : Nat)] w fun e w' => e = .returned (.tuple #[.int .i64 0, .bool false]) ∧ Below w.heap.size w w' := by
  obtain ⟨A, C, hbk, _⟩ := HB.out
  have c0 : w.cell? ⟨g, 259 + n, none⟩ = some (.int .i64 (fs n : Nat)) := by rw [hbk.cell (by omega), bv_first _ _ _ _ _ _ _ (by omega)]
  clear hbk
  go_enter Try.func10, Try.ntmps10
  go_wp2_with fail
  refine (has_yes g 0 _ HB.out.made (by omega) (by omega)).mono ?_
  rintro e w1 ⟨rfl, rfl⟩
  go_wp2_with fail
  go_ret2
  exact ⟨rfl, Below.refl _ _⟩
theorem find_high (g n : Nat) (code : Int) (w : World) (h1 : 1 ≤ n) (h2 : n ≤ 30) (hc : (fs n : Nat) ≤ code) (hc2 : (cnt n 257 : Nat) ≤ code - (fs n : Nat)) (hb : code ≤ 9223372036854775807) (HB : Hid (Book w g)) : Calls Try.prog 10 #[.pointer (some ⟨g, 0, none⟩), .int .i64 code, .int .i64 (n : Nat)] w fun e w' => e = .returned (.tuple #[.int .i64 0, .bool false]) ∧ Below w.heap.size w w' := by
  obtain ⟨A, C, hbk, _⟩ := HB.out
  have c0 : w.cell? ⟨g, 259 + n, none⟩ = some (.int .i64 (fs n : Nat)) := by rw [hbk.cell (by omega), bv_first _ _ _ _ _ _ _ (by omega)]
  have c1 : w.cell? ⟨g, 290 + n, none⟩ = some (.int .i64 (cnt n 257 : Nat)) := by rw [hbk.cell (by omega), bv_count _ _ _ _ _ _ _ (by omega)]
  clear hbk
  go_enter Try.func10, Try.ntmps10
  go_wp2_with fail
  refine (has_yes g 0 _ HB.out.made (by omega) (by omega)).mono ?_
  rintro e w1 ⟨rfl, rfl⟩
  go_wp2_with fail
  go_ret2
  exact ⟨rfl, Below.refl _ _⟩
theorem find_yes (g n a x : Nat) (w : World) (h1 : 1 ≤ n) (h2 : n ≤ 30) (ha : (flt n 257)[a]? = some x) (HB : Hid (Book w g)) : Calls Try.prog 10 #[.pointer (some ⟨g, 0, none⟩), .int .i64 ((fs n + a : Nat) : Int), .int .i64 (n : Nat)] w fun e w' => e = .returned (.tuple #[.int .i64 (x : Nat), .bool true]) ∧ Below w.heap.size w w' := by
  obtain ⟨A, C, hbk, hs⟩ := HB.out
  have c0 : w.cell? ⟨g, 259 + n, none⟩ = some (.int .i64 (fs n : Nat)) := by rw [hbk.cell (by omega), bv_first _ _ _ _ _ _ _ (by omega)]
  have c1 : w.cell? ⟨g, 290 + n, none⟩ = some (.int .i64 (cnt n 257 : Nat)) := by rw [hbk.cell (by omega), bv_count _ _ _ _ _ _ _ (by omega)]
  have c2 : w.cell? ⟨g, 321 + n, none⟩ = some (.int .i64 ((ordTo (n - 1)).length : Nat)) := by rw [hbk.cell (by omega), bv_base _ _ _ _ _ _ _ (by omega)]
  have c3 : w.cell? ⟨g, 258, none⟩ = some (.slice A 257 C) := hbk.cell (by omega)
  have hal : a < cnt n 257 := by rw [← flt_length]; exact (List.getElem?_eq_some_iff.1 ha).1
  have ho : (ordTo 30)[(ordTo (n - 1)).length + a]? = some x := ord_at 30 (n - 1) (by omega) a x (by rw [show n - 1 + 1 = n from by omega]; exact ha)
  rw [ord_all] at ho
  have hol : (ordTo (n - 1)).length + a < 257 := by have := (List.getElem?_eq_some_iff.1 ho).1; simpa using this
  have hcell := hs ((ordTo (n - 1)).length + a) (.int .i64 (x : Nat)) (by rw [List.getElem?_map] at ho ⊢; cases hr : (List.range 257)[(ordTo (n - 1)).length + a]? with
    | none => rw [hr] at ho; cases ho
    | some y => rw [hr] at ho; simp at ho ⊢; rw [ho])
  obtain ⟨bb, oo, rfl, c4⟩ := hcell
  obtain ⟨L, hL⟩ : ∃ L, (ordTo (n - 1)).length = L := ⟨_, rfl⟩
  rw [hL] at c2 c4 hol
  have hfb := fs_bound n (by omega)
  have hcc : (((fs n + a : Nat) : Int) - (fs n : Nat)) = (a : Nat) := by omega
  have hfa : (fs n : Int) ≤ ((fs n + a : Nat) : Int) := by omega
  have HH := hide (And.intro ho ha)
  clear hbk hs ho ha hL
  go_enter Try.func10, Try.ntmps10
  go_wp2_with fail
  refine (has_yes g 0 _ HB.out.made (by omega) (by omega)).mono ?_
  rintro e w1 ⟨rfl, rfl⟩
  go_wp2_with fail
  go_region
  all_goals
    go_wp2_with fail
    go_ret2
    exact ⟨rfl, (Below.refl _ _).drew⟩
end Go.Proofs.Ytlnaedaibhglcaa
