/- The walks of the laws PrefaceLike and PrefaceOne. -/
import Derived.Test.YtngcjgnbehbdfaaL
namespace Go.Proofs.Ytngcjgnbehbdfaa
open Go.RowKit

theorem is_q (A : Option Addr) (n c : Nat) (xs : List Int) (w : World) (q : Bool) (hq : (xs == txt) = q) (hn : xs.length = n) (hs : Sees w A (xs.map (Value.int .u8))) (hm : xs.length ≤ 1000000) (hw : ∀ x ∈ xs, 0 ≤ x ∧ x ≤ 255) :
    Calls Try.prog 8 #[.slice A n c] w fun e w' => e = .returned (.bool q) ∧ w = w' := by
  rw [← hq, ← hn]; exact is_any A c xs w hs hm hw
theorem like_q (A : Option Addr) (n c : Nat) (xs : List Int) (w : World) (q : Int) (hq : (cp xs txt : Int) = q) (hn : xs.length = n) (hs : Sees w A (xs.map (Value.int .u8))) (hm : xs.length ≤ 1000000) :
    Calls Try.prog 6 #[.slice A n c] w fun e w' => e = .returned (.int .i64 q) ∧ Below w.heap.size w w' := by
  rw [← hq, ← hn]; exact like_any A c xs w hs hm
theorem rlike_q (A : Option Addr) (n c : Nat) (xs : List Int) (w : World) (q : Int) (hq : (cp xs txt : Int) = q) (hn : xs.length = n) (hs : Sees w A (xs.map (Value.int .u8))) (hm : xs.length ≤ 1000000) :
    Calls Try.prog 7 #[.slice A n c] w fun e w' => e = .returned (.int .i64 q) ∧ Below w.heap.size w w' := by
  rw [← hq, ← hn]; exact rlike_any A c xs w hs hm

theorem plike_any (A : Option Addr) (c : Nat) (xs : List Int) (w : World) (hs : Sees w A (xs.map (Value.int .u8))) (hm : xs.length ≤ 1000) (hw : ∀ x ∈ xs, 0 ≤ x ∧ x ≤ 255) :
    Calls Try.prog 3 #[.slice A xs.length c] w fun e w' => e = .returned (.bool true) ∧ Below w.heap.size w w' := by
  have HW := hide hw
  clear hw
  obtain ⟨L, hL⟩ : ∃ L : Nat, cp xs txt = L := ⟨_, rfl⟩
  have HL := hide (show (cp xs txt : Int) = L from by rw [hL])
  by_cases h24 : xs.length = 24
  · have e24 : ((xs.length : Int) == 24) = true := by simp; omega
    by_cases hL24 : L = 24
    · have eL : ((L : Int) == 24) = true := by simp; omega
      have HQ := hide (show (xs == txt) = true from by rw [beq_iff_eq]; exact cp_all xs txt h24 (by rw [hL, hL24]; rfl))
      clear h24 hL24 hL
      go_enter Try.func3, Try.ntmps3
      go_wp2_with fail
      refine (like_q A _ c xs _ L HL.out rfl hs (by omega)).mono ?_
      rintro e w1 ⟨rfl, hb1⟩
      go_wp2_with fail
      refine (rlike_q A _ c xs _ L HL.out rfl (hs.kept hb1) (by omega)).mono ?_
      rintro e w2 ⟨rfl, hb⟩
      have hb2 := below_next hb1 hb
      go_wp2_with fail
      refine (is_q A _ c xs _ true HQ.out rfl (hs.kept hb2) (by omega) HW.out).mono ?_
      rintro e w3 ⟨rfl, rfl⟩
      go_wp2_with fail
      refine (rlike_q A _ c xs _ L HL.out rfl (hs.kept hb2) (by omega)).mono ?_
      rintro e w4 ⟨rfl, hb⟩
      have hb4 := below_next hb2 hb
      go_wp2_with fail
      refine (alive_any _).mono ?_
      rintro e w5 ⟨rfl, hb⟩
      have hb5 := below_next hb4 hb
      go_wp2_with fail
      go_ret
      exact ⟨rfl, hb5⟩
    · have eL : ((L : Int) == 24) = false := by simp; omega
      have HQ := hide (show (xs == txt) = false from by rw [beq_eq_false_iff_ne]; rintro rfl; rw [cp_self] at hL; exact hL24 (hL.symm.trans txt_len))
      clear h24 hL24 hL
      go_enter Try.func3, Try.ntmps3
      go_wp2_with fail
      refine (like_q A _ c xs _ L HL.out rfl hs (by omega)).mono ?_
      rintro e w1 ⟨rfl, hb1⟩
      go_wp2_with fail
      refine (rlike_q A _ c xs _ L HL.out rfl (hs.kept hb1) (by omega)).mono ?_
      rintro e w2 ⟨rfl, hb⟩
      have hb2 := below_next hb1 hb
      go_wp2_with fail
      refine (is_q A _ c xs _ false HQ.out rfl (hs.kept hb2) (by omega) HW.out).mono ?_
      rintro e w3 ⟨rfl, rfl⟩
      go_wp2_with fail
      refine (rlike_q A _ c xs _ L HL.out rfl (hs.kept hb2) (by omega)).mono ?_
      rintro e w4 ⟨rfl, hb⟩
      have hb4 := below_next hb2 hb
      go_wp2_with fail
      refine (alive_any _).mono ?_
      rintro e w5 ⟨rfl, hb⟩
      have hb5 := below_next hb4 hb
      go_wp2_with fail
      go_ret
      exact ⟨rfl, hb5⟩
  · have e24 : ((xs.length : Int) == 24) = false := by simp; omega
    have HQ := hide (show (xs == txt) = false from by rw [beq_eq_false_iff_ne]; rintro rfl; exact h24 txt_len)
    clear h24 hL
    go_enter Try.func3, Try.ntmps3
    go_wp2_with fail
    refine (like_q A _ c xs _ L HL.out rfl hs (by omega)).mono ?_
    rintro e w1 ⟨rfl, hb1⟩
    go_wp2_with fail
    refine (rlike_q A _ c xs _ L HL.out rfl (hs.kept hb1) (by omega)).mono ?_
    rintro e w2 ⟨rfl, hb⟩
    have hb2 := below_next hb1 hb
    go_wp2_with fail
    refine (is_q A _ c xs _ false HQ.out rfl (hs.kept hb2) (by omega) HW.out).mono ?_
    rintro e w3 ⟨rfl, rfl⟩
    go_wp2_with fail
    refine (alive_any _).mono ?_
    rintro e w5 ⟨rfl, hb⟩
    have hb5 := below_next hb2 hb
    go_wp2_with fail
    go_ret
    exact ⟨rfl, hb5⟩

theorem plike_long (A : Option Addr) (n c : Nat) (w : World) (hl : 1000 < n) (hn : n ≤ maxLen) :
    Calls Try.prog 3 #[.slice A n c] w fun e w' => e = .returned (.bool true) ∧ Below w.heap.size w w' := by
  unfold maxLen at hn
  go_enter Try.func3, Try.ntmps3
  go_wp2_with fail
  refine (alive_any _).mono ?_
  rintro e w1 ⟨rfl, hb⟩
  go_wp2_with fail
  go_ret
  exact ⟨rfl, hb⟩

theorem set_list (k : Nat) (x : Int) : (txtCells.setIfInBounds k (.int .u8 x)).toList = (txt.set k x).map (Value.int .u8) := by
  rw [Array.toList_setIfInBounds, txtCells_list, List.map_set]
theorem set_len (k : Nat) (x : Int) : (txt.set k x).length = 24 := by rw [List.length_set]; rfl
theorem set_same (k : Nat) (hk : k < 24) (x : Int) (h : txt[k]'hk = x) : txt.set k x = txt := by
  subst h; exact List.set_getElem_self hk
theorem set_cp (k : Nat) (hk : k < 24) (x : Int) (h : txt[k]'hk ≠ x) : cp (txt.set k x) txt = k := by
  have h1 : k ≤ cp (txt.set k x) txt := by
    have aux : ∀ j, j ≤ k → j ≤ cp (txt.set k x) txt := by
      intro j
      induction j with
      | zero => intro _; exact Nat.zero_le _
      | succ j ih =>
        intro hj
        refine cp_step j _ _ (by rw [set_len]; omega) (by rw [txt_len]; omega) (ih (by omega)) ?_
        rw [List.getElem_set_ne (by omega)]
    exact aux k (Nat.le_refl _)
  exact cp_stop k _ _ (by rw [set_len]; exact hk) hk h1 (by rw [List.getElem_set_self]; exact fun e => h e.symm)
theorem set_ne (k : Nat) (hk : k < 24) (x : Int) (h : txt[k]'hk ≠ x) : (txt.set k x == txt) = false := by
  rw [beq_eq_false_iff_ne]
  intro e
  have := congrArg (fun l => l[k]?) e
  simp only [List.getElem?_set_self (show k < txt.length from hk), List.getElem?_eq_getElem (show k < txt.length from hk)] at this
  injection this with this
  exact h this.symm
theorem txt_u8 : ∀ x ∈ txt, 0 ≤ x ∧ x ≤ 255 := by decide
theorem set_u8 (k : Nat) (x : Int) (hx : 0 ≤ x ∧ x ≤ 255) : ∀ y ∈ txt.set k x, 0 ≤ y ∧ y ≤ 255 := by
  intro y hy
  rcases List.mem_or_eq_of_mem_set hy with h | rfl
  · exact txt_u8 y h
  · exact hx

theorem one_out (a x : Int) (w : World) (h : a < 0 ∨ 23 < a) : Calls Try.prog 4 #[.int .i64 a, .int .u8 x] w fun e w' => e = .returned (.bool true) ∧ Below w.heap.size w w' := by
  by_cases h0 : a < 0
  · clear h
    go_enter Try.func4, Try.ntmps4
    go_wp2_with fail
    refine (alive_any _).mono ?_
    rintro e w1 ⟨rfl, hb⟩
    go_wp2_with fail
    go_ret
    exact ⟨rfl, hb⟩
  · have h1 : 23 < a := by omega
    clear h
    go_enter Try.func4, Try.ntmps4
    go_wp2_with fail
    refine (alive_any _).mono ?_
    rintro e w1 ⟨rfl, hb⟩
    go_wp2_with fail
    go_ret
    exact ⟨rfl, hb⟩

theorem one_any (k : Nat) (x : Int) (w : World) (hk : k < 24) (hx : 0 ≤ x ∧ x ≤ 255) : Calls Try.prog 4 #[.int .i64 k, .int .u8 x] w fun e w' => e = .returned (.bool true) ∧ Below w.heap.size w w' := by
  have HX := hide hx
  clear hx
  have HS : ∀ g w', Blk w' g 5 txtCells → w'.cell? ⟨g, k, none⟩ = some (.int .u8 (txt[k]'hk)) := fun g w' h => by
    rw [h.cell, ← Array.getElem?_toList, txtCells_list]
    exact u8_at hk
  by_cases he : txt[k]'hk = x
  · have e1 : (txt[k]'hk == x) = true := by simpa using he
    have HE := hide he
    clear he
    go_enter Try.func4, Try.ntmps4
    go_wp2_with fail
    refine (rtext_any _).mono ?_
    rintro e w1 ⟨rfl, rfl⟩
    have hc := HS _ _ (Blk.born w 5 txtCells)
    have HB : Hid (Sees (w.alloc (.cells (txtCells.setIfInBounds k (.int .u8 x)) 5)) (some ⟨w.heap.size, 0, none⟩) ((txt.set k x).map (Value.int .u8))) := hide (by
      have := Sees.born w 5 (txtCells.setIfInBounds k (.int .u8 x)) (0, 0)
      rwa [set_list] at this)
    have hf := (Blk.born w 5 txtCells).free k
    clear HS
    go_wp2_with fail
    refine (is_q _ 24 24 (txt.set k x) _ true (by rw [set_same k hk x HE.out]; decide) (set_len _ _) HB.out (by rw [set_len]; decide) (set_u8 k x HX.out)).mono ?_
    rintro e w3 ⟨rfl, rfl⟩
    go_wp2_with fail
    refine (alive_any _).mono ?_
    rintro e w5 ⟨rfl, hb⟩
    have hb5 := below_base1 hb
    go_wp2_with fail
    go_ret
    exact ⟨rfl, hb5⟩
  · have e1 : (txt[k]'hk == x) = false := by simpa using he
    have HE := hide he
    clear he
    go_enter Try.func4, Try.ntmps4
    go_wp2_with fail
    refine (rtext_any _).mono ?_
    rintro e w1 ⟨rfl, rfl⟩
    have hc := HS _ _ (Blk.born w 5 txtCells)
    have HB : Hid (Sees (w.alloc (.cells (txtCells.setIfInBounds k (.int .u8 x)) 5)) (some ⟨w.heap.size, 0, none⟩) ((txt.set k x).map (Value.int .u8))) := hide (by
      have := Sees.born w 5 (txtCells.setIfInBounds k (.int .u8 x)) (0, 0)
      rwa [set_list] at this)
    have hf := (Blk.born w 5 txtCells).free k
    clear HS
    go_wp2_with fail
    refine (is_q _ 24 24 (txt.set k x) _ false (set_ne k hk x HE.out) (set_len _ _) HB.out (by rw [set_len]; decide) (set_u8 k x HX.out)).mono ?_
    rintro e w3 ⟨rfl, rfl⟩
    go_wp2_with fail
    refine (like_q _ 24 24 (txt.set k x) _ k (by rw [set_cp k hk x HE.out]) (set_len _ _) HB.out (by rw [set_len]; decide)).mono ?_
    rintro e w4 ⟨rfl, hb⟩
    have hb4 := below_base1 hb
    clear hb
    go_wp2_with fail
    refine (alive_any _).mono ?_
    rintro e w5 ⟨rfl, hb⟩
    have hb5 := below_next hb4 hb
    go_wp2_with fail
    go_ret
    exact ⟨rfl, hb5⟩
end Go.Proofs.Ytngcjgnbehbdfaa
