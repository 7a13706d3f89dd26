/- Contracts of the functions that the laws of sticklerlaw11 reach. -/
import Derived.Test.YtngcjgnbehbdfaaRows
import Derived.Test.YtngcjgnbehbdfaaK0
import Derived.Outline
import Derived.Deep.QuietTactic
import Derived.BigQuiet
import Derived.Deep.RegionHeld3
import Derived.Deep.RegionWith
namespace Go.Proofs.Ytngcjgnbehbdfaa
open Go.RowKit

/-- How many first members two lists share. -/
def cp : List Int → List Int → Nat
  | x :: xs, y :: ys => if x = y then cp xs ys + 1 else 0
  | _, _ => 0
theorem cp_step : ∀ (k : Nat) (xs ys : List Int) (h1 : k < xs.length) (h2 : k < ys.length), k ≤ cp xs ys → xs[k] = ys[k] → k + 1 ≤ cp xs ys
  | 0, x :: xs, y :: ys, _, _, _, e => by simp at e; simp [cp, e]
  | k + 1, x :: xs, y :: ys, h1, h2, h, e => by
    simp only [cp] at h ⊢
    split at h
    · rename_i hxy
      rw [if_pos hxy]
      have := cp_step k xs ys (by simpa using h1) (by simpa using h2) (by omega) (by simpa using e)
      omega
    · omega
theorem cp_stop : ∀ (k : Nat) (xs ys : List Int) (h1 : k < xs.length) (h2 : k < ys.length), k ≤ cp xs ys → xs[k] ≠ ys[k] → cp xs ys = k
  | 0, x :: xs, y :: ys, _, _, _, e => by simp at e; simp [cp, e]
  | k + 1, x :: xs, y :: ys, h1, h2, h, e => by
    simp only [cp] at h ⊢
    split at h
    · rename_i hxy
      rw [if_pos hxy]
      have := cp_stop k xs ys (by simpa using h1) (by simpa using h2) (by omega) (by simpa using e)
      omega
    · omega
theorem cp_le : ∀ (xs ys : List Int), cp xs ys ≤ xs.length ∧ cp xs ys ≤ ys.length
  | [], ys => by simp [cp]
  | x :: xs, [] => by simp [cp]
  | x :: xs, y :: ys => by
    have := cp_le xs ys
    simp only [cp]
    split
    · simp; omega
    · simp
theorem cp_all : ∀ (xs ys : List Int), xs.length = ys.length → cp xs ys = ys.length → xs = ys
  | [], [], _, _ => rfl
  | x :: xs, y :: ys, h, hc => by
    simp only [cp] at hc
    split at hc
    · rename_i e
      rw [e, cp_all xs ys (by simpa using h) (by simpa using hc)]
    · simp at hc
theorem cp_self (xs : List Int) : cp xs xs = xs.length := by
  induction xs with
  | nil => rfl
  | cons x xs ih => simp [cp, ih]

def txt : List Int := [80, 82, 73, 32, 42, 32, 72, 84, 84, 80, 47, 50, 46, 48, 13, 10, 13, 10, 83, 77, 13, 10, 13, 10]
theorem txt_len : txt.length = 24 := rfl
def tb : ByteArray := { data := #[80, 82, 73, 32, 42, 32, 72, 84, 84, 80, 47, 50, 46, 48, 13, 10, 13, 10, 83, 77, 13, 10, 13, 10] }
theorem tb_at' : ∀ k : Fin 24, ((tb[k.1]'k.2).toNat : Int) = txt[k.1]'k.2 := by decide
theorem tb_at (k : Nat) (h : k < 24) : ((tb[k]'h).toNat : Int) = txt[k]'h := tb_at' ⟨k, h⟩
theorem tb_step {xs : List Int} {k : Nat} (h1 : k < xs.length) (h : k < 24) (hc : k ≤ cp xs txt) (e : (xs[k] != ((tb[k]'h).toNat : Int)) = false) : k + 1 ≤ cp xs txt := by
  rw [tb_at k h] at e
  exact cp_step k xs txt h1 h hc (by simpa using e)
theorem tb_stop {xs : List Int} {k : Nat} (h1 : k < xs.length) (h : k < 24) (hc : k ≤ cp xs txt) (e : (xs[k] != ((tb[k]'h).toNat : Int)) = true) : (k : Int) = cp xs txt := by
  rw [tb_at k h] at e
  rw [cp_stop k xs txt h1 h hc (by simpa using e)]
theorem cp_end {xs : List Int} {k : Nat} (hc : k ≤ cp xs txt) (h : xs.length ≤ k ∨ 24 ≤ k) : (k : Int) = cp xs txt := by
  have := cp_le xs txt
  rw [txt_len] at this
  omega
theorem u8_at {xs : List Int} {k : Nat} (h : k < xs.length) : (xs.map (Value.int .u8))[k]? = some (.int .u8 xs[k]) := by simp [h]

theorem like_any (A : Option Addr) (c : Nat) (xs : List Int) (w : World) (hs : Sees w A (xs.map (Value.int .u8))) (hm : xs.length ≤ 1000000) :
    Calls Try.prog 6 #[.slice A xs.length c] w fun e w' => e = .returned (.int .i64 (cp xs txt)) ∧ Below w.heap.size w w' := by
  by_cases hn : xs.length ≤ 24
  · go_enter Try.func6, Try.ntmps6
    go_wp2
    go_loopw [7] (fun i wr => ∃ k : Nat, k ≤ xs.length ∧ i = .int .i64 k ∧ Hid (k ≤ cp xs txt) ∧ Below w.heap.size w wr) (fun i _ => xs.length - (intOf i).toNat)
    case atStart => exact ⟨0, Nat.zero_le _, rfl, Nat.zero_le _, Below.refl _ _⟩
    case round =>
      obtain ⟨k, hk, rfl, HA, hbel⟩ := hrel
      by_cases hlt : k < xs.length
      · obtain ⟨b, o, rfl, hc⟩ := (hs.kept hbel) k _ (u8_at hlt)
        have i1 : (k : Int) < (xs.length : Int) := by omega
        have i2 : (k : Int) < 24 := by omega
        have i3 : (0 : Int) ≤ (k : Int) := by omega
        go_wp2
        go_quiet (fail)
        go_wp2
        · go_ret
          exact ⟨ret_int (tb_stop hlt (by omega) HA.out (by assumption)), below_drewN hbel _⟩
        · go_roundw
          case rel => exact ⟨k + 1, by omega, by go_num, tb_step hlt (by omega) HA.out (by assumption), below_drewN hbel _⟩
          case measure => simp [intOf]; omega
      · go_wp2
        go_ret
        exact ⟨ret_int (by rw [← cp_end HA.out (by omega)]; omega), hbel⟩
  · go_enter Try.func6, Try.ntmps6
    go_wp2
    go_loopw [7] (fun i wr => ∃ k : Nat, k ≤ 24 ∧ i = .int .i64 k ∧ Hid (k ≤ cp xs txt) ∧ Below w.heap.size w wr) (fun i _ => 24 - (intOf i).toNat)
    case atStart => exact ⟨0, Nat.zero_le _, rfl, Nat.zero_le _, Below.refl _ _⟩
    case round =>
      obtain ⟨k, hk, rfl, HA, hbel⟩ := hrel
      by_cases hlt : k < 24
      · have hlt' : k < xs.length := by omega
        obtain ⟨b, o, rfl, hc⟩ := (hs.kept hbel) k _ (u8_at hlt')
        have i1 : (k : Int) < (xs.length : Int) := by omega
        have i2 : (k : Int) < 24 := by omega
        have i3 : (0 : Int) ≤ (k : Int) := by omega
        go_wp2
        go_quiet (fail)
        go_wp2
        · go_ret
          exact ⟨ret_int (tb_stop hlt' (by omega) HA.out (by assumption)), below_drewN hbel _⟩
        · go_roundw
          case rel => exact ⟨k + 1, by omega, by go_num, tb_step hlt' (by omega) HA.out (by assumption), below_drewN hbel _⟩
          case measure => simp [intOf]; omega
      · go_wp2
        go_ret
        exact ⟨ret_int (by rw [← cp_end HA.out (by omega)]; omega), hbel⟩

def txtCells : Array Value := #[.int .u8 80, .int .u8 82, .int .u8 73, .int .u8 32, .int .u8 42, .int .u8 32, .int .u8 72, .int .u8 84, .int .u8 84, .int .u8 80, .int .u8 47, .int .u8 50, .int .u8 46, .int .u8 48, .int .u8 13, .int .u8 10, .int .u8 13, .int .u8 10, .int .u8 83, .int .u8 77, .int .u8 13, .int .u8 10, .int .u8 13, .int .u8 10]
theorem txtCells_list : txtCells.toList = txt.map (Value.int .u8) := rfl

theorem rtext_any (w : World) : Calls Try.prog 9 #[] w fun e w' => e = .returned (.slice (some ⟨w.heap.size, 0, none⟩) 24 24) ∧ w' = w.alloc (.cells txtCells 5) := by
  go_enter Try.func9, Try.ntmps9
  go_wp2
  go_ret
  exact ⟨rfl, rfl⟩

theorem rtext_at (k : Nat) (hk : k < 24) (w : World) : Calls Try.prog 9 #[] w fun e w' => e = .returned (.slice (some ⟨w.heap.size, 0, none⟩) 24 24) ∧ w'.cell? ⟨w.heap.size, k, none⟩ = some (.int .u8 (txt[k]'hk)) ∧ (∀ (p : Addr) u, w.cell? p = some u → w'.cell? p = some u) ∧ Below w.heap.size w w' := by
  refine (rtext_any w).mono fun e w' ⟨he, hw⟩ => ⟨he, ?_, ?_, ?_⟩
  · subst hw
    rw [(Blk.born w 5 txtCells).cell, ← Array.getElem?_toList, txtCells_list]
    exact u8_at hk
  · subst hw
    intro p u h
    rw [World.cell?_alloc_lt w _ p (World.block_lt_of_cell? w p h)]
    exact h
  · subst hw
    exact (Below.refl _ _).alloc (Nat.le_refl _) _

set_option maxHeartbeats 1000000 in
theorem rlike_any (A : Option Addr) (c : Nat) (xs : List Int) (w : World) (hs : Sees w A (xs.map (Value.int .u8))) (hm : xs.length ≤ 1000000) :
    Calls Try.prog 7 #[.slice A xs.length c] w fun e w' => e = .returned (.int .i64 (cp xs txt)) ∧ Below w.heap.size w w' := by
  go_enter Try.func7, Try.ntmps7
  go_wp2
  go_loopw [3] (fun i wr => ∃ k : Nat, k ≤ xs.length ∧ k ≤ 24 ∧ i = .int .i64 k ∧ Hid (k ≤ cp xs txt) ∧ Below w.heap.size w wr) (fun i _ => 24 - (intOf i).toNat)
  case atStart => exact ⟨0, Nat.zero_le _, Nat.zero_le _, rfl, Nat.zero_le _, Below.refl _ _⟩
  case round =>
    obtain ⟨k, hk, hk2, rfl, HA, hbel⟩ := hrel
    by_cases hlt : k < 24
    · by_cases hlt' : k < xs.length
      · obtain ⟨b, o, rfl, hc⟩ := (hs.kept hbel) k _ (u8_at hlt')
        have i1 : (k : Int) < (xs.length : Int) := by omega
        have i2 : (k : Int) < 24 := by omega
        have i3 : (0 : Int) ≤ (k : Int) := by omega
        have d1 : decide (k < xs.length) = true := by simpa using hlt'
        have d2 : decide ((k : Int) < 24) = true := by simpa using i2
        have hb0 : b < wr.heap.size := World.block_lt_of_cell? wr _ hc
        go_wp2
        refine wp_region_held_drew (S := fun w' => w'.cell? ⟨b, o + k, none⟩ = some (.int .u8 xs[k])) (by kernel_rfl) ?_ (fun hHeld => ?_)
        · (first | (show _ = _; go_simp; done) | exact hkeep _ _ hc | assumption)
        refine takeL (i := 0) (v := ?_) rfl (by kernel_rfl) (by kernel_rfl) (by kernel_rfl) (fun _ _ _ h => h) (Or.inl ⟨by rfl, ?_⟩) (by assumption) ?_
        rotate_left
        · (intro wS hSw; (try dsimp only at hSw); go_simp; try with_reducible rfl)
        try simp only [Act.put, List.setIfInBounds_toArray, List.set_cons_zero, List.set_cons_succ]
        refine takeL (i := 1) (v := ?_) rfl (by kernel_rfl) (by kernel_rfl) (by kernel_rfl) (fun _ _ _ h => h) (Or.inl ⟨by rfl, ?_⟩) (by assumption) ?_
        rotate_left
        · (intro wS hSw; (try dsimp only at hSw); go_simp; try with_reducible rfl)
        try simp only [Act.put, List.setIfInBounds_toArray, List.set_cons_zero, List.set_cons_succ]
        refine takeL (i := 2) (v := ?_) rfl (by kernel_rfl) (by kernel_rfl) (by kernel_rfl) (fun _ _ _ h => h) (Or.inl ⟨by rfl, ?_⟩) (by assumption) ?_
        rotate_left
        · (intro wS hSw; (try dsimp only at hSw); go_simp; try with_reducible rfl)
        try simp only [Act.put, List.setIfInBounds_toArray, List.set_cons_zero, List.set_cons_succ]
        refine takeL (i := 3) (v := ?_) rfl (by kernel_rfl) (by kernel_rfl) (by kernel_rfl) (fun _ _ _ h => h) (Or.inl ⟨by rfl, ?_⟩) (by assumption) ?_
        rotate_left
        · (intro wS hSw; (try dsimp only at hSw); go_simp; try with_reducible rfl)
        try simp only [Act.put, List.setIfInBounds_toArray, List.set_cons_zero, List.set_cons_succ]
        refine takeL (i := 4) (v := ?_) rfl (by kernel_rfl) (by kernel_rfl) (by kernel_rfl) (fun _ _ _ h => h) (Or.inl ⟨by rfl, ?_⟩) (by assumption) ?_
        rotate_left
        · (intro wS hSw; (try dsimp only at hSw); go_simp; try with_reducible rfl)
        try simp only [Act.put, List.setIfInBounds_toArray, List.set_cons_zero, List.set_cons_succ]
        refine takeL (i := 5) (v := ?_) rfl (by kernel_rfl) (by kernel_rfl) (by kernel_rfl) (fun _ _ _ h => h) (Or.inl ⟨by rfl, ?_⟩) (by assumption) ?_
        rotate_left
        · (intro wS hSw; (try dsimp only at hSw); go_simp; try with_reducible rfl)
        try simp only [Act.put, List.setIfInBounds_toArray, List.set_cons_zero, List.set_cons_succ]
        refine takeL (i := 6) (v := ?_) rfl (by kernel_rfl) (by kernel_rfl) (by kernel_rfl) (fun _ _ _ h => h) (Or.inl ⟨by rfl, ?_⟩) (by assumption) ?_
        rotate_left
        · (intro wS hSw; (try dsimp only at hSw); go_simp; try with_reducible rfl)
        try simp only [Act.put, List.setIfInBounds_toArray, List.set_cons_zero, List.set_cons_succ]
        refine takeL (i := 7) (v := ?_) rfl (by kernel_rfl) (by kernel_rfl) (by kernel_rfl) (fun _ _ _ h => h) (Or.inl ⟨by rfl, ?_⟩) (by assumption) ?_
        rotate_left
        · (intro wS hSw; (try dsimp only at hSw); go_simp; try with_reducible rfl)
        try simp only [Act.put, List.setIfInBounds_toArray, List.set_cons_zero, List.set_cons_succ]
        refine takeL (i := 8) (v := ?_) rfl (by kernel_rfl) (by kernel_rfl) (by kernel_rfl) (fun _ _ _ h => h) (Or.inl ⟨by rfl, ?_⟩) (by assumption) ?_
        rotate_left
        · (intro wS hSw; (try dsimp only at hSw); go_simp; try with_reducible rfl)
        try simp only [Act.put, List.setIfInBounds_toArray, List.set_cons_zero, List.set_cons_succ]
        refine takeL (i := 9) (v := ?_) rfl (by kernel_rfl) (by kernel_rfl) (by kernel_rfl) (fun _ _ _ h => h) (Or.inl ⟨by rfl, ?_⟩) (by assumption) ?_
        rotate_left
        · (intro wS hSw; (try dsimp only at hSw); go_simp; try with_reducible rfl)
        try simp only [Act.put, List.setIfInBounds_toArray, List.set_cons_zero, List.set_cons_succ]
        refine takeL (i := 10) (v := ?_) rfl (by kernel_rfl) (by kernel_rfl) (by kernel_rfl) (fun _ _ _ h => h) (Or.inl ⟨by rfl, ?_⟩) (by assumption) ?_
        rotate_left
        · (intro wS hSw; (try dsimp only at hSw); go_simp; try with_reducible rfl)
        try simp only [Act.put, List.setIfInBounds_toArray, List.set_cons_zero, List.set_cons_succ]
        refine takeL (i := 11) (v := ?_) rfl (by kernel_rfl) (by kernel_rfl) (by kernel_rfl) (fun _ _ _ h => h) (Or.inl ⟨by rfl, ?_⟩) (by assumption) ?_
        rotate_left
        · (intro wS hSw; (try dsimp only at hSw); go_simp; try with_reducible rfl)
        try simp only [Act.put, List.setIfInBounds_toArray, List.set_cons_zero, List.set_cons_succ]
        refine takeL (i := 12) (v := ?_) rfl (by kernel_rfl) (by kernel_rfl) (by kernel_rfl) (fun _ _ _ h => h) (Or.inl ⟨by rfl, ?_⟩) (by assumption) ?_
        rotate_left
        · (intro wS hSw; (try dsimp only at hSw); go_simp; try with_reducible rfl)
        try simp only [Act.put, List.setIfInBounds_toArray, List.set_cons_zero, List.set_cons_succ]
        refine takeL (i := 14) (v := ?_) rfl (by kernel_rfl) (by kernel_rfl) (by kernel_rfl) (fun _ _ _ h => h) (Or.inl ⟨by rfl, ?_⟩) (by assumption) ?_
        rotate_left
        · (intro wS hSw; (try dsimp only at hSw); go_simp; try with_reducible rfl)
        try simp only [Act.put, List.setIfInBounds_toArray, List.set_cons_zero, List.set_cons_succ]
        refine wpAnyH_ready (rs := [13]) (by kernel_rfl) (by simp) ?_
        refine readyL rfl (fun K hK => ?_)
        go_simp
        (refine (rtext_at k hlt _).mono ?_; rintro e w1 ⟨rfl, hc1, hkeep, hb1⟩; replace hc1 : w1.cell? ⟨wr.heap.size, k, none⟩ = some (.int .u8 txt[k]) := hc1)
        go_wp2_with fail
        refine hK.out _ _ ?_ (fun hHeld => ?_)
        · (first | (show _ = _; go_simp; done) | exact hkeep _ _ hc | assumption)
        clear hK K
        try simp only [Act.put, List.setIfInBounds_toArray, List.set_cons_zero, List.set_cons_succ]
        refine takeL (i := 15) (v := ?_) rfl (by kernel_rfl) (by kernel_rfl) (by kernel_rfl) (fun _ _ _ h => h) (Or.inl ⟨by rfl, ?_⟩) (by assumption) ?_
        rotate_left
        · (intro wS hSw; (try dsimp only at hSw); go_simp; try with_reducible rfl)
        try simp only [Act.put, List.setIfInBounds_toArray, List.set_cons_zero, List.set_cons_succ]
        refine wpAnyH_ready (rs := [16]) (by kernel_rfl) (by simp) ?_
        refine readyL rfl (fun K hK => ?_)
        go_simp
        refine hK.out _ _ ?_ (fun hHeld => ?_)
        · (first | (show _ = _; go_simp; done) | exact hkeep _ _ hc | assumption)
        clear hK K
        try simp only [Act.put, List.setIfInBounds_toArray, List.set_cons_zero, List.set_cons_succ]
        refine takeL (i := 17) (v := ?_) rfl (by kernel_rfl) (by kernel_rfl) (by kernel_rfl) (fun _ _ _ h => h) (Or.inl ⟨by rfl, ?_⟩) (by assumption) ?_
        rotate_left
        · (intro wS hSw; (try dsimp only at hSw); go_simp; try with_reducible rfl)
        try simp only [Act.put, List.setIfInBounds_toArray, List.set_cons_zero, List.set_cons_succ]
        refine takeL (i := 18) (v := ?_) rfl (by kernel_rfl) (by kernel_rfl) (by kernel_rfl) (fun _ _ _ h => h) (Or.inl ⟨by rfl, ?_⟩) (by assumption) ?_
        rotate_left
        · (intro wS hSw; (try dsimp only at hSw); go_simp; try with_reducible rfl)
        try simp only [Act.put, List.setIfInBounds_toArray, List.set_cons_zero, List.set_cons_succ]
        refine wpAnyH_done (by kernel_rfl) ?_ _
        have hbel1 : Below w.heap.size w w1 := below_next hbel (below_undrew hb1)
        clear hc1 hkeep hb1 hHeld hc
        by_cases he : xs[k] = txt[k]
        · have e1 : (xs[k] == txt[k]) = true := by simpa using he
          have HN := hide (cp_step k xs txt hlt' hlt HA.out he)
          clear he
          go_wp2
          go_roundw
          case rel => exact ⟨k + 1, by omega, by omega, by go_num, HN, hbel1⟩
          case measure => simp [intOf]; omega
        · have e1 : (xs[k] == txt[k]) = false := by simpa using he
          have HN := hide (cp_stop k xs txt hlt' hlt HA.out he)
          clear he
          go_wp2
          go_ret
          exact ⟨ret_int (by rw [HN.out]), hbel1⟩
      · have d2 : decide ((k : Int) < 24) = true := by simp; omega
        have d1 : decide (k < xs.length) = false := by simpa using hlt'
        have i2 : (k : Int) < 24 := by omega
        go_wp2
        go_quiet (fail)
        go_wp2
        go_ret
        exact ⟨ret_int (cp_end HA.out (by omega)), below_drewN hbel _⟩
    · have d2 : decide ((k : Int) < 24) = false := by simp; omega
      go_wp2
      go_quiet (fail)
      go_wp2
      go_ret
      exact ⟨ret_int (cp_end HA.out (by omega)), below_drewN hbel _⟩
end Go.Proofs.Ytngcjgnbehbdfaa
