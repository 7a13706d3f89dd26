/- Contracts: Takes, part, ends, and the reference's; Large, New, Open. -/
import Derived.Test.YtpjibdnoiioaoaaL
namespace Go.Proofs.Ytpjibdnoiioaoaa
open Go.RowKit
set_option linter.unusedSimpArgs false
set_option linter.unusedVariables false

theorem part_cases (t : Int) : t = 1 ∨ t = 5 ∨ t = 9 ∨ ((t == 1) = false ∧ (t == 5) = false ∧ (t == 9) = false) := by
  simp only [beq_eq_false_iff_ne, ne_eq]
  omega
set_option maxRecDepth 10000 in
theorem part_any (f : Fr) (D S : Option Addr) (dn dc sn sc : Nat) (w : World) : Calls Try.prog 17 #[.agg #[.int .i64 f.ty, .int .i64 f.fl, .int .i64 f.st, .int .i64 f.pad, .slice D dn dc, .slice S sn sc, .int .i64 f.wt, .int .i64 f.par, .bool f.alone, .int .i64 f.prom, .int .i64 f.last, .int .i64 f.code, .int .i64 f.step]] w fun e w' => e = .returned (.bool (partB f.ty)) ∧ Below w.heap.size w w' := by
  have hb := (Below.refl w.heap.size w).alloc (Nat.le_refl _) (.cells #[.int .i64 f.ty, .int .i64 f.fl, .int .i64 f.st, .int .i64 f.pad, .slice D dn dc, .slice S sn sc, .int .i64 f.wt, .int .i64 f.par, .bool f.alone, .int .i64 f.prom, .int .i64 f.last, .int .i64 f.code, .int .i64 f.step] 30)
  have HB := hide hb
  clear hb
  generalize f.ty = ty at HB ⊢
  rcases part_cases ty with rfl | rfl | rfl | ⟨h1, h2, h3⟩
  case inr.inr.inr =>
    have HZ : Hid (partB ty = false) := hide (by unfold partB; rw [h1, h2, h3]; rfl)
    go_enter Try.func17, Try.ntmps17
    go_wp2_with fail
    go_ret
    exact ⟨by rw [HZ.out]; rfl, HB.out⟩
  all_goals
    go_enter Try.func17, Try.ntmps17
    go_wp2_with fail
    go_ret
    exact ⟨rfl, HB.out⟩
set_option maxRecDepth 10000 in
theorem rpart_any (f : Fr) (D S : Option Addr) (dn dc sn sc : Nat) (w : World) : Calls Try.prog 21 #[.agg #[.int .i64 f.ty, .int .i64 f.fl, .int .i64 f.st, .int .i64 f.pad, .slice D dn dc, .slice S sn sc, .int .i64 f.wt, .int .i64 f.par, .bool f.alone, .int .i64 f.prom, .int .i64 f.last, .int .i64 f.code, .int .i64 f.step]] w fun e w' => e = .returned (.bool (partB f.ty)) ∧ Below w.heap.size w w' := by
  have hb := (Below.refl w.heap.size w).alloc (Nat.le_refl _) (.cells #[.int .i64 f.ty, .int .i64 f.fl, .int .i64 f.st, .int .i64 f.pad, .slice D dn dc, .slice S sn sc, .int .i64 f.wt, .int .i64 f.par, .bool f.alone, .int .i64 f.prom, .int .i64 f.last, .int .i64 f.code, .int .i64 f.step] 30)
  have HB := hide hb
  clear hb
  generalize f.ty = ty at HB ⊢
  rcases part_cases ty with rfl | rfl | rfl | ⟨h1, h2, h3⟩
  case inr.inr.inr =>
    have HZ : Hid (partB ty = false) := hide (by unfold partB; rw [h1, h2, h3]; rfl)
    go_enter Try.func21, Try.ntmps21
    go_wp2_with fail
    go_ret
    exact ⟨by rw [HZ.out]; rfl, HB.out⟩
  all_goals
    go_enter Try.func21, Try.ntmps21
    go_wp2_with fail
    go_ret
    exact ⟨rfl, HB.out⟩
set_option maxRecDepth 10000 in
theorem ends_any (f : Fr) (D S : Option Addr) (dn dc sn sc : Nat) (w : World) (hf : f.fl ≤ 9223372036854775807) : Calls Try.prog 22 #[.agg #[.int .i64 f.ty, .int .i64 f.fl, .int .i64 f.st, .int .i64 f.pad, .slice D dn dc, .slice S sn sc, .int .i64 f.wt, .int .i64 f.par, .bool f.alone, .int .i64 f.prom, .int .i64 f.last, .int .i64 f.code, .int .i64 f.step]] w fun e w' => e = .returned (.bool (hasB f.ty f.fl 4)) ∧ Below w.heap.size w w' := by
  have HC := fun w => hide (rhas_any f.ty f.fl 4 w hf)
  have HB := hide ((Below.refl w.heap.size w).alloc (Nat.le_refl _) (.cells #[.int .i64 f.ty, .int .i64 f.fl, .int .i64 f.st, .int .i64 f.pad, .slice D dn dc, .slice S sn sc, .int .i64 f.wt, .int .i64 f.par, .bool f.alone, .int .i64 f.prom, .int .i64 f.last, .int .i64 f.code, .int .i64 f.step] 30))
  clear hf
  go_enter Try.func22, Try.ntmps22
  go_wp2_with (go_at_call 25; refine (HC _).out.mono ?_; rintro e w1 ⟨rfl, rfl⟩)
  go_wp2_with fail
  go_ret
  exact ⟨rfl, HB.out⟩
set_option maxRecDepth 10000 in
theorem large15 (f : Fr) (D S : Option Addr) (dn dc sn sc : Nat) (w : World) (hd : dn ≤ maxLen) (hs : sn ≤ maxLen) : Calls Try.prog 15 #[.agg #[.int .i64 f.ty, .int .i64 f.fl, .int .i64 f.st, .int .i64 f.pad, .slice D dn dc, .slice S sn sc, .int .i64 f.wt, .int .i64 f.par, .bool f.alone, .int .i64 f.prom, .int .i64 f.last, .int .i64 f.code, .int .i64 f.step]] w fun e w' => e = .returned (.bool (decide (2000 < dn) || decide (100 < sn))) ∧ Below w.heap.size w w' := by
  have HB := hide ((Below.refl w.heap.size w).alloc (Nat.le_refl _) (.cells #[.int .i64 f.ty, .int .i64 f.fl, .int .i64 f.st, .int .i64 f.pad, .slice D dn dc, .slice S sn sc, .int .i64 f.wt, .int .i64 f.par, .bool f.alone, .int .i64 f.prom, .int .i64 f.last, .int .i64 f.code, .int .i64 f.step] 30))
  have d63 : (dn : Int) ≤ 9223372036854775807 := by unfold maxLen at hd; omega
  have s63 : (sn : Int) ≤ 9223372036854775807 := by unfold maxLen at hs; omega
  clear hd hs
  by_cases h : 2000 < dn
  · have HZ : Hid ((decide (2000 < dn) || decide (100 < sn)) = true) := hide (by simp [h])
    have h1 : (dn : Int) > 2000 := by omega
    go_enter Try.func15, Try.ntmps15
    go_wp2_with fail
    go_ret
    exact ⟨by rw [HZ.out]; rfl, HB.out⟩
  · have h1 : ¬ (dn : Int) > 2000 := by omega
    by_cases h' : 100 < sn
    · have HZ : Hid ((decide (2000 < dn) || decide (100 < sn)) = true) := hide (by simp [h'])
      have h2 : (sn : Int) > 100 := by omega
      go_enter Try.func15, Try.ntmps15
      go_wp2_with fail
      go_ret
      exact ⟨by first | rfl | (rw [HZ.out]; rfl), HB.out⟩
    · have HZ : Hid ((decide (2000 < dn) || decide (100 < sn)) = false) := hide (by simp [h, h'])
      have h2 : ¬ (sn : Int) > 100 := by omega
      go_enter Try.func15, Try.ntmps15
      go_wp2_with fail
      go_ret
      exact ⟨by first | rfl | (rw [HZ.out]; rfl), HB.out⟩

/-- What an assembly without a block answers. -/
def takeV (on : Bool) (s0 ty st : Int) : Bool := if on then ty == 9 && st == s0 else ty != 9
theorem takes_nil (f : Fr) (D S : Option Addr) (dn dc sn sc : Nat) (w : World) : Calls Try.prog 9 #[.pointer none, .agg #[.int .i64 f.ty, .int .i64 f.fl, .int .i64 f.st, .int .i64 f.pad, .slice D dn dc, .slice S sn sc, .int .i64 f.wt, .int .i64 f.par, .bool f.alone, .int .i64 f.prom, .int .i64 f.last, .int .i64 f.code, .int .i64 f.step]] w fun e w' => e = .returned (.bool false) ∧ Below w.heap.size w w' := by
  have HB := hide ((Below.refl w.heap.size w).alloc (Nat.le_refl _) (.cells #[.int .i64 f.ty, .int .i64 f.fl, .int .i64 f.st, .int .i64 f.pad, .slice D dn dc, .slice S sn sc, .int .i64 f.wt, .int .i64 f.par, .bool f.alone, .int .i64 f.prom, .int .i64 f.last, .int .i64 f.code, .int .i64 f.step] 30))
  go_enter Try.func9, Try.ntmps9
  go_wp2_with fail
  go_ret
  exact ⟨rfl, HB.out⟩
set_option maxRecDepth 10000 in
theorem takes_any (f : Fr) (D S : Option Addr) (dn dc sn sc : Nat) (g : Nat) (on : Bool) (s0 : Int) (w : World) (c1 : w.cell? ⟨g, 1, none⟩ = some (.bool on)) (c4 : w.cell? ⟨g, 4, none⟩ = some (.int .i64 s0)) :
    Calls Try.prog 9 #[.pointer (some ⟨g, 0, none⟩), .agg #[.int .i64 f.ty, .int .i64 f.fl, .int .i64 f.st, .int .i64 f.pad, .slice D dn dc, .slice S sn sc, .int .i64 f.wt, .int .i64 f.par, .bool f.alone, .int .i64 f.prom, .int .i64 f.last, .int .i64 f.code, .int .i64 f.step]] w fun e w' => e = .returned (.bool (takeV on s0 f.ty f.st)) ∧ Below w.heap.size w w' := by
  have hb := (Below.refl w.heap.size w).alloc (Nat.le_refl _) (.cells #[.int .i64 f.ty, .int .i64 f.fl, .int .i64 f.st, .int .i64 f.pad, .slice D dn dc, .slice S sn sc, .int .i64 f.wt, .int .i64 f.par, .bool f.alone, .int .i64 f.prom, .int .i64 f.last, .int .i64 f.code, .int .i64 f.step] 30)
  obtain ⟨W1, hW1⟩ : ∃ W1, w.alloc (.cells #[.int .i64 f.ty, .int .i64 f.fl, .int .i64 f.st, .int .i64 f.pad, .slice D dn dc, .slice S sn sc, .int .i64 f.wt, .int .i64 f.par, .bool f.alone, .int .i64 f.prom, .int .i64 f.last, .int .i64 f.code, .int .i64 f.step] 30) = W1 := ⟨_, rfl⟩
  rw [hW1] at hb
  have HB := hide hb
  have k1 : W1.cell? ⟨g, 1, none⟩ = some (.bool on) := (hb.cell (p := ⟨g, 1, none⟩) (World.block_lt_of_cell? _ _ c1)).trans c1
  have k4 : W1.cell? ⟨g, 4, none⟩ = some (.int .i64 s0) := (hb.cell (p := ⟨g, 4, none⟩) (World.block_lt_of_cell? _ _ c4)).trans c4
  have HX : Hid (Blk W1 w.heap.size 30 #[.int .i64 f.ty, .int .i64 f.fl, .int .i64 f.st, .int .i64 f.pad, .slice D dn dc, .slice S sn sc, .int .i64 f.wt, .int .i64 f.par, .bool f.alone, .int .i64 f.prom, .int .i64 f.last, .int .i64 f.code, .int .i64 f.step]) := hide (by rw [← hW1]; exact Blk.born w 30 _)
  have x0 : W1.cell? ⟨w.heap.size, 0, none⟩ = some (.int .i64 f.ty) := HX.out.cell 0
  have x2 : W1.cell? ⟨w.heap.size, 2, none⟩ = some (.int .i64 f.st) := HX.out.cell 2
  clear hb c1 c4
  cases on
  · go_enter Try.func9, Try.ntmps9
    go_wp2_with fail
    go_ret
    exact ⟨rfl, HB.out⟩
  · cases h9 : (f.ty == 9)
    · have HZ : Hid (takeV true s0 f.ty f.st = false) := hide (by unfold takeV; rw [h9]; rfl)
      go_enter Try.func9, Try.ntmps9
      go_wp2_with fail
      go_quiet (fail)
      go_wp2_with fail
      go_ret
      exact ⟨by rw [HZ.out]; rfl, below_drewN HB.out _⟩
    · have HZ : Hid (takeV true s0 f.ty f.st = (f.st == s0)) := hide (by unfold takeV; rw [h9]; rfl)
      go_enter Try.func9, Try.ntmps9
      go_wp2_with fail
      go_quiet (fail)
      go_wp2_with fail
      go_ret
      exact ⟨by rw [HZ.out]; rfl, below_drewN HB.out _⟩
set_option maxRecDepth 10000 in
theorem rtakes_any (f : Fr) (D S : Option Addr) (dn dc sn sc : Nat) (A : Option Addr) (n c : Nat) (s0 : Int) (w : World) (hn : n ≤ 100) (h : 0 < n → ∃ g o, A = some ⟨g, o, none⟩ ∧ w.cell? ⟨g, o + 2, none⟩ = some (.int .i64 s0)) :
    Calls Try.prog 10 #[.slice A n c, .agg #[.int .i64 f.ty, .int .i64 f.fl, .int .i64 f.st, .int .i64 f.pad, .slice D dn dc, .slice S sn sc, .int .i64 f.wt, .int .i64 f.par, .bool f.alone, .int .i64 f.prom, .int .i64 f.last, .int .i64 f.code, .int .i64 f.step]] w fun e w' => e = .returned (.bool (takeV (decide (0 < n)) s0 f.ty f.st)) ∧ Below w.heap.size w w' := by
  have hb := (Below.refl w.heap.size w).alloc (Nat.le_refl _) (.cells #[.int .i64 f.ty, .int .i64 f.fl, .int .i64 f.st, .int .i64 f.pad, .slice D dn dc, .slice S sn sc, .int .i64 f.wt, .int .i64 f.par, .bool f.alone, .int .i64 f.prom, .int .i64 f.last, .int .i64 f.code, .int .i64 f.step] 30)
  obtain ⟨W1, hW1⟩ : ∃ W1, w.alloc (.cells #[.int .i64 f.ty, .int .i64 f.fl, .int .i64 f.st, .int .i64 f.pad, .slice D dn dc, .slice S sn sc, .int .i64 f.wt, .int .i64 f.par, .bool f.alone, .int .i64 f.prom, .int .i64 f.last, .int .i64 f.code, .int .i64 f.step] 30) = W1 := ⟨_, rfl⟩
  rw [hW1] at hb
  have HB := hide hb
  have HX : Hid (Blk W1 w.heap.size 30 #[.int .i64 f.ty, .int .i64 f.fl, .int .i64 f.st, .int .i64 f.pad, .slice D dn dc, .slice S sn sc, .int .i64 f.wt, .int .i64 f.par, .bool f.alone, .int .i64 f.prom, .int .i64 f.last, .int .i64 f.code, .int .i64 f.step]) := hide (by rw [← hW1]; exact Blk.born w 30 _)
  have x0 : W1.cell? ⟨w.heap.size, 0, none⟩ = some (.int .i64 f.ty) := HX.out.cell 0
  have x2 : W1.cell? ⟨w.heap.size, 2, none⟩ = some (.int .i64 f.st) := HX.out.cell 2
  by_cases h0 : 0 < n
  · obtain ⟨g, o, rfl, c4⟩ := h h0
    have k4 : W1.cell? ⟨g, o + 2, none⟩ = some (.int .i64 s0) := (hb.cell (p := ⟨g, o + 2, none⟩) (World.block_lt_of_cell? _ _ c4)).trans c4
    have hz : ((n : Int) == 0) = false := by simp; omega
    have i1 : (0 : Int) < (n : Int) := by omega
    rw [decide_eq_true h0]
    clear hb h c4
    cases h9 : (f.ty == 9)
    · have HZ : Hid (takeV true s0 f.ty f.st = false) := hide (by unfold takeV; rw [h9]; rfl)
      go_enter Try.func10, Try.ntmps10
      go_wp2_with fail
      go_quiet (fail)
      go_wp2_with fail
      go_ret
      exact ⟨by rw [HZ.out]; rfl, below_drewN HB.out _⟩
    · have HZ : Hid (takeV true s0 f.ty f.st = (f.st == s0)) := hide (by unfold takeV; rw [h9]; rfl)
      go_enter Try.func10, Try.ntmps10
      go_wp2_with fail
      go_quiet (fail)
      go_wp2_with fail
      go_ret
      exact ⟨by rw [HZ.out]; rfl, below_drewN HB.out _⟩
  · obtain rfl : n = 0 := by omega
    rw [decide_eq_false h0]
    clear h hb
    go_enter Try.func10, Try.ntmps10
    go_wp2_with fail
    go_ret
    exact ⟨rfl, HB.out⟩

/-- An assembly without a block. -/
def AsmN (w : World) (g : Nat) (M : Int) : Prop := Blk w g 45 #[.int .i64 M, .bool false, .int .i64 0, .int .i64 0, .int .i64 0, .int .i64 0, .slice none 0 0, .slice none 0 0, .int .i64 0, .int .i64 0, .bool false, .int .i64 0, .int .i64 0, .int .i64 0, .int .i64 0, .slice none 0 0]
set_option maxRecDepth 100000 in
theorem new_any (m M : Int) (w : World) (hM : M = if m < 0 then 0 else m) : Calls Try.prog 8 #[.int .i64 m] w fun e w' => e = .returned (.pointer (some ⟨w.heap.size, 0, none⟩)) ∧ AsmN w' w.heap.size M ∧ Below w.heap.size w w' := by
  have HG : Hid (AsmN (w.alloc (.cells #[.int .i64 M, .bool false, .int .i64 0, .int .i64 0, .int .i64 0, .int .i64 0, .slice none 0 0, .slice none 0 0, .int .i64 0, .int .i64 0, .bool false, .int .i64 0, .int .i64 0, .int .i64 0, .int .i64 0, .slice none 0 0] 45)) w.heap.size M) := hide (Blk.born _ _ _)
  have HB := hide ((Below.refl w.heap.size w).alloc (Nat.le_refl _) (.cells #[.int .i64 M, .bool false, .int .i64 0, .int .i64 0, .int .i64 0, .int .i64 0, .slice none 0 0, .slice none 0 0, .int .i64 0, .int .i64 0, .bool false, .int .i64 0, .int .i64 0, .int .i64 0, .int .i64 0, .slice none 0 0] 45))
  by_cases hm : m < 0
  · obtain rfl : M = 0 := by rw [hM, if_pos hm]
    clear hM
    go_enter Try.func8, Try.ntmps8
    go_wp2_with fail
    go_ret
    exact ⟨rfl, HG.out, HB.out⟩
  · obtain rfl : M = m := by rw [hM, if_neg hm]
    clear hM
    go_enter Try.func8, Try.ntmps8
    go_wp2_with fail
    go_ret
    exact ⟨rfl, HG.out, HB.out⟩
theorem open_nil (w : World) : Calls Try.prog 13 #[.pointer none] w fun e w' => e = .returned (.tuple #[.int .i64 0, .bool false]) ∧ w = w' := by
  go_enter Try.func13, Try.ntmps13
  go_wp2_with fail
  go_ret2
  exact ⟨rfl, rfl⟩
set_option maxRecDepth 10000 in
theorem open_any (g : Nat) (on : Bool) (s0 : Int) (w : World) (c1 : w.cell? ⟨g, 1, none⟩ = some (.bool on)) (c4 : w.cell? ⟨g, 4, none⟩ = some (.int .i64 s0)) :
    Calls Try.prog 13 #[.pointer (some ⟨g, 0, none⟩)] w fun e w' => e = .returned (.tuple #[.int .i64 (if on then s0 else 0), .bool on]) ∧ w = w' := by
  cases on
  · go_enter Try.func13, Try.ntmps13
    go_wp2_with fail
    go_ret2
    exact ⟨rfl, rfl⟩
  · go_enter Try.func13, Try.ntmps13
    go_wp2_with fail
    go_ret2
    exact ⟨rfl, rfl⟩
end Go.Proofs.Ytpjibdnoiioaoaa
