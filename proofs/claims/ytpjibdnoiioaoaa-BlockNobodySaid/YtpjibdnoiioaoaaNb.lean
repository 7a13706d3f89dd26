/- The walk of the law BlockNobody. -/
import Derived.Test.YtpjibdnoiioaoaaZ
namespace Go.Proofs.Ytpjibdnoiioaoaa
open Go.RowKit
set_option linter.unusedSimpArgs false
set_option linter.unusedVariables false

set_option maxRecDepth 100000 in
set_option maxHeartbeats 8000000 in
theorem nobody_any (x : FV) (w : World) (hin : FIn w x) : Calls Try.prog 5 #[.agg #[.int .i64 x.f.ty, .int .i64 x.f.fl, .int .i64 x.f.st, .int .i64 x.f.pad, .slice x.D x.dn x.dc, .slice x.S x.sn x.sc, .int .i64 x.f.wt, .int .i64 x.f.par, .bool x.f.alone, .int .i64 x.f.prom, .int .i64 x.f.last, .int .i64 x.f.code, .int .i64 x.f.step]] w fun e w' => e = .returned (.bool true) ∧ Below w.heap.size w w' := by
  have HI := hide hin
  obtain ⟨v, hv⟩ : ∃ v, w.heap.size = v := ⟨_, rfl⟩
  obtain ⟨W1, hW1⟩ : ∃ W1, w.alloc (.cells #[.int .i64 x.f.ty, .int .i64 x.f.fl, .int .i64 x.f.st, .int .i64 x.f.pad, .slice x.D x.dn x.dc, .slice x.S x.sn x.sc, .int .i64 x.f.wt, .int .i64 x.f.par, .bool x.f.alone, .int .i64 x.f.prom, .int .i64 x.f.last, .int .i64 x.f.code, .int .i64 x.f.step] 30) = W1 := ⟨_, rfl⟩
  have HB1 : Hid (Below w.heap.size w W1) := hide (by rw [← hW1]; exact (Below.refl _ _).alloc (Nat.le_refl _) _)
  have HX1 : Hid (Blk W1 v 30 #[.int .i64 x.f.ty, .int .i64 x.f.fl, .int .i64 x.f.st, .int .i64 x.f.pad, .slice x.D x.dn x.dc, .slice x.S x.sn x.sc, .int .i64 x.f.wt, .int .i64 x.f.par, .bool x.f.alone, .int .i64 x.f.prom, .int .i64 x.f.last, .int .i64 x.f.code, .int .i64 x.f.step]) := hide (by rw [← hW1, ← hv]; exact Blk.born _ _ _)
  have HV := hide hv
  have a0 : W1.cell? ⟨v, 0, none⟩ = some (.int .i64 x.f.ty) := HX1.out.cell 0
  have a1 : W1.cell? ⟨v, 1, none⟩ = some (.int .i64 x.f.fl) := HX1.out.cell 1
  have a2 : W1.cell? ⟨v, 2, none⟩ = some (.int .i64 x.f.st) := HX1.out.cell 2
  have a3 : W1.cell? ⟨v, 3, none⟩ = some (.int .i64 x.f.pad) := HX1.out.cell 3
  have a4 : W1.cell? ⟨v, 4, none⟩ = some (.slice x.D x.dn x.dc) := HX1.out.cell 4
  have a5 : W1.cell? ⟨v, 5, none⟩ = some (.slice x.S x.sn x.sc) := HX1.out.cell 5
  have a6 : W1.cell? ⟨v, 6, none⟩ = some (.int .i64 x.f.wt) := HX1.out.cell 6
  have a7 : W1.cell? ⟨v, 7, none⟩ = some (.int .i64 x.f.par) := HX1.out.cell 7
  have a8 : W1.cell? ⟨v, 8, none⟩ = some (.bool x.f.alone) := HX1.out.cell 8
  have a9 : W1.cell? ⟨v, 9, none⟩ = some (.int .i64 x.f.prom) := HX1.out.cell 9
  have a10 : W1.cell? ⟨v, 10, none⟩ = some (.int .i64 x.f.last) := HX1.out.cell 10
  have a11 : W1.cell? ⟨v, 11, none⟩ = some (.int .i64 x.f.code) := HX1.out.cell 11
  have a12 : W1.cell? ⟨v, 12, none⟩ = some (.int .i64 x.f.step) := HX1.out.cell 12
  have hc := large15 x.f x.D x.S x.dn x.dc x.sn x.sc W1 hin.dm hin.sm
  clear hin
  cases hq : (decide (2000 < x.dn) || decide (100 < x.sn))
  case true =>
    rw [hq] at hc
    clear hq
    go_enter Try.func5, Try.ntmps5
    go_wp2_with fail
    refine hc.mono ?_
    rintro e w2 ⟨rfl, hb⟩
    have HB2 := hide (below_nextB HB1.out HB1.out.size hb)
    clear hb hc
    go_wp2_with fail
    refine (alive_any _).mono ?_
    rintro e w3 ⟨rfl, hb⟩
    have HB3 := hide (below_nextB HB2.out HB2.out.size hb)
    clear hb
    go_wp2_with fail
    go_ret
    exact ⟨rfl, HB3.out⟩
  case false =>
    have HSM : Hid (x.dn ≤ 2000 ∧ x.sn ≤ 100) := hide (by simpa using hq)
    rw [hq] at hc
    clear hq
    go_enter Try.func5, Try.ntmps5
    go_wp2_with fail
    refine hc.mono ?_
    rintro e w2 ⟨rfl, hb⟩
    have HB2 := hide (below_nextB HB1.out HB1.out.size hb)
    have HX2 := hide (HX1.out.kept hb)
    clear hb hc HX1
    -- the zero assembly
    obtain ⟨g, hg⟩ : ∃ g, w2.heap.size = g := ⟨_, rfl⟩
    obtain ⟨W3, hW3⟩ : ∃ W3, w2.alloc (.cells #[.int .i64 0, .bool false, .int .i64 0, .int .i64 0, .int .i64 0, .int .i64 0, .slice none 0 0, .slice none 0 0, .int .i64 0, .int .i64 0, .bool false, .int .i64 0, .int .i64 0, .int .i64 0, .int .i64 0, .slice none 0 0] 45) = W3 := ⟨_, rfl⟩
    have hb3 : Below w2.heap.size w2 W3 := by rw [← hW3]; exact (Below.refl _ _).alloc (Nat.le_refl _) _
    have HG3 : Hid (AsmL W3 g 0 [] [g] NoG) := hide (AsmL.fresh (by rw [← hW3, ← hg]; exact Blk.born _ _ _))
    have HX3 := hide (HX2.out.kept hb3)
    have HB3 : Hid (Below w.heap.size w W3 ∧ w.heap.size ≤ g ∧ v ≠ g) := hide ⟨below_nextB HB2.out HB2.out.size hb3, by have := HB2.out.size; omega, by have := HX2.out.lt; omega⟩
    clear hb3 HX2
    have b0 : W3.cell? ⟨v, 0, none⟩ = some (.int .i64 x.f.ty) := HX3.out.cell 0
    have b1 : W3.cell? ⟨v, 1, none⟩ = some (.int .i64 x.f.fl) := HX3.out.cell 1
    have b2 : W3.cell? ⟨v, 2, none⟩ = some (.int .i64 x.f.st) := HX3.out.cell 2
    have b3 : W3.cell? ⟨v, 3, none⟩ = some (.int .i64 x.f.pad) := HX3.out.cell 3
    have b4 : W3.cell? ⟨v, 4, none⟩ = some (.slice x.D x.dn x.dc) := HX3.out.cell 4
    have b5 : W3.cell? ⟨v, 5, none⟩ = some (.slice x.S x.sn x.sc) := HX3.out.cell 5
    have b6 : W3.cell? ⟨v, 6, none⟩ = some (.int .i64 x.f.wt) := HX3.out.cell 6
    have b7 : W3.cell? ⟨v, 7, none⟩ = some (.int .i64 x.f.par) := HX3.out.cell 7
    have b8 : W3.cell? ⟨v, 8, none⟩ = some (.bool x.f.alone) := HX3.out.cell 8
    have b9 : W3.cell? ⟨v, 9, none⟩ = some (.int .i64 x.f.prom) := HX3.out.cell 9
    have b10 : W3.cell? ⟨v, 10, none⟩ = some (.int .i64 x.f.last) := HX3.out.cell 10
    have b11 : W3.cell? ⟨v, 11, none⟩ = some (.int .i64 x.f.code) := HX3.out.cell 11
    have b12 : W3.cell? ⟨v, 12, none⟩ = some (.int .i64 x.f.step) := HX3.out.cell 12
    go_wp2_with fail
    refine (add_nil x.f x.D x.S x.dn x.dc x.sn x.sc W3).mono ?_
    rintro e w4 ⟨rfl, hb⟩
    have HG4 := hide (HG3.out.kept hb)
    have HX4 := hide (HX3.out.kept hb)
    have HB4 : Hid (Below w.heap.size w w4) := hide (below_nextB HB3.out.1 HB3.out.1.size hb)
    clear hb HG3 HX3
    have HGL : Hid (g < w4.heap.size) := hide (HG4.out.lt g (List.mem_singleton.2 rfl))
    obtain ⟨p5, hp5⟩ : ∃ p5, w4.heap.size = p5 := ⟨_, rfl⟩
    obtain ⟨z5, hz5⟩ : ∃ z5, w4.alloc (.cells #[.int .i64 0, .int .i64 0, .int .i64 0, .int .i64 0, .slice none 0 0, .slice none 0 0, .int .i64 0, .int .i64 0, .bool false, .int .i64 0, .int .i64 0, .int .i64 0, .int .i64 0] 30) = z5 := ⟨_, rfl⟩
    have HZ5 : Hid (Blk z5 p5 30 #[.int .i64 0, .int .i64 0, .int .i64 0, .int .i64 0, .slice none 0 0, .slice none 0 0, .int .i64 0, .int .i64 0, .bool false, .int .i64 0, .int .i64 0, .int .i64 0, .int .i64 0]) := hide (by rw [← hz5, ← hp5]; exact Blk.born _ _ _)
    obtain ⟨w5, hw5⟩ : ∃ w5, z5.setRow p5 #[.int .i64 0, .int .i64 0, .int .i64 0, .int .i64 0, .slice none 0 0, .slice none 0 0, .int .i64 0, .int .i64 0, .bool false, .int .i64 0, .int .i64 0, .int .i64 0, .int .i64 0] = w5 := ⟨_, rfl⟩
    have hb5 : Below w4.heap.size w4 w5 := by
      have h1 : Below w4.heap.size w4 z5 := by rw [← hz5]; exact (Below.refl _ _).alloc (Nat.le_refl _) _
      have h2 : Only [p5] z5 w5 := by rw [← hw5]; exact Only.setRow _ _ _ (List.mem_singleton.2 rfl)
      exact h1.trans (h2.below h1.size (fun b hb => by rw [List.mem_singleton.1 hb]; omega))
    have HT5 : Hid (Blk w5 p5 30 #[.int .i64 0, .int .i64 0, .int .i64 0, .int .i64 0, .slice none 0 0, .slice none 0 0, .int .i64 0, .int .i64 0, .bool false, .int .i64 0, .int .i64 0, .int .i64 0, .int .i64 0]) := hide (by rw [← hw5]; exact HZ5.out.setRow _)
    have HG5 := hide (HG4.out.kept hb5)
    have HX5 := hide (HX4.out.kept hb5)
    have HB5 : Hid (Below w.heap.size w w5) := hide (below_nextB HB4.out HB4.out.size hb5)
    clear hb5 HG4 HX4
    have c0 : w5.cell? ⟨v, 0, none⟩ = some (.int .i64 x.f.ty) := HX5.out.cell 0
    have c1 : w5.cell? ⟨v, 1, none⟩ = some (.int .i64 x.f.fl) := HX5.out.cell 1
    have c2 : w5.cell? ⟨v, 2, none⟩ = some (.int .i64 x.f.st) := HX5.out.cell 2
    have c3 : w5.cell? ⟨v, 3, none⟩ = some (.int .i64 x.f.pad) := HX5.out.cell 3
    have c4 : w5.cell? ⟨v, 4, none⟩ = some (.slice x.D x.dn x.dc) := HX5.out.cell 4
    have c5 : w5.cell? ⟨v, 5, none⟩ = some (.slice x.S x.sn x.sc) := HX5.out.cell 5
    have c6 : w5.cell? ⟨v, 6, none⟩ = some (.int .i64 x.f.wt) := HX5.out.cell 6
    have c7 : w5.cell? ⟨v, 7, none⟩ = some (.int .i64 x.f.par) := HX5.out.cell 7
    have c8 : w5.cell? ⟨v, 8, none⟩ = some (.bool x.f.alone) := HX5.out.cell 8
    have c9 : w5.cell? ⟨v, 9, none⟩ = some (.int .i64 x.f.prom) := HX5.out.cell 9
    have c10 : w5.cell? ⟨v, 10, none⟩ = some (.int .i64 x.f.last) := HX5.out.cell 10
    have c11 : w5.cell? ⟨v, 11, none⟩ = some (.int .i64 x.f.code) := HX5.out.cell 11
    have c12 : w5.cell? ⟨v, 12, none⟩ = some (.int .i64 x.f.step) := HX5.out.cell 12
    have HOPN : ∀ w', Hid (Calls Try.prog 13 #[.pointer none] w' fun e w'' => e = .returned (.tuple #[.int .i64 0, .bool false]) ∧ w' = w'') := fun w' => hide (open_nil w')
    obtain ⟨s, hs⟩ : ∃ s, stepL 0 [] x.f = s := ⟨_, rfl⟩
    have HST := hide hs
    obtain ⟨fs', r, is, er⟩ := s
    have HBD : Hid (r.sets.length ≤ 100 ∧ r.data.length ≤ 100000) := hide (by
      have h1 := step_sets 0 [] x.f (fun y hy => by cases hy) (by rw [HI.out.ok.sl]; exact HSM.out.2)
      have h2 := HI.out.ok.dl
      have h4 := HSM.out
      rw [hs] at h1
      dsimp only at h1
      refine ⟨h1.2.1, ?_⟩
      have h3 := h1.2.2
      have h5 : (allD []).length = 0 := rfl
      omega)
    have HFX5 : Hid (FS w5 (fun b => b ∉ [g]) x.f x.D x.dn x.dc x.S x.sn x.sc) := hide (FS.mono (FV.ok_kept HI.out.ok HB5.out) (fun b _ hb hm => by have := HB3.out.2.1; rw [List.mem_singleton.1 hm] at hb; omega))
    have hop : Calls Try.prog 11 #[.pointer (some ⟨g, 0, none⟩), .agg #[.int .i64 x.f.ty, .int .i64 x.f.fl, .int .i64 x.f.st, .int .i64 x.f.pad, .slice x.D x.dn x.dc, .slice x.S x.sn x.sc, .int .i64 x.f.wt, .int .i64 x.f.par, .bool x.f.alone, .int .i64 x.f.prom, .int .i64 x.f.last, .int .i64 x.f.code, .int .i64 x.f.step]] w5 fun e w' => ∃ (F' : List Nat) (D S : Option Addr) (dn dc sn sc : Nat), e = .returned (.tuple #[.agg #[.int .i64 r.ty, .int .i64 r.fl, .int .i64 r.st, .int .i64 r.pad, .slice D dn dc, .slice S sn sc, .int .i64 r.wt, .int .i64 r.par, .bool r.alone, .int .i64 r.prom, .int .i64 r.last, .int .i64 r.code, .int .i64 r.step], .bool is, .int .i64 er]) ∧ AsmL w' g 0 fs' F' NoG ∧ Only [g] w5 w' ∧ (∀ b ∈ F', b ∈ [g] ∨ w5.heap.size ≤ b) ∧ FS w' (fun b => b ∉ F') r D dn dc S sn sc := by
      have h4 := HSM.out
      have := add_op g 0 [g] NoG [] x.f x.D x.S x.dn x.dc x.sn x.sc w5 (fun _ h => h.elim) HG5.out (by decide) (by decide) (by decide) (by omega) (by omega) HI.out.fhi HFX5.out
      rw [hs] at this
      exact this
    have HOP := hide hop
    clear hop hs
    go_wp2_with (first | ((with_reducible refine wpList_store_row (o := { dst := none, op := .store 30 (.tmp 5) (.tmp 24), type := _, pos := _, after := _, guard := none }) rfl 30 (.tmp 5) (.tmp 24) rfl p5 #[.int .i64 0, .int .i64 0, .int .i64 0, .int .i64 0, .slice none 0 0, .slice none 0 0, .int .i64 0, .int .i64 0, .bool false, .int .i64 0, .int .i64 0, .int .i64 0, .int .i64 0] ?_ ?_ 30 #[.int .i64 0, .int .i64 0, .int .i64 0, .int .i64 0, .slice none 0 0, .slice none 0 0, .int .i64 0, .int .i64 0, .bool false, .int .i64 0, .int .i64 0, .int .i64 0, .int .i64 0] ?_ ?_ ?_ ?_ ?_); rfl; rfl; exact HZ5.out; kernel_rfl; rfl; simp [Value.oneCell']) | (go_at_call 13; refine (HOPN _).out.mono ?_; rintro e w6 ⟨rfl, rfl⟩))
    refine HOP.out.mono ?_
    rintro e w6 ⟨F', D1, S1, dn1, dc1, sn1, sc1, rfl, hA6, hO6, hF6, hf6⟩
    have HX6 := hide (HX5.out.only hO6 (by simp; exact HB3.out.2.2))
    have HT5' := hide (HT5.out.only hO6 (by simp; have h3 := HGL.out; omega))
    have HFX6 := hide (HFX5.out.only hO6 (fun b hb => hb))
    have HB6 : Hid (Below w.heap.size w w6) := hide (HB5.out.trans (hO6.below HB5.out.size (fun b hb => by rw [List.mem_singleton.1 hb]; exact HB3.out.2.1)))
    have HF6 := hide hf6
    clear hA6 hO6 hF6 hf6 HOP HX5 HFX5 HG5 HT5
    obtain ⟨p7, hp7⟩ : ∃ p7, w6.heap.size = p7 := ⟨_, rfl⟩
    obtain ⟨z7, hz7⟩ : ∃ z7, w6.alloc (.cells #[.int .i64 0, .int .i64 0, .int .i64 0, .int .i64 0, .slice none 0 0, .slice none 0 0, .int .i64 0, .int .i64 0, .bool false, .int .i64 0, .int .i64 0, .int .i64 0, .int .i64 0] 30) = z7 := ⟨_, rfl⟩
    have HZ7 : Hid (Blk z7 p7 30 #[.int .i64 0, .int .i64 0, .int .i64 0, .int .i64 0, .slice none 0 0, .slice none 0 0, .int .i64 0, .int .i64 0, .bool false, .int .i64 0, .int .i64 0, .int .i64 0, .int .i64 0]) := hide (by rw [← hz7, ← hp7]; exact Blk.born _ _ _)
    obtain ⟨w7, hw7⟩ : ∃ w7, z7.setRow p7 #[.int .i64 r.ty, .int .i64 r.fl, .int .i64 r.st, .int .i64 r.pad, .slice D1 dn1 dc1, .slice S1 sn1 sc1, .int .i64 r.wt, .int .i64 r.par, .bool r.alone, .int .i64 r.prom, .int .i64 r.last, .int .i64 r.code, .int .i64 r.step] = w7 := ⟨_, rfl⟩
    have hb7 : Below w6.heap.size w6 w7 := by
      have h1 : Below w6.heap.size w6 z7 := by rw [← hz7]; exact (Below.refl _ _).alloc (Nat.le_refl _) _
      have h2 : Only [p7] z7 w7 := by rw [← hw7]; exact Only.setRow _ _ _ (List.mem_singleton.2 rfl)
      exact h1.trans (h2.below h1.size (fun b hb => by rw [List.mem_singleton.1 hb]; omega))
    have HT7 : Hid (Blk w7 p7 30 #[.int .i64 r.ty, .int .i64 r.fl, .int .i64 r.st, .int .i64 r.pad, .slice D1 dn1 dc1, .slice S1 sn1 sc1, .int .i64 r.wt, .int .i64 r.par, .bool r.alone, .int .i64 r.prom, .int .i64 r.last, .int .i64 r.code, .int .i64 r.step]) := hide (by rw [← hw7]; exact HZ7.out.setRow _)
    have HX7 := hide (HX6.out.kept hb7)
    have HT57 := hide (HT5'.out.kept hb7)
    have HFX7 := hide (HFX6.out.kept hb7)
    have HF7 := hide (HF6.out.kept hb7)
    have HB7 : Hid (Below w.heap.size w w7) := hide (below_nextB HB6.out HB6.out.size hb7)
    clear hb7 HX6 HT5' HFX6 HF6
    have d0 : w7.cell? ⟨v, 0, none⟩ = some (.int .i64 x.f.ty) := HX7.out.cell 0
    have d1 : w7.cell? ⟨v, 1, none⟩ = some (.int .i64 x.f.fl) := HX7.out.cell 1
    have d2 : w7.cell? ⟨v, 2, none⟩ = some (.int .i64 x.f.st) := HX7.out.cell 2
    have d3 : w7.cell? ⟨v, 3, none⟩ = some (.int .i64 x.f.pad) := HX7.out.cell 3
    have d4 : w7.cell? ⟨v, 4, none⟩ = some (.slice x.D x.dn x.dc) := HX7.out.cell 4
    have d5 : w7.cell? ⟨v, 5, none⟩ = some (.slice x.S x.sn x.sc) := HX7.out.cell 5
    have d6 : w7.cell? ⟨v, 6, none⟩ = some (.int .i64 x.f.wt) := HX7.out.cell 6
    have d7 : w7.cell? ⟨v, 7, none⟩ = some (.int .i64 x.f.par) := HX7.out.cell 7
    have d8 : w7.cell? ⟨v, 8, none⟩ = some (.bool x.f.alone) := HX7.out.cell 8
    have d9 : w7.cell? ⟨v, 9, none⟩ = some (.int .i64 x.f.prom) := HX7.out.cell 9
    have d10 : w7.cell? ⟨v, 10, none⟩ = some (.int .i64 x.f.last) := HX7.out.cell 10
    have d11 : w7.cell? ⟨v, 11, none⟩ = some (.int .i64 x.f.code) := HX7.out.cell 11
    have d12 : w7.cell? ⟨v, 12, none⟩ = some (.int .i64 x.f.step) := HX7.out.cell 12
    have hrop : Calls Try.prog 12 #[.slice none 0 0, .agg #[.int .i64 x.f.ty, .int .i64 x.f.fl, .int .i64 x.f.st, .int .i64 x.f.pad, .slice x.D x.dn x.dc, .slice x.S x.sn x.sc, .int .i64 x.f.wt, .int .i64 x.f.par, .bool x.f.alone, .int .i64 x.f.prom, .int .i64 x.f.last, .int .i64 x.f.code, .int .i64 x.f.step], .int .i64 0] w7 fun e w' => ∃ (A' : Option Addr) (n' c' : Nat) (l' : List FV) (D S : Option Addr) (dn dc sn sc : Nat), e = .returned (.tuple #[.slice A' n' c', .agg #[.int .i64 r.ty, .int .i64 r.fl, .int .i64 r.st, .int .i64 r.pad, .slice D dn dc, .slice S sn sc, .int .i64 r.wt, .int .i64 r.par, .bool r.alone, .int .i64 r.prom, .int .i64 r.last, .int .i64 r.code, .int .i64 r.step], .bool is, .int .i64 er]) ∧ RowF w' (fun b => b ∉ [g] ∨ w7.heap.size ≤ b) A' n' c' l' ∧ l'.map (·.f) = fs' ∧ FS w' (fun b => b ∉ [g] ∨ w7.heap.size ≤ b) r D dn dc S sn sc ∧ Below w7.heap.size w7 w' := by
      have h4 := HSM.out
      have := radd_op (fun b => b ∉ [g]) none 0 0 [] 0 0 x.f x.D x.S x.dn x.dc x.sn x.sc w7 rfl (RowF.nil _ _) (by decide) (by have h5 : (allD (List.map (fun x => x.f) ([] : List FV))).length = 0 := rfl; omega) HI.out.fhi HFX7.out
      rw [show List.map (fun x => x.f) ([] : List FV) = [] from rfl, HST.out] at this
      exact this
    have HROP := hide hrop
    clear hrop
    go_wp2_with (((with_reducible refine wpList_store_row (o := { dst := none, op := .store 30 (.tmp 10) (.tmp 35), type := _, pos := _, after := _, guard := none }) rfl 30 (.tmp 10) (.tmp 35) rfl p7 #[.int .i64 r.ty, .int .i64 r.fl, .int .i64 r.st, .int .i64 r.pad, .slice D1 dn1 dc1, .slice S1 sn1 sc1, .int .i64 r.wt, .int .i64 r.par, .bool r.alone, .int .i64 r.prom, .int .i64 r.last, .int .i64 r.code, .int .i64 r.step] ?_ ?_ 30 #[.int .i64 0, .int .i64 0, .int .i64 0, .int .i64 0, .slice none 0 0, .slice none 0 0, .int .i64 0, .int .i64 0, .bool false, .int .i64 0, .int .i64 0, .int .i64 0, .int .i64 0] ?_ ?_ ?_ ?_ ?_); rfl; rfl; exact HZ7.out; kernel_rfl; rfl; simp [Value.oneCell']))
    refine HROP.out.mono ?_
    rintro e w8 ⟨A', n', c', l', D2, S2, dn2, dc2, sn2, sc2, rfl, _, _, hf8, hb8⟩
    have HX8 := hide (HX7.out.kept hb8)
    have HT58 := hide (HT57.out.kept hb8)
    have HT78 := hide (HT7.out.kept hb8)
    have HF8 := hide (HF7.out.kept hb8)
    have HG8 := hide hf8
    have HB8 := hide (below_nextB HB7.out HB7.out.size hb8)
    clear hb8 hf8 HROP HX7 HT57 HF7 HT7 HFX7
    obtain ⟨p9, hp9⟩ : ∃ p9, w8.heap.size = p9 := ⟨_, rfl⟩
    obtain ⟨z9, hz9⟩ : ∃ z9, w8.alloc (.cells #[.int .i64 0, .int .i64 0, .int .i64 0, .int .i64 0, .slice none 0 0, .slice none 0 0, .int .i64 0, .int .i64 0, .bool false, .int .i64 0, .int .i64 0, .int .i64 0, .int .i64 0] 30) = z9 := ⟨_, rfl⟩
    have HZ9 : Hid (Blk z9 p9 30 #[.int .i64 0, .int .i64 0, .int .i64 0, .int .i64 0, .slice none 0 0, .slice none 0 0, .int .i64 0, .int .i64 0, .bool false, .int .i64 0, .int .i64 0, .int .i64 0, .int .i64 0]) := hide (by rw [← hz9, ← hp9]; exact Blk.born _ _ _)
    obtain ⟨w9, hw9⟩ : ∃ w9, z9.setRow p9 #[.int .i64 r.ty, .int .i64 r.fl, .int .i64 r.st, .int .i64 r.pad, .slice D2 dn2 dc2, .slice S2 sn2 sc2, .int .i64 r.wt, .int .i64 r.par, .bool r.alone, .int .i64 r.prom, .int .i64 r.last, .int .i64 r.code, .int .i64 r.step] = w9 := ⟨_, rfl⟩
    have hb9 : Below w8.heap.size w8 w9 := by
      have h1 : Below w8.heap.size w8 z9 := by rw [← hz9]; exact (Below.refl _ _).alloc (Nat.le_refl _) _
      have h2 : Only [p9] z9 w9 := by rw [← hw9]; exact Only.setRow _ _ _ (List.mem_singleton.2 rfl)
      exact h1.trans (h2.below h1.size (fun b hb => by rw [List.mem_singleton.1 hb]; omega))
    have HT9 : Hid (Blk w9 p9 30 #[.int .i64 r.ty, .int .i64 r.fl, .int .i64 r.st, .int .i64 r.pad, .slice D2 dn2 dc2, .slice S2 sn2 sc2, .int .i64 r.wt, .int .i64 r.par, .bool r.alone, .int .i64 r.prom, .int .i64 r.last, .int .i64 r.code, .int .i64 r.step]) := hide (by rw [← hw9]; exact HZ9.out.setRow _)
    have HX9 := hide (HX8.out.kept hb9)
    have HT59 := hide (HT58.out.kept hb9)
    have HT79 := hide (HT78.out.kept hb9)
    have HF9 := hide (HF8.out.kept hb9)
    have HG9 := hide (HG8.out.kept hb9)
    have HB9 := hide (below_nextB HB8.out HB8.out.size hb9)
    clear hb9 HX8 HT58 HT78 HF8 HG8
    have e0 : w9.cell? ⟨v, 0, none⟩ = some (.int .i64 x.f.ty) := HX9.out.cell 0
    have e1 : w9.cell? ⟨v, 1, none⟩ = some (.int .i64 x.f.fl) := HX9.out.cell 1
    have e2 : w9.cell? ⟨v, 2, none⟩ = some (.int .i64 x.f.st) := HX9.out.cell 2
    have e3 : w9.cell? ⟨v, 3, none⟩ = some (.int .i64 x.f.pad) := HX9.out.cell 3
    have e4 : w9.cell? ⟨v, 4, none⟩ = some (.slice x.D x.dn x.dc) := HX9.out.cell 4
    have e5 : w9.cell? ⟨v, 5, none⟩ = some (.slice x.S x.sn x.sc) := HX9.out.cell 5
    have e6 : w9.cell? ⟨v, 6, none⟩ = some (.int .i64 x.f.wt) := HX9.out.cell 6
    have e7 : w9.cell? ⟨v, 7, none⟩ = some (.int .i64 x.f.par) := HX9.out.cell 7
    have e8 : w9.cell? ⟨v, 8, none⟩ = some (.bool x.f.alone) := HX9.out.cell 8
    have e9 : w9.cell? ⟨v, 9, none⟩ = some (.int .i64 x.f.prom) := HX9.out.cell 9
    have e10 : w9.cell? ⟨v, 10, none⟩ = some (.int .i64 x.f.last) := HX9.out.cell 10
    have e11 : w9.cell? ⟨v, 11, none⟩ = some (.int .i64 x.f.code) := HX9.out.cell 11
    have e12 : w9.cell? ⟨v, 12, none⟩ = some (.int .i64 x.f.step) := HX9.out.cell 12
    go_wp2_with (((with_reducible refine wpList_store_row (o := { dst := none, op := .store 30 (.tmp 14) (.tmp 42), type := _, pos := _, after := _, guard := none }) rfl 30 (.tmp 14) (.tmp 42) rfl p9 #[.int .i64 r.ty, .int .i64 r.fl, .int .i64 r.st, .int .i64 r.pad, .slice D2 dn2 dc2, .slice S2 sn2 sc2, .int .i64 r.wt, .int .i64 r.par, .bool r.alone, .int .i64 r.prom, .int .i64 r.last, .int .i64 r.code, .int .i64 r.step] ?_ ?_ 30 #[.int .i64 0, .int .i64 0, .int .i64 0, .int .i64 0, .slice none 0 0, .slice none 0 0, .int .i64 0, .int .i64 0, .bool false, .int .i64 0, .int .i64 0, .int .i64 0, .int .i64 0] ?_ ?_ ?_ ?_ ?_); rfl; rfl; exact HZ9.out; kernel_rfl; rfl; simp [Value.oneCell']))
    refine (takes_nil x.f x.D x.S x.dn x.dc x.sn x.sc w9).mono ?_
    rintro e w10 ⟨rfl, hb⟩
    have HT5a := hide (HT59.out.kept hb)
    have HT7a := hide (HT79.out.kept hb)
    have HT9a := hide (HT9.out.kept hb)
    have HFa := hide (HF9.out.kept hb)
    have HGa := hide (HG9.out.kept hb)
    have HBa := hide (below_nextB HB9.out HB9.out.size hb)
    clear hb HT59 HT79 HT9 HF9 HG9 HX9
    have g0 : w10.cell? ⟨p5, 0, none⟩ = some (.int .i64 0) := HT5a.out.cell 0
    have g1 : w10.cell? ⟨p5, 1, none⟩ = some (.int .i64 0) := HT5a.out.cell 1
    have g2 : w10.cell? ⟨p5, 2, none⟩ = some (.int .i64 0) := HT5a.out.cell 2
    have g3 : w10.cell? ⟨p5, 3, none⟩ = some (.int .i64 0) := HT5a.out.cell 3
    have g4 : w10.cell? ⟨p5, 4, none⟩ = some (.slice none 0 0) := HT5a.out.cell 4
    have g5 : w10.cell? ⟨p5, 5, none⟩ = some (.slice none 0 0) := HT5a.out.cell 5
    have g6 : w10.cell? ⟨p5, 6, none⟩ = some (.int .i64 0) := HT5a.out.cell 6
    have g7 : w10.cell? ⟨p5, 7, none⟩ = some (.int .i64 0) := HT5a.out.cell 7
    have g8 : w10.cell? ⟨p5, 8, none⟩ = some (.bool false) := HT5a.out.cell 8
    have g9 : w10.cell? ⟨p5, 9, none⟩ = some (.int .i64 0) := HT5a.out.cell 9
    have g10 : w10.cell? ⟨p5, 10, none⟩ = some (.int .i64 0) := HT5a.out.cell 10
    have g11 : w10.cell? ⟨p5, 11, none⟩ = some (.int .i64 0) := HT5a.out.cell 11
    have g12 : w10.cell? ⟨p5, 12, none⟩ = some (.int .i64 0) := HT5a.out.cell 12
    have h0 : w10.cell? ⟨p7, 0, none⟩ = some (.int .i64 r.ty) := HT7a.out.cell 0
    have h1 : w10.cell? ⟨p7, 1, none⟩ = some (.int .i64 r.fl) := HT7a.out.cell 1
    have h2 : w10.cell? ⟨p7, 2, none⟩ = some (.int .i64 r.st) := HT7a.out.cell 2
    have h3 : w10.cell? ⟨p7, 3, none⟩ = some (.int .i64 r.pad) := HT7a.out.cell 3
    have h4 : w10.cell? ⟨p7, 4, none⟩ = some (.slice D1 dn1 dc1) := HT7a.out.cell 4
    have h5 : w10.cell? ⟨p7, 5, none⟩ = some (.slice S1 sn1 sc1) := HT7a.out.cell 5
    have h6 : w10.cell? ⟨p7, 6, none⟩ = some (.int .i64 r.wt) := HT7a.out.cell 6
    have h7 : w10.cell? ⟨p7, 7, none⟩ = some (.int .i64 r.par) := HT7a.out.cell 7
    have h8 : w10.cell? ⟨p7, 8, none⟩ = some (.bool r.alone) := HT7a.out.cell 8
    have h9 : w10.cell? ⟨p7, 9, none⟩ = some (.int .i64 r.prom) := HT7a.out.cell 9
    have h10 : w10.cell? ⟨p7, 10, none⟩ = some (.int .i64 r.last) := HT7a.out.cell 10
    have h11 : w10.cell? ⟨p7, 11, none⟩ = some (.int .i64 r.code) := HT7a.out.cell 11
    have h12 : w10.cell? ⟨p7, 12, none⟩ = some (.int .i64 r.step) := HT7a.out.cell 12
    have i0 : w10.cell? ⟨p9, 0, none⟩ = some (.int .i64 r.ty) := HT9a.out.cell 0
    have i1 : w10.cell? ⟨p9, 1, none⟩ = some (.int .i64 r.fl) := HT9a.out.cell 1
    have i2 : w10.cell? ⟨p9, 2, none⟩ = some (.int .i64 r.st) := HT9a.out.cell 2
    have i3 : w10.cell? ⟨p9, 3, none⟩ = some (.int .i64 r.pad) := HT9a.out.cell 3
    have i4 : w10.cell? ⟨p9, 4, none⟩ = some (.slice D2 dn2 dc2) := HT9a.out.cell 4
    have i5 : w10.cell? ⟨p9, 5, none⟩ = some (.slice S2 sn2 sc2) := HT9a.out.cell 5
    have i6 : w10.cell? ⟨p9, 6, none⟩ = some (.int .i64 r.wt) := HT9a.out.cell 6
    have i7 : w10.cell? ⟨p9, 7, none⟩ = some (.int .i64 r.par) := HT9a.out.cell 7
    have i8 : w10.cell? ⟨p9, 8, none⟩ = some (.bool r.alone) := HT9a.out.cell 8
    have i9 : w10.cell? ⟨p9, 9, none⟩ = some (.int .i64 r.prom) := HT9a.out.cell 9
    have i10 : w10.cell? ⟨p9, 10, none⟩ = some (.int .i64 r.last) := HT9a.out.cell 10
    have i11 : w10.cell? ⟨p9, 11, none⟩ = some (.int .i64 r.code) := HT9a.out.cell 11
    have i12 : w10.cell? ⟨p9, 12, none⟩ = some (.int .i64 r.step) := HT9a.out.cell 12
    go_wp2_with fail
    refine (same14 Fr.zero none none none none 0 0 0 0 0 0 w10 (by decide) (by decide) rfl rfl (Sees.nil _ _) (Sees.nil _ _) (Sees.nil _ _) (Sees.nil _ _)).mono ?_
    rintro e w11 ⟨rfl, hb⟩
    have HT7b := hide (HT7a.out.kept hb)
    have HT9b := hide (HT9a.out.kept hb)
    have HFb := hide (HFa.out.kept hb)
    have HGb := hide (HGa.out.kept hb)
    have HBb := hide (below_nextB HBa.out HBa.out.size hb)
    clear hb HT7a HT9a HFa HGa
    have h0 : w11.cell? ⟨p7, 0, none⟩ = some (.int .i64 r.ty) := HT7b.out.cell 0
    have h1 : w11.cell? ⟨p7, 1, none⟩ = some (.int .i64 r.fl) := HT7b.out.cell 1
    have h2 : w11.cell? ⟨p7, 2, none⟩ = some (.int .i64 r.st) := HT7b.out.cell 2
    have h3 : w11.cell? ⟨p7, 3, none⟩ = some (.int .i64 r.pad) := HT7b.out.cell 3
    have h4 : w11.cell? ⟨p7, 4, none⟩ = some (.slice D1 dn1 dc1) := HT7b.out.cell 4
    have h5 : w11.cell? ⟨p7, 5, none⟩ = some (.slice S1 sn1 sc1) := HT7b.out.cell 5
    have h6 : w11.cell? ⟨p7, 6, none⟩ = some (.int .i64 r.wt) := HT7b.out.cell 6
    have h7 : w11.cell? ⟨p7, 7, none⟩ = some (.int .i64 r.par) := HT7b.out.cell 7
    have h8 : w11.cell? ⟨p7, 8, none⟩ = some (.bool r.alone) := HT7b.out.cell 8
    have h9 : w11.cell? ⟨p7, 9, none⟩ = some (.int .i64 r.prom) := HT7b.out.cell 9
    have h10 : w11.cell? ⟨p7, 10, none⟩ = some (.int .i64 r.last) := HT7b.out.cell 10
    have h11 : w11.cell? ⟨p7, 11, none⟩ = some (.int .i64 r.code) := HT7b.out.cell 11
    have h12 : w11.cell? ⟨p7, 12, none⟩ = some (.int .i64 r.step) := HT7b.out.cell 12
    have i0 : w11.cell? ⟨p9, 0, none⟩ = some (.int .i64 r.ty) := HT9b.out.cell 0
    have i1 : w11.cell? ⟨p9, 1, none⟩ = some (.int .i64 r.fl) := HT9b.out.cell 1
    have i2 : w11.cell? ⟨p9, 2, none⟩ = some (.int .i64 r.st) := HT9b.out.cell 2
    have i3 : w11.cell? ⟨p9, 3, none⟩ = some (.int .i64 r.pad) := HT9b.out.cell 3
    have i4 : w11.cell? ⟨p9, 4, none⟩ = some (.slice D2 dn2 dc2) := HT9b.out.cell 4
    have i5 : w11.cell? ⟨p9, 5, none⟩ = some (.slice S2 sn2 sc2) := HT9b.out.cell 5
    have i6 : w11.cell? ⟨p9, 6, none⟩ = some (.int .i64 r.wt) := HT9b.out.cell 6
    have i7 : w11.cell? ⟨p9, 7, none⟩ = some (.int .i64 r.par) := HT9b.out.cell 7
    have i8 : w11.cell? ⟨p9, 8, none⟩ = some (.bool r.alone) := HT9b.out.cell 8
    have i9 : w11.cell? ⟨p9, 9, none⟩ = some (.int .i64 r.prom) := HT9b.out.cell 9
    have i10 : w11.cell? ⟨p9, 10, none⟩ = some (.int .i64 r.last) := HT9b.out.cell 10
    have i11 : w11.cell? ⟨p9, 11, none⟩ = some (.int .i64 r.code) := HT9b.out.cell 11
    have i12 : w11.cell? ⟨p9, 12, none⟩ = some (.int .i64 r.step) := HT9b.out.cell 12
    have HSAME : Hid (Calls Try.prog 14 #[.agg #[.int .i64 r.ty, .int .i64 r.fl, .int .i64 r.st, .int .i64 r.pad, .slice D1 dn1 dc1, .slice S1 sn1 sc1, .int .i64 r.wt, .int .i64 r.par, .bool r.alone, .int .i64 r.prom, .int .i64 r.last, .int .i64 r.code, .int .i64 r.step], .agg #[.int .i64 r.ty, .int .i64 r.fl, .int .i64 r.st, .int .i64 r.pad, .slice D2 dn2 dc2, .slice S2 sn2 sc2, .int .i64 r.wt, .int .i64 r.par, .bool r.alone, .int .i64 r.prom, .int .i64 r.last, .int .i64 r.code, .int .i64 r.step]] w11 fun e w' => e = .returned (.bool true) ∧ Below w11.heap.size w11 w') := hide (by
      obtain rfl : dn2 = dn1 := HGb.out.dl.symm.trans HFb.out.dl
      obtain rfl : sn2 = sn1 := HGb.out.sl.symm.trans HFb.out.sl
      exact same14 r D1 S1 D2 S2 dn2 dc1 sn2 sc1 dc2 sc2 w11 (by have h1 := HBD.out.2; have h2 := HGb.out.dl; omega) (by have h1 := HBD.out.1; have h2 := HGb.out.sl; omega) HGb.out.dl HGb.out.sl HFb.out.d.sees.sees HGb.out.d.sees.sees HFb.out.s.sees.sees HGb.out.s.sees.sees)
    go_wp2_with fail
    refine HSAME.out.mono ?_
    rintro e w12 ⟨rfl, hb⟩
    have HBc := hide (below_nextB HBb.out HBb.out.size hb)
    have q1 : (is == is) = true := by cases is <;> rfl
    have q2 : (er == er) = true := by simp
    clear hb
    go_wp2_with fail
    refine (alive_any _).mono ?_
    rintro e w13 ⟨rfl, hb⟩
    have HBd := hide (below_nextB HBc.out HBc.out.size hb)
    clear hb
    go_wp2_with fail
    go_ret
    exact ⟨rfl, HBd.out⟩
end Go.Proofs.Ytpjibdnoiioaoaa
