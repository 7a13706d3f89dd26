/- The walk of the law BlockParts. -/
import Derived.Test.YtpjibdnoiioaoaaZ
import Derived.Deep.Cut
namespace Go.Proofs.Ytpjibdnoiioaoaa
open Go.ChangeShapes Go.WideShapes Go.ChangeAt Go.RowKit Go.Deep
set_option linter.unusedSimpArgs false
set_option linter.unusedVariables false

theorem open_bytes {H : Type} {enc : TypeId × Value → H} {w : World} {base : Nat} {spare : Nat → Bool} {held : Bool} {A : Option Addr} {len cap : Nat} {d : DataW H} {p : List MemPlace}
    (h : DataW.Trod enc Try.prog w base spare held 27 (.slice A len cap) d p) : ∃ b : List Int, b.length = len ∧ cap ≤ maxLen ∧ (A = none → len = 0 ∧ cap = 0) ∧ len ≤ cap ∧ Sees w A (u8s b) ∧ ∀ z ∈ b, 0 ≤ z ∧ z ≤ 255 := by
  obtain ⟨fuel, hf⟩ := h
  obtain ⟨B, n, c, b, e, hl, _, hn, hc, hs, hw⟩ := row_at Try.underlying27 Try.underlying5 cells5 (v := .slice A len cap) hf
  injection e with e1 e2 e3
  subst e1 e2 e3
  refine ⟨b, hl, ?_, hn, hc, hs, fun z hz => wf_u8 (hw z hz)⟩
  rcases open_ints Try.underlying27 Try.underlying5 cells5 hf with ⟨hcs, _⟩ | ⟨x, l, c, zs, hcs, _, hl, hm, hz, _, hcell, hwz⟩
  · injection hcs with e1
    injection e1 with e2 e3 e4
    subst e4
    exact Nat.zero_le _
  · injection hcs with e1
    injection e1 with e2 e3 e4
    subst e4
    exact hm

def nextF (st : Int) : Fr := ⟨9, 0, st, 0, [], [], 0, 0, false, 0, 0, 0, 0⟩
/-- What is known in the midst of the parts. -/
structure PI (w0 w : World) (g v p : Nat) (x : FV) (fl1 : Int) (b : List Int) (E : Option Addr) (r e k : Nat) (gf : Fr) (Dg Sg : Option Addr) (dng dcg sng scg : Nat) (fs : List Fr) (F : List Nat) : Prop where
  asm : AsmL w g 2000 fs F (fun b => b = p)
  box : Blk w p 30 #[.int .i64 gf.ty, .int .i64 gf.fl, .int .i64 gf.st, .int .i64 gf.pad, .slice Dg dng dcg, .slice Sg sng scg, .int .i64 gf.wt, .int .i64 gf.par, .bool gf.alone, .int .i64 gf.prom, .int .i64 gf.last, .int .i64 gf.code, .int .i64 gf.step]
  fst : Blk w v 30 #[.int .i64 x.f.ty, .int .i64 fl1, .int .i64 x.f.st, .int .i64 x.f.pad, .slice x.D x.dn x.dc, .slice x.S x.sn x.sc, .int .i64 x.f.wt, .int .i64 x.f.par, .bool x.f.alone, .int .i64 x.f.prom, .int .i64 x.f.last, .int .i64 x.f.code, .int .i64 x.f.step]
  left : Sl w (fun b => b < w0.heap.size) E r e (u8s (b.drop k))
  sets : Sl w (fun b => b < w0.heap.size) Sg sng scg (cellsS gf.sets)
  sl : gf.sets.length = sng
  sle : sng ≤ 100
  ge : ∀ b ∈ F, w0.heap.size ≤ b
  pF : p ∉ F
  vF : v ∉ F
  pv : p ≠ v
  pg : w0.heap.size ≤ p
  bel : Below w0.heap.size w0 w
  all : allD fs = b.take k
  st : (fs = [] ∧ gf = { x.f with fl := fl1 }) ∨ ∃ a t, fs = a :: t ∧ a.st = x.f.st ∧ a.ty = x.f.ty ∧ a.prom = x.f.prom ∧ gf = nextF x.f.st
/-- What the law's flags are. -/
structure FlOk (ty fl1 : Int) : Prop where
  ty : ty = 1 ∨ ty = 5
  lo : 0 ≤ fl1
  hi : fl1 ≤ 255
  no : fl1 / 4 % 2 = 0
theorem has_part {ty fl1 : Int} (h : FlOk ty fl1) : hasB ty fl1 4 = false ∧ hasB ty (fl1 + 4) 4 = true := by
  have h1 := h.lo
  have h2 := h.no
  have h3 : (fl1 + 4) / 4 % 2 = 1 := by omega
  have h4 : 0 ≤ fl1 + 4 := by omega
  unfold hasB
  constructor
  · simp [h2]
  · rcases h.ty with rfl | rfl <;> simp [usesB, h3, h4]
/-- The next frame is one of the block's. -/
theorem takes_part {fs : List Fr} {gf : Fr} {x : FV} {fl1 : Int} (hf : FlOk x.f.ty fl1) (h : (fs = [] ∧ gf = { x.f with fl := fl1 }) ∨ ∃ a t, fs = a :: t ∧ a.st = x.f.st ∧ a.ty = x.f.ty ∧ a.prom = x.f.prom ∧ gf = nextF x.f.st) (gf' : Fr) (e1 : gf'.ty = gf.ty) (e2 : gf'.st = gf.st) : takesB fs gf' = true ∧ partB gf'.ty = true := by
  rcases h with ⟨rfl, rfl⟩ | ⟨a, t, rfl, h1, h2, h3, rfl⟩
  · rw [e1]
    unfold takesB
    dsimp only
    rw [e1]
    dsimp only
    rcases hf.ty with h | h <;> rw [h] <;> exact ⟨rfl, rfl⟩
  · unfold takesB
    dsimp only
    rw [e1, e2, h1]
    exact ⟨by show ((9 : Int) == 9 && x.f.st == x.f.st) = true; simp, rfl⟩
theorem step_more {fs : List Fr} {gf : Fr} {x : FV} {fl1 : Int} (hf : FlOk x.f.ty fl1) (h : (fs = [] ∧ gf = { x.f with fl := fl1 }) ∨ ∃ a t, fs = a :: t ∧ a.st = x.f.st ∧ a.ty = x.f.ty ∧ a.prom = x.f.prom ∧ gf = nextF x.f.st) (d : List Int) (hl : (allD fs).length + d.length ≤ 2000) :
    stepL 2000 fs { gf with data := d } = (fs ++ [{ gf with data := d }], Fr.zero, false, 0) := by
  obtain ⟨h1, h2⟩ := takes_part hf h { gf with data := d } rfl rfl
  have h3 : hasB gf.ty gf.fl 4 = false := by
    rcases h with ⟨_, rfl⟩ | ⟨a, t, _, _, _, _, rfl⟩
    · exact (has_part hf).1
    · rfl
  unfold stepL
  rw [if_neg (by rw [h1]; decide), if_neg (by rw [h2]; decide), if_neg (by rw [List.length_append]; dsimp only; omega)]
  rw [if_neg (by dsimp only; rw [h3]; decide)]
theorem step_last {fs : List Fr} {gf : Fr} {x : FV} {fl1 : Int} (hf : FlOk x.f.ty fl1) (h : (fs = [] ∧ gf = { x.f with fl := fl1 }) ∨ ∃ a t, fs = a :: t ∧ a.st = x.f.st ∧ a.ty = x.f.ty ∧ a.prom = x.f.prom ∧ gf = nextF x.f.st) (d : List Int) (hl : (allD fs).length + d.length ≤ 2000) :
    ∃ r : Fr, stepL 2000 fs { gf with data := d, fl := gf.fl + 4 } = ([], r, true, 0) ∧ r.data = allD fs ++ d ∧ r.st = x.f.st ∧ r.ty = x.f.ty ∧ r.prom = x.f.prom := by
  obtain ⟨h1, h2⟩ := takes_part hf h { gf with data := d, fl := gf.fl + 4 } rfl rfl
  have h3 : hasB gf.ty (gf.fl + 4) 4 = true := by
    rcases h with ⟨_, rfl⟩ | ⟨a, t, _, _, _, _, rfl⟩
    · exact (has_part hf).2
    · rfl
  refine ⟨whole fs { gf with data := d, fl := gf.fl + 4 }, ?_, ?_⟩
  · unfold stepL
    rw [if_neg (by rw [h1]; decide), if_neg (by rw [h2]; decide), if_neg (by rw [List.length_append]; dsimp only; omega)]
    rw [if_pos (by dsimp only; rw [h3])]
  · rcases h with ⟨rfl, rfl⟩ | ⟨a, t, rfl, h4, h5, h6, rfl⟩
    · exact ⟨rfl, rfl, rfl, rfl⟩
    · exact ⟨rfl, h4, h5, h6⟩

set_option maxRecDepth 100000 in
set_option maxHeartbeats 4000000 in
theorem parts_far (x : FV) (A1 A2 : Option Addr) (n1 c1 n2 c2 : Nat) (b cu : List Int) (w : World) (hin : FIn w x) (hm1 : n1 ≤ maxLen) (hm2 : n2 ≤ maxLen) (h : 2000 < n1 ∨ 60 < n2 ∨ (decide (2000 < x.dn) || decide (100 < x.sn)) = true ∨ ((x.f.ty != 1) = true ∧ (x.f.ty != 5) = true) ∨ x.f.fl < 0 ∨ 255 < x.f.fl) : Calls Try.prog 4 #[.agg #[.int .i64 x.f.ty, .int .i64 x.f.fl, .int .i64 x.f.st, .int .i64 x.f.pad, .slice x.D x.dn x.dc, .slice x.S x.sn x.sc, .int .i64 x.f.wt, .int .i64 x.f.par, .bool x.f.alone, .int .i64 x.f.prom, .int .i64 x.f.last, .int .i64 x.f.code, .int .i64 x.f.step], .slice A1 n1 c1, .slice A2 n2 c2] w fun e w' => e = .returned (.bool true) ∧ Below w.heap.size w w' := by
  obtain ⟨v, hv⟩ : ∃ v, w.heap.size = v := ⟨_, rfl⟩
  obtain ⟨W1, hW1⟩ : ∃ W1, w.alloc (.cells #[.int .i64 x.f.ty, .int .i64 x.f.fl, .int .i64 x.f.st, .int .i64 x.f.pad, .slice x.D x.dn x.dc, .slice x.S x.sn x.sc, .int .i64 x.f.wt, .int .i64 x.f.par, .bool x.f.alone, .int .i64 x.f.prom, .int .i64 x.f.last, .int .i64 x.f.code, .int .i64 x.f.step] 30) = W1 := ⟨_, rfl⟩
  have HB1 : Hid (Below w.heap.size w W1) := hide (by rw [← hW1]; exact (Below.refl _ _).alloc (Nat.le_refl _) _)
  have HX1 : Hid (Blk W1 v 30 #[.int .i64 x.f.ty, .int .i64 x.f.fl, .int .i64 x.f.st, .int .i64 x.f.pad, .slice x.D x.dn x.dc, .slice x.S x.sn x.sc, .int .i64 x.f.wt, .int .i64 x.f.par, .bool x.f.alone, .int .i64 x.f.prom, .int .i64 x.f.last, .int .i64 x.f.code, .int .i64 x.f.step]) := hide (by rw [← hW1, ← hv]; exact Blk.born _ _ _)
  have a0 : W1.cell? ⟨v, 0, none⟩ = some (.int .i64 x.f.ty) := HX1.out.cell 0
  have a1 : W1.cell? ⟨v, 1, none⟩ = some (.int .i64 x.f.fl) := HX1.out.cell 1
  have a2 : W1.cell? ⟨v, 2, none⟩ = some (.int .i64 x.f.st) := HX1.out.cell 2
  have a3 : W1.cell? ⟨v, 3, none⟩ = some (.int .i64 x.f.pad) := HX1.out.cell 3
  have a4 : W1.cell? ⟨v, 4, none⟩ = some (.slice x.D x.dn x.dc) := HX1.out.cell 4
  have a5 : W1.cell? ⟨v, 5, none⟩ = some (.slice x.S x.sn x.sc) := HX1.out.cell 5
  have a6 : W1.cell? ⟨v, 6, none⟩ = some (.int .i64 x.f.wt) := HX1.out.cell 6
  have a7 : W1.cell? ⟨v, 7, none⟩ = some (.int .i64 x.f.par) := HX1.out.cell 7
  have a8 : W1.cell? ⟨v, 8, none⟩ = some (.bool x.f.alone) := HX1.out.cell 8
  have a9 : W1.cell? ⟨v, 9, none⟩ = some (.int .i64 x.f.prom) := HX1.out.cell 9
  have a10 : W1.cell? ⟨v, 10, none⟩ = some (.int .i64 x.f.last) := HX1.out.cell 10
  have a11 : W1.cell? ⟨v, 11, none⟩ = some (.int .i64 x.f.code) := HX1.out.cell 11
  have a12 : W1.cell? ⟨v, 12, none⟩ = some (.int .i64 x.f.step) := HX1.out.cell 12
  have hc := fun w => hide (large15 x.f x.D x.S x.dn x.dc x.sn x.sc w hin.dm hin.sm)
  have g1 : (n1 : Int) ≤ 9223372036854775807 := by unfold maxLen at hm1; omega
  have g2 : (n2 : Int) ≤ 9223372036854775807 := by unfold maxLen at hm2; omega
  clear hin hm1 hm2
  by_cases k1 : 2000 < n1
  · have h1 : (n1 : Int) > 2000 := by omega
    clear h
    go_enter Try.func4, Try.ntmps4
    go_wp2_with fail
    refine (alive_any _).mono ?_
    rintro e w3 ⟨rfl, hb⟩
    have HB3 := hide (below_nextB HB1.out HB1.out.size hb)
    clear hb
    go_wp2_with fail
    go_ret
    exact ⟨rfl, HB3.out⟩
  have k1' : ¬ (n1 : Int) > 2000 := by omega
  by_cases k2 : 60 < n2
  · have h1 : (n2 : Int) > 60 := by omega
    clear h
    go_enter Try.func4, Try.ntmps4
    go_wp2_with fail
    refine (alive_any _).mono ?_
    rintro e w3 ⟨rfl, hb⟩
    have HB3 := hide (below_nextB HB1.out HB1.out.size hb)
    clear hb
    go_wp2_with fail
    go_ret
    exact ⟨rfl, HB3.out⟩
  have k2' : ¬ (n2 : Int) > 60 := by omega
  cases k3 : (decide (2000 < x.dn) || decide (100 < x.sn))
  case true =>
    simp only [k3] at hc
    clear h k3
    go_enter Try.func4, Try.ntmps4
    go_wp2_with fail
    refine (hc _).out.mono ?_
    rintro e w2 ⟨rfl, hb⟩
    have HB2 := hide (below_nextB HB1.out HB1.out.size hb)
    have HX2 := hide (HX1.out.kept hb)
    clear hb hc
    have b0 : w2.cell? ⟨v, 0, none⟩ = some (.int .i64 x.f.ty) := HX2.out.cell 0
    have b1 : w2.cell? ⟨v, 1, none⟩ = some (.int .i64 x.f.fl) := HX2.out.cell 1
    have b2 : w2.cell? ⟨v, 2, none⟩ = some (.int .i64 x.f.st) := HX2.out.cell 2
    have b3 : w2.cell? ⟨v, 3, none⟩ = some (.int .i64 x.f.pad) := HX2.out.cell 3
    have b4 : w2.cell? ⟨v, 4, none⟩ = some (.slice x.D x.dn x.dc) := HX2.out.cell 4
    have b5 : w2.cell? ⟨v, 5, none⟩ = some (.slice x.S x.sn x.sc) := HX2.out.cell 5
    have b6 : w2.cell? ⟨v, 6, none⟩ = some (.int .i64 x.f.wt) := HX2.out.cell 6
    have b7 : w2.cell? ⟨v, 7, none⟩ = some (.int .i64 x.f.par) := HX2.out.cell 7
    have b8 : w2.cell? ⟨v, 8, none⟩ = some (.bool x.f.alone) := HX2.out.cell 8
    have b9 : w2.cell? ⟨v, 9, none⟩ = some (.int .i64 x.f.prom) := HX2.out.cell 9
    have b10 : w2.cell? ⟨v, 10, none⟩ = some (.int .i64 x.f.last) := HX2.out.cell 10
    have b11 : w2.cell? ⟨v, 11, none⟩ = some (.int .i64 x.f.code) := HX2.out.cell 11
    have b12 : w2.cell? ⟨v, 12, none⟩ = some (.int .i64 x.f.step) := HX2.out.cell 12
    go_wp2_with fail
    refine (alive_any _).mono ?_
    rintro e w3 ⟨rfl, hb⟩
    have HB3 := hide (below_nextB HB2.out HB2.out.size hb)
    clear hb
    go_wp2_with fail
    go_ret
    exact ⟨rfl, HB3.out⟩
  case false =>
    simp only [k3] at hc
    rw [k3] at h
    clear k3
    have h' : ((x.f.ty != 1) = true ∧ (x.f.ty != 5) = true) ∨ x.f.fl < 0 ∨ 255 < x.f.fl := by
      rcases h with h | h | h | h
      · exact absurd h k1
      · exact absurd h k2
      · cases h
      · exact h
    clear h k1 k2
    by_cases k4 : (x.f.ty != 1) = true ∧ (x.f.ty != 5) = true
    · obtain ⟨h4, h5⟩ := k4
      clear h'
      go_enter Try.func4, Try.ntmps4
      go_wp2_with fail
      refine (hc _).out.mono ?_
      rintro e w2 ⟨rfl, hb⟩
      have HB2 := hide (below_nextB HB1.out HB1.out.size hb)
      have HX2 := hide (HX1.out.kept hb)
      clear hb hc
      have b0 : w2.cell? ⟨v, 0, none⟩ = some (.int .i64 x.f.ty) := HX2.out.cell 0
      have b1 : w2.cell? ⟨v, 1, none⟩ = some (.int .i64 x.f.fl) := HX2.out.cell 1
      have b2 : w2.cell? ⟨v, 2, none⟩ = some (.int .i64 x.f.st) := HX2.out.cell 2
      have b3 : w2.cell? ⟨v, 3, none⟩ = some (.int .i64 x.f.pad) := HX2.out.cell 3
      have b4 : w2.cell? ⟨v, 4, none⟩ = some (.slice x.D x.dn x.dc) := HX2.out.cell 4
      have b5 : w2.cell? ⟨v, 5, none⟩ = some (.slice x.S x.sn x.sc) := HX2.out.cell 5
      have b6 : w2.cell? ⟨v, 6, none⟩ = some (.int .i64 x.f.wt) := HX2.out.cell 6
      have b7 : w2.cell? ⟨v, 7, none⟩ = some (.int .i64 x.f.par) := HX2.out.cell 7
      have b8 : w2.cell? ⟨v, 8, none⟩ = some (.bool x.f.alone) := HX2.out.cell 8
      have b9 : w2.cell? ⟨v, 9, none⟩ = some (.int .i64 x.f.prom) := HX2.out.cell 9
      have b10 : w2.cell? ⟨v, 10, none⟩ = some (.int .i64 x.f.last) := HX2.out.cell 10
      have b11 : w2.cell? ⟨v, 11, none⟩ = some (.int .i64 x.f.code) := HX2.out.cell 11
      have b12 : w2.cell? ⟨v, 12, none⟩ = some (.int .i64 x.f.step) := HX2.out.cell 12
      go_wp2_with fail
      refine (alive_any _).mono ?_
      rintro e w3 ⟨rfl, hb⟩
      have HB3 := hide (below_nextB HB2.out HB2.out.size hb)
      clear hb
      go_wp2_with fail
      go_ret
      exact ⟨rfl, HB3.out⟩
    · have h4 : (x.f.ty != 1) = false ∨ ((x.f.ty != 1) = true ∧ (x.f.ty != 5) = false) := by
        cases e1 : (x.f.ty != 1)
        · exact .inl rfl
        · cases e2 : (x.f.ty != 5)
          · exact .inr ⟨rfl, rfl⟩
          · exact absurd ⟨e1, e2⟩ k4
      have h6 : x.f.fl < 0 ∨ (¬ x.f.fl < 0 ∧ x.f.fl > 255) := by
        rcases h' with h | h | h
        · exact absurd h k4
        · exact .inl h
        · by_cases h0 : x.f.fl < 0
          · exact .inl h0
          · exact .inr ⟨h0, h⟩
      clear k4 h'
      rcases h4 with h4 | ⟨h4, h5⟩ <;> rcases h6 with h6 | ⟨h6, h7⟩
      all_goals
        go_enter Try.func4, Try.ntmps4
        go_wp2_with fail
        refine (hc _).out.mono ?_
        rintro e w2 ⟨rfl, hb⟩
        have HB2 := hide (below_nextB HB1.out HB1.out.size hb)
        have HX2 := hide (HX1.out.kept hb)
        clear hb hc
        have b0 : w2.cell? ⟨v, 0, none⟩ = some (.int .i64 x.f.ty) := HX2.out.cell 0
        have b1 : w2.cell? ⟨v, 1, none⟩ = some (.int .i64 x.f.fl) := HX2.out.cell 1
        have b2 : w2.cell? ⟨v, 2, none⟩ = some (.int .i64 x.f.st) := HX2.out.cell 2
        have b3 : w2.cell? ⟨v, 3, none⟩ = some (.int .i64 x.f.pad) := HX2.out.cell 3
        have b4 : w2.cell? ⟨v, 4, none⟩ = some (.slice x.D x.dn x.dc) := HX2.out.cell 4
        have b5 : w2.cell? ⟨v, 5, none⟩ = some (.slice x.S x.sn x.sc) := HX2.out.cell 5
        have b6 : w2.cell? ⟨v, 6, none⟩ = some (.int .i64 x.f.wt) := HX2.out.cell 6
        have b7 : w2.cell? ⟨v, 7, none⟩ = some (.int .i64 x.f.par) := HX2.out.cell 7
        have b8 : w2.cell? ⟨v, 8, none⟩ = some (.bool x.f.alone) := HX2.out.cell 8
        have b9 : w2.cell? ⟨v, 9, none⟩ = some (.int .i64 x.f.prom) := HX2.out.cell 9
        have b10 : w2.cell? ⟨v, 10, none⟩ = some (.int .i64 x.f.last) := HX2.out.cell 10
        have b11 : w2.cell? ⟨v, 11, none⟩ = some (.int .i64 x.f.code) := HX2.out.cell 11
        have b12 : w2.cell? ⟨v, 12, none⟩ = some (.int .i64 x.f.step) := HX2.out.cell 12
        go_wp2_with fail
        refine (alive_any _).mono ?_
        rintro e w3 ⟨rfl, hb⟩
        have HB3 := hide (below_nextB HB2.out HB2.out.size hb)
        clear hb
        go_wp2_with fail
        go_ret
        exact ⟨rfl, HB3.out⟩

theorem wrap_small {x : Int} (h0 : 0 ≤ x) (h1 : x ≤ 100000) : wrap64 x = x ∧ IntKind.i64.wrap x = x := ⟨by unfold wrap64; omega, by rw [IntKind.wrap_i64]; omega⟩
theorem Sl.take {w : World} {K : Nat → Prop} {E : Option Addr} {r e m : Nat} {l : List Int} (h : Sl w K E r e (u8s l)) (hm : m ≤ r) : Sl w K E m e (u8s (l.take m)) := by
  refine ⟨fun e0 => ?_, Nat.le_trans hm h.le, fun j u hu => h.sees j u ?_⟩
  · obtain ⟨h1, h2⟩ := h.nn e0
    exact ⟨by omega, h2⟩
  · unfold u8s at hu ⊢
    rw [List.map_take, List.getElem?_take] at hu
    split at hu
    · exact hu
    · cases hu
theorem Sl.drop {w : World} {K : Nat → Prop} {E : Option Addr} {r e m : Nat} {l : List Int} (h : Sl w K E r e (u8s l)) (hl : l.length = r) (hm : m ≤ r) : Sl w K (if e = m then E else E.map (·.add m)) (r - m) (e - m) (u8s (l.drop m)) := by
  have hle := h.le
  refine ⟨fun e0 => ?_, by omega, fun j u hu => ?_⟩
  · split at e0
    · obtain ⟨h1, h2⟩ := h.nn e0
      omega
    · cases E with
      | none => obtain ⟨h1, h2⟩ := h.nn rfl; omega
      | some a => cases e0
  · have hj : j < r - m := by
      have h1 := (List.getElem?_eq_some_iff.1 hu).1
      rw [u8s_length, List.length_drop, hl] at h1
      exact h1
    unfold u8s at hu
    rw [List.map_drop, List.getElem?_drop] at hu
    obtain ⟨b, o, rfl, hk, hc⟩ := h.sees (m + j) u hu
    rw [if_neg (by omega)]
    refine ⟨b, o + m, by simp [Addr.add], hk, ?_⟩
    rw [Nat.add_assoc]
    exact hc

section
variable {w0 w wa w3 w4 w5 w' : World} {g v p : Nat} {x : FV} {fl1 : Int} {b : List Int} {E : Option Addr} {r e k : Nat} {gf : Fr} {Dg Sg : Option Addr} {dng dcg sng scg : Nat} {fs : List Fr} {F F' : List Nat}
/-- What the call of Add wants, once the frame's bytes are laid. -/
structure Ask (w0 w : World) (g v p : Nat) (x : FV) (fl1 : Int) (gf : Fr) (E : Option Addr) (m e : Nat) (Sg : Option Addr) (sng scg : Nat) (d : List Int) (fs : List Fr) (F : List Nat) : Prop where
  asm : AsmL w g 2000 fs F (fun b => b = p)
  lt : p < w.heap.size
  frm : FS w (fun b => b < w0.heap.size) { gf with data := d } E m e Sg sng scg
  box : Blk w p 30 #[.int .i64 gf.ty, .int .i64 gf.fl, .int .i64 gf.st, .int .i64 gf.pad, .slice E m e, .slice Sg sng scg, .int .i64 gf.wt, .int .i64 gf.par, .bool gf.alone, .int .i64 gf.prom, .int .i64 gf.last, .int .i64 gf.code, .int .i64 gf.step]
  fst : Blk w v 30 #[.int .i64 x.f.ty, .int .i64 fl1, .int .i64 x.f.st, .int .i64 x.f.pad, .slice x.D x.dn x.dc, .slice x.S x.sn x.sc, .int .i64 x.f.wt, .int .i64 x.f.par, .bool x.f.alone, .int .i64 x.f.prom, .int .i64 x.f.last, .int .i64 x.f.code, .int .i64 x.f.step]
  bel : Below w0.heap.size w0 w
theorem PI.ask {m : Nat} (h : PI w0 w g v p x fl1 b E r e k gf Dg Sg dng dcg sng scg fs F) (hl : b.length = k + r) (hm : m ≤ r) (hw : w.setCell ⟨p, 4, none⟩ (.slice E m e) = wa) : Ask w0 wa g v p x fl1 gf E m e Sg sng scg ((b.drop k).take m) fs F := by
  subst hw
  have ho : Only [p] w (w.setCell ⟨p, 4, none⟩ (.slice E m e)) := Only.store w (p := ⟨p, 4, none⟩) (List.mem_singleton.2 rfl) _
  have h0 := h.bel.size
  refine ⟨h.asm.only ho (fun b hb hm => h.pF (by rw [← List.mem_singleton.1 hm]; exact hb)) (fun b hb _ => .inr (List.mem_singleton.1 hb)), ?_, ⟨?_, h.sl, ?_, ?_⟩, h.box.store 4 _, h.fst.only ho (fun hm => h.pv (List.mem_singleton.1 hm).symm), h.bel.trans (ho.below h0 (fun b hb => by rw [List.mem_singleton.1 hb]; exact h.pg))⟩
  · have h1 := h.box.lt
    have h2 := ho.size
    omega
  · show ((b.drop k).take m).length = m
    rw [List.length_take, List.length_drop]
    omega
  · exact (h.left.take hm).only ho (fun b hb hm => by rw [List.mem_singleton.1 hm] at hb; have := h.pg; omega)
  · exact h.sets.only ho (fun b hb hm => by rw [List.mem_singleton.1 hm] at hb; have := h.pg; omega)
theorem PI.ask2 (h : PI w0 w g v p x fl1 b E r e k gf Dg Sg dng dcg sng scg fs F) (hl : b.length = k + r) (hw : w.setCell ⟨p, 4, none⟩ (.slice E r e) = wa) (hw2 : wa.setCell ⟨p, 1, none⟩ (.int .i64 (gf.fl + 4)) = w') : Ask w0 w' g v p x fl1 { gf with fl := gf.fl + 4 } E r e Sg sng scg (b.drop k) fs F := by
  have ha := h.ask hl (Nat.le_refl _) hw
  have h0 := ha.bel.size
  have hsz : Only [p] w wa := by rw [← hw]; exact Only.store w (p := ⟨p, 4, none⟩) (List.mem_singleton.2 rfl) _
  subst hw2
  have ho : Only [p] wa (wa.setCell ⟨p, 1, none⟩ (.int .i64 (gf.fl + 4))) := Only.store wa (p := ⟨p, 1, none⟩) (List.mem_singleton.2 rfl) _
  have ht : (b.drop k).take r = b.drop k := List.take_of_length_le (by rw [List.length_drop]; omega)
  have hf := ha.frm.only ho (fun b hb hm => by rw [List.mem_singleton.1 hm] at hb; have := h.pg; omega)
  rw [ht] at hf
  refine ⟨ha.asm.only ho (fun b hb hm => h.pF (by rw [← List.mem_singleton.1 hm]; exact hb)) (fun b hb _ => .inr (List.mem_singleton.1 hb)), Nat.lt_of_lt_of_le ha.lt ho.size, ⟨hf.dl, hf.sl, hf.d, hf.s⟩, ha.box.store 1 _, ha.fst.only ho (fun hm => h.pv (List.mem_singleton.1 hm).symm), ha.bel.trans (ho.below h0 (fun b hb => by rw [List.mem_singleton.1 hb]; exact h.pg))⟩
theorem PI.next {m : Nat} (h : PI w0 w g v p x fl1 b E r e k gf Dg Sg dng dcg sng scg fs F) (hl : b.length = k + r) (hm : m ≤ r) (hw : w.setCell ⟨p, 4, none⟩ (.slice E m e) = wa)
    (hA : AsmL w3 g 2000 (fs ++ [{ gf with data := (b.drop k).take m }]) F' (fun b => b = p)) (hO : Only F wa w3) (hF : ∀ b ∈ F', b ∈ F ∨ wa.heap.size ≤ b) (hb : Below w3.heap.size w3 w4) (hw5 : w4.setRow p #[.int .i64 9, .int .i64 0, .int .i64 x.f.st, .int .i64 0, .slice none 0 0, .slice none 0 0, .int .i64 0, .int .i64 0, .bool false, .int .i64 0, .int .i64 0, .int .i64 0, .int .i64 0] = w5) :
    PI w0 w5 g v p x fl1 b (if e = m then E else E.map (·.add m)) (r - m) (e - m) (k + m) (nextF x.f.st) none none 0 0 0 0 (fs ++ [{ gf with data := (b.drop k).take m }]) F' := by
  have ha := h.ask hl hm hw
  have hpa : Only [p] w wa := by rw [← hw]; exact Only.store w (p := ⟨p, 4, none⟩) (List.mem_singleton.2 rfl) _
  have hp5 : Only [p] w4 w5 := by rw [← hw5]; exact Only.setRow _ _ _ (List.mem_singleton.2 rfl)
  have h0 := ha.bel.size
  have hpF : p ∉ F' := fun hm => by
    rcases hF p hm with h1 | h1
    · exact h.pF h1
    · have := ha.lt; omega
  have hvF : v ∉ F' := fun hm => by
    rcases hF v hm with h1 | h1
    · exact h.vF h1
    · have := ha.fst.lt; omega
  have hb3 : Below w0.heap.size w0 w3 := ha.bel.trans (hO.below h0 h.ge)
  have hb4 : Below w0.heap.size w0 w4 := below_nextB hb3 hb3.size hb
  refine ⟨?_, ?_, ?_, ?_, Sl.nil _ _, rfl, Nat.zero_le _, ?_, hpF, hvF, h.pv, h.pg, ?_, ?_, ?_⟩
  · exact (hA.kept hb).only hp5 (fun b hb hm => hpF (by rw [← List.mem_singleton.1 hm]; exact hb)) (fun b hb _ => .inr (List.mem_singleton.1 hb))
  · rw [← hw5]
    exact ((ha.box.only hO h.pF).kept hb).setRow _
  · exact ((ha.fst.only hO h.vF).kept hb).only hp5 (fun hm => h.pv (List.mem_singleton.1 hm).symm)
  · have h1 := h.left.drop (by rw [List.length_drop]; omega) hm
    rw [List.drop_drop] at h1
    exact (((h1.only hpa (fun b hb hm => by rw [List.mem_singleton.1 hm] at hb; have := h.pg; omega)).only hO (fun b hb hm => by have := h.ge b hm; omega)).kept hb).only hp5 (fun b hb hm => by rw [List.mem_singleton.1 hm] at hb; have := h.pg; omega)
  · intro b hb
    rcases hF b hb with h1 | h1
    · exact h.ge b h1
    · omega
  · exact hb4.trans (hp5.below hb4.size (fun b hb => by rw [List.mem_singleton.1 hb]; exact h.pg))
  · rw [allD_snoc, h.all, List.take_add]
  · refine .inr ?_
    rcases h.st with ⟨rfl, rfl⟩ | ⟨a, t, rfl, h1, h2, h3, rfl⟩
    · exact ⟨_, [], rfl, rfl, rfl, rfl, rfl⟩
    · exact ⟨a, _, rfl, h1, h2, h3, rfl⟩
end
end Go.Proofs.Ytpjibdnoiioaoaa
