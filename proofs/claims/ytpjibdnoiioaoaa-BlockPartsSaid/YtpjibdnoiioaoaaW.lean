/- Add and the reference's Add, over lists of frames. -/
import Derived.Test.YtpjibdnoiioaoaaV
namespace Go.Proofs.Ytpjibdnoiioaoaa
open Go.RowKit
set_option linter.unusedSimpArgs false
set_option linter.unusedVariables false

/-- The whole block. -/
def whole (fs : List Fr) (f : Fr) : Fr := match fs with
  | [] => f
  | a :: _ => { a with data := allD fs ++ f.data }
/-- What Add says: the open frames then, the frame, whether a block has ended, the number of the error. -/
def stepL (M : Int) (fs : List Fr) (f : Fr) : List Fr × Fr × Bool × Int :=
  if takesB fs f = false then (fs, Fr.zero, false, 4)
  else if partB f.ty = false then (fs, Fr.zero, false, 0)
  else if M < ((allD fs ++ f.data).length : Nat) then (fs, Fr.zero, false, 9)
  else if hasB f.ty f.fl 4 = true then ([], whole fs f, true, 0)
  else (fs ++ [f], Fr.zero, false, 0)
/-- The assembly's memory for a list of open frames. -/
def NoG : Nat → Prop := fun _ => False
def AsmL (w : World) (g : Nat) (M : Int) (fs : List Fr) (F : List Nat) (G : Nat → Prop) : Prop :=
  (fs = [] ∧ AsmI w g M false Fr.zero none none 0 0 0 0 none 0 0 [] F G) ∨
  ∃ (a : Fr) (t : List Fr) (D0 S0 : Option Addr) (dn0 dc0 sn0 sc0 : Nat) (A : Option Addr) (n c : Nat), fs = a :: t ∧ AsmI w g M true a D0 S0 dn0 dc0 sn0 sc0 A n c (allD fs) F G
theorem asmI_zero {w : World} {g : Nat} {M : Int} {D0 S0 : Option Addr} {dn0 dc0 sn0 sc0 : Nat} {A : Option Addr} {n c : Nat} {F : List Nat} {G : Nat → Prop} (h : AsmI w g M false Fr.zero D0 S0 dn0 dc0 sn0 sc0 A n c [] F G) (e : (D0, S0, dn0, dc0, sn0, sc0, A, n, c) = (none, none, 0, 0, 0, 0, none, 0, 0)) : AsmI w g M false Fr.zero none none 0 0 0 0 none 0 0 [] F G := by
  cases e
  exact h
def onL (fs : List Fr) : Bool := !fs.isEmpty
def stL (fs : List Fr) : Int := match fs with
  | [] => 0
  | a :: _ => a.st
theorem takes_onL (fs : List Fr) (f : Fr) : takeV (onL fs) (stL fs) f.ty f.st = takesB fs f := by cases fs <;> rfl
section
variable {w w' : World} {g : Nat} {M : Int} {fs : List Fr} {F F1 : List Nat} {G : Nat → Prop}
theorem AsmL.only (h : AsmL w g M fs F G) (o : Only F1 w w') (hF : ∀ b ∈ F, b ∉ F1) (hF1 : ∀ b ∈ F1, b < w.heap.size → b ∈ F ∨ G b) : AsmL w' g M fs F G := by
  rcases h with ⟨e, h⟩ | ⟨a, t, D0, S0, dn0, dc0, sn0, sc0, A, n, c, e, h⟩
  · exact .inl ⟨e, h.only o hF hF1⟩
  · exact .inr ⟨a, t, D0, S0, dn0, dc0, sn0, sc0, A, n, c, e, h.only o hF hF1⟩
theorem AsmL.kept (h : AsmL w g M fs F G) (o : Below w.heap.size w w') : AsmL w' g M fs F G := h.only (F1 := []) (Only.of_below o) (fun _ _ => by simp) (fun _ hm => by simp at hm)
theorem AsmL.mem (h : AsmL w g M fs F G) : g ∈ F := by
  rcases h with ⟨_, h⟩ | ⟨a, t, D0, S0, dn0, dc0, sn0, sc0, A, n, c, _, h⟩ <;> exact h.mem
theorem AsmL.lt (h : AsmL w g M fs F G) : ∀ b ∈ F, b < w.heap.size := by
  rcases h with ⟨_, h⟩ | ⟨a, t, D0, S0, dn0, dc0, sn0, sc0, A, n, c, _, h⟩ <;> exact h.lt
theorem AsmL.fresh (h : AsmN w g M) : AsmL w g M [] [g] G := .inl ⟨rfl, AsmI.none h⟩
/-- The cells that Takes and Open read. -/
theorem asmL_heads (h : AsmL w g M fs F G) : w.cell? ⟨g, 1, none⟩ = some (.bool (onL fs)) ∧ w.cell? ⟨g, 4, none⟩ = some (.int .i64 (stL fs)) := by
  rcases h with ⟨rfl, h⟩ | ⟨a, t, D0, S0, dn0, dc0, sn0, sc0, A, n, c, rfl, h⟩
  · exact ⟨Blk.cell h.blk 1, Blk.cell h.blk 4⟩
  · exact ⟨Blk.cell h.blk 1, Blk.cell h.blk 4⟩
end
/-- What Add says. -/
def AOp (g : Nat) (M : Int) (F : List Nat) (G : Nat → Prop) (s : List Fr × Fr × Bool × Int) (w : World) (e : Ending) (w' : World) : Prop :=
  ∃ (F' : List Nat) (D S : Option Addr) (dn dc sn sc : Nat), e = .returned (.tuple #[.agg #[.int .i64 s.2.1.ty, .int .i64 s.2.1.fl, .int .i64 s.2.1.st, .int .i64 s.2.1.pad, .slice D dn dc, .slice S sn sc, .int .i64 s.2.1.wt, .int .i64 s.2.1.par, .bool s.2.1.alone, .int .i64 s.2.1.prom, .int .i64 s.2.1.last, .int .i64 s.2.1.code, .int .i64 s.2.1.step], .bool s.2.2.1, .int .i64 s.2.2.2]) ∧ AsmL w' g M s.1 F' G ∧ Only F w w' ∧ (∀ b ∈ F', b ∈ F ∨ w.heap.size ≤ b) ∧ FS w' (fun b => b ∉ F') s.2.1 D dn dc S sn sc
theorem add_op (g : Nat) (M : Int) (F : List Nat) (G : Nat → Prop) (fs : List Fr) (f : Fr) (D S : Option Addr) (dn dc sn sc : Nat) (w : World) (hG : ∀ b, G b → b < w.heap.size) (h : AsmL w g M fs F G) (hM : 0 ≤ M) (hM1 : M ≤ 9223372036854775807) (hn : (allD fs).length ≤ 1000000) (hdn : dn ≤ 1000000) (hsn : sn ≤ 1000) (hff : f.fl ≤ 9223372036854775807) (hfs : FS w (fun b => b ∉ F) f D dn dc S sn sc) :
    Calls Try.prog 11 #[.pointer (some ⟨g, 0, none⟩), .agg #[.int .i64 f.ty, .int .i64 f.fl, .int .i64 f.st, .int .i64 f.pad, .slice D dn dc, .slice S sn sc, .int .i64 f.wt, .int .i64 f.par, .bool f.alone, .int .i64 f.prom, .int .i64 f.last, .int .i64 f.code, .int .i64 f.step]] w (AOp g M F G (stepL M fs f) w) := by
  have hkeep : ∀ (er : Int) (e : Ending) (w' : World), e = .returned (.tuple #[.agg #[.int .i64 0, .int .i64 0, .int .i64 0, .int .i64 0, .slice none 0 0, .slice none 0 0, .int .i64 0, .int .i64 0, .bool false, .int .i64 0, .int .i64 0, .int .i64 0, .int .i64 0], .bool false, .int .i64 er]) ∧ Below w.heap.size w w' → AOp g M F G (fs, Fr.zero, false, er) w e w' := fun er e w' he =>
    ⟨F, none, none, 0, 0, 0, 0, he.1, h.kept he.2, Only.of_below he.2, fun b hb => .inl hb, FS.zero _ _⟩
  have hdl := hfs.dl
  rcases h with ⟨rfl, h⟩ | ⟨a, t, D0, S0, dn0, dc0, sn0, sc0, A, n, c, rfl, h⟩
  · have ht : takeV false 0 f.ty f.st = takesB [] f := rfl
    cases hq : takesB [] f with
    | false =>
      rw [hq] at ht
      rw [show stepL M [] f = ([], Fr.zero, false, 4) from by unfold stepL; rw [if_pos hq]]
      exact (add_no g M false Fr.zero none none 0 0 0 0 none 0 0 f D S dn dc sn sc w h.blk ht).mono fun e w' he => hkeep 4 e w' he
    | true =>
      rw [hq] at ht
      cases hp : partB f.ty with
      | false =>
        rw [show stepL M [] f = ([], Fr.zero, false, 0) from by unfold stepL; rw [if_neg (by rw [hq]; decide), if_pos hp]]
        exact (add_other g M false Fr.zero none none 0 0 0 0 none 0 0 f D S dn dc sn sc w h.blk ht hp).mono fun e w' he => hkeep 0 e w' he
      | true =>
        by_cases hl : M < ((allD [] ++ f.data).length : Nat)
        · rw [show stepL M [] f = ([], Fr.zero, false, 9) from by unfold stepL; rw [if_neg (by rw [hq]; decide), if_neg (by rw [hp]; decide), if_pos hl]]
          refine (add_long g M false Fr.zero none none 0 0 0 0 none 0 0 f D S dn dc sn sc w h.blk ht hp hM hM1 (by decide) hdn ?_).mono fun e w' he => hkeep 9 e w' he
          simp [allD] at hl
          omega
        · have hl2 : (0 : Int) + dn ≤ M := by simp [allD] at hl; omega
          have hmem := h.mem
          refine (add_first g M f D S dn dc sn sc w G hG h.blk ht hp hM1 (by decide) hdn hsn hl2 hff (hfs.mono (fun b _ hb hm => hb (by rw [List.mem_singleton.1 hm]; exact hmem)))).mono fun e w' he => ?_
          rcases he with ⟨hh, D1, S1, dn1, dc1, sn1, sc1, A1, n1, c1, F', D2, S2, dn2, dc2, sn2, sc2, rfl, hi, ho, hF, hf2, hzz⟩ | ⟨hh, D1, S1, dn1, dc1, sn1, sc1, A1, n1, c1, F', D2, S2, dn2, dc2, sn2, sc2, rfl, hi, ho, hF, hf2, hzz⟩
          · rw [show stepL M [] f = ([], f, true, 0) from by unfold stepL; rw [if_neg (by rw [hq]; decide), if_neg (by rw [hp]; decide), if_neg hl, if_pos hh]; rfl]
            refine ⟨F', D2, S2, dn2, dc2, sn2, sc2, rfl, ?_, ho.mono (fun b hb => by rw [List.mem_singleton.1 hb]; exact .inl hmem), fun b hb => (hF b hb).imp (fun h1 => by rw [List.mem_singleton.1 h1]; exact hmem) id, hf2⟩
            exact .inl ⟨rfl, asmI_zero hi (hzz rfl)⟩
          · rw [show stepL M [] f = ([f], Fr.zero, false, 0) from by unfold stepL; rw [if_neg (by rw [hq]; decide), if_neg (by rw [hp]; decide), if_neg hl, if_neg (by rw [hh]; decide)]; rfl]
            refine ⟨F', D2, S2, dn2, dc2, sn2, sc2, rfl, .inr ⟨f, [], D1, S1, dn1, dc1, sn1, sc1, A1, n1, c1, rfl, ?_⟩, ho.mono (fun b hb => by rw [List.mem_singleton.1 hb]; exact .inl hmem), fun b hb => (hF b hb).imp (fun h1 => by rw [List.mem_singleton.1 h1]; exact hmem) id, hf2⟩
            rw [show allD [f] = f.data from by simp [allD]]
            exact hi
  · have ht : takeV true a.st f.ty f.st = takesB (a :: t) f := rfl
    have hnl := h.len
    cases hq : takesB (a :: t) f with
    | false =>
      rw [hq] at ht
      rw [show stepL M (a :: t) f = (a :: t, Fr.zero, false, 4) from by unfold stepL; rw [if_pos hq]]
      exact (add_no g M true a D0 S0 dn0 dc0 sn0 sc0 A n c f D S dn dc sn sc w h.blk ht).mono fun e w' he => hkeep 4 e w' he
    | true =>
      rw [hq] at ht
      cases hp : partB f.ty with
      | false =>
        rw [show stepL M (a :: t) f = (a :: t, Fr.zero, false, 0) from by unfold stepL; rw [if_neg (by rw [hq]; decide), if_pos hp]]
        exact (add_other g M true a D0 S0 dn0 dc0 sn0 sc0 A n c f D S dn dc sn sc w h.blk ht hp).mono fun e w' he => hkeep 0 e w' he
      | true =>
        by_cases hl : M < ((allD (a :: t) ++ f.data).length : Nat)
        · rw [show stepL M (a :: t) f = (a :: t, Fr.zero, false, 9) from by unfold stepL; rw [if_neg (by rw [hq]; decide), if_neg (by rw [hp]; decide), if_pos hl]]
          refine (add_long g M true a D0 S0 dn0 dc0 sn0 sc0 A n c f D S dn dc sn sc w h.blk ht hp hM hM1 (by omega) hdn ?_).mono fun e w' he => hkeep 9 e w' he
          rw [List.length_append] at hl
          omega
        · have hl2 : (n : Int) + dn ≤ M := by rw [List.length_append] at hl; omega
          refine (add_more g M F a D0 S0 dn0 dc0 sn0 sc0 A n c (allD (a :: t)) f D S dn dc sn sc w G hG h ht hp hM1 (by omega) hdn hsn hl2 hff hfs).mono fun e w' he => ?_
          rcases he with ⟨hh, D1, S1, dn1, dc1, sn1, sc1, A1, n1, c1, F', D2, S2, dn2, dc2, sn2, sc2, rfl, hi, ho, hF, hf2, hzz⟩ | ⟨hh, D1, S1, dn1, dc1, sn1, sc1, A1, n1, c1, F', D2, S2, dn2, dc2, sn2, sc2, rfl, hi, ho, hF, hf2, hzz⟩
          · rw [show stepL M (a :: t) f = ([], { a with data := allD (a :: t) ++ f.data }, true, 0) from by unfold stepL; rw [if_neg (by rw [hq]; decide), if_neg (by rw [hp]; decide), if_neg hl, if_pos hh]; rfl]
            refine ⟨F', D2, S2, dn2, dc2, sn2, sc2, rfl, ?_, ho, hF, hf2⟩
            exact .inl ⟨rfl, asmI_zero hi (hzz rfl)⟩
          · rw [show stepL M (a :: t) f = (a :: t ++ [f], Fr.zero, false, 0) from by unfold stepL; rw [if_neg (by rw [hq]; decide), if_neg (by rw [hp]; decide), if_neg hl, if_neg (by rw [hh]; decide)]]
            refine ⟨F', D2, S2, dn2, dc2, sn2, sc2, rfl, .inr ⟨a, t ++ [f], D1, S1, dn1, dc1, sn1, sc1, A1, n1, c1, rfl, ?_⟩, ho, hF, hf2⟩
            dsimp only
            rw [allD_snoc]
            exact hi
/-- What the reference's Add says. -/
def ROp (K : Nat → Prop) (s : List Fr × Fr × Bool × Int) (w : World) (e : Ending) (w' : World) : Prop :=
  ∃ (A : Option Addr) (n c : Nat) (l : List FV) (D S : Option Addr) (dn dc sn sc : Nat), e = .returned (.tuple #[.slice A n c, .agg #[.int .i64 s.2.1.ty, .int .i64 s.2.1.fl, .int .i64 s.2.1.st, .int .i64 s.2.1.pad, .slice D dn dc, .slice S sn sc, .int .i64 s.2.1.wt, .int .i64 s.2.1.par, .bool s.2.1.alone, .int .i64 s.2.1.prom, .int .i64 s.2.1.last, .int .i64 s.2.1.code, .int .i64 s.2.1.step], .bool s.2.2.1, .int .i64 s.2.2.2]) ∧ RowF w' (fun b => K b ∨ w.heap.size ≤ b) A n c l ∧ l.map (·.f) = s.1 ∧ FS w' (fun b => K b ∨ w.heap.size ≤ b) s.2.1 D dn dc S sn sc ∧ Below w.heap.size w w'
theorem radd_op (K : Nat → Prop) (A : Option Addr) (n c : Nat) (l : List FV) (most M : Int) (f : Fr) (D S : Option Addr) (dn dc sn sc : Nat) (w : World) (hM : M = if most < 0 then 0 else most) (hl : RowF w K A n c l) (hn : n ≤ 100) (hz : (allD (l.map (·.f))).length + dn ≤ 1000000) (hff : f.fl ≤ 9223372036854775807) (hfs : FS w K f D dn dc S sn sc) :
    Calls Try.prog 12 #[.slice A n c, .agg #[.int .i64 f.ty, .int .i64 f.fl, .int .i64 f.st, .int .i64 f.pad, .slice D dn dc, .slice S sn sc, .int .i64 f.wt, .int .i64 f.par, .bool f.alone, .int .i64 f.prom, .int .i64 f.last, .int .i64 f.code, .int .i64 f.step], .int .i64 most] w (ROp K (stepL M (l.map (·.f)) f) w) := by
  have hkeep : ∀ (er : Int) (e : Ending) (w' : World), e = .returned (.tuple #[.slice A n c, .agg #[.int .i64 0, .int .i64 0, .int .i64 0, .int .i64 0, .slice none 0 0, .slice none 0 0, .int .i64 0, .int .i64 0, .bool false, .int .i64 0, .int .i64 0, .int .i64 0, .int .i64 0], .bool false, .int .i64 er]) ∧ Below w.heap.size w w' → ROp K (l.map (·.f), Fr.zero, false, er) w e w' := fun er e w' he =>
    ⟨A, n, c, l, none, none, 0, 0, 0, 0, he.1, (hl.kept he.2).mono (fun b _ hb => .inl hb), rfl, FS.zero _ _, he.2⟩
  have hdl := hfs.dl
  have hnum := hl.num
  have hhead : 0 < n → ∃ g o, A = some ⟨g, o, none⟩ ∧ w.cell? ⟨g, o + 2, none⟩ = some (.int .i64 (stL (l.map (·.f)))) := fun h0 => by
    obtain ⟨y, hy⟩ : ∃ y, l[0]? = some y := ⟨_, List.getElem?_eq_getElem (by omega)⟩
    obtain ⟨g, o, e, _, hc⟩ := hl.at hy
    refine ⟨g, o, e, ?_⟩
    have := hc 2 _ rfl
    rw [Nat.zero_mul, Nat.zero_add] at this
    rw [this]
    cases l with
    | nil => simp at hy
    | cons z t => simp at hy; subst hy; rfl
  have hon : decide (0 < n) = onL (l.map (·.f)) := by
    cases l with
    | nil => simp at hnum; subst hnum; rfl
    | cons z t => simp at hnum; subst hnum; simp [onL]
  have ht : takeV (decide (0 < n)) (stL (l.map (·.f))) f.ty f.st = takesB (l.map (·.f)) f := by rw [hon]; exact takes_onL _ _
  have hlen : (allD (l.map (·.f)) ++ f.data).length = (allD (l.map (·.f))).length + dn := by rw [List.length_append, hdl]
  cases hq : takesB (l.map (·.f)) f with
  | false =>
    rw [hq] at ht
    rw [show stepL M (l.map (·.f)) f = (l.map (·.f), Fr.zero, false, 4) from by unfold stepL; rw [if_pos hq]]
    exact (radd_no A n c _ most f D S dn dc sn sc w hn hhead ht).mono fun e w' he => hkeep 4 e w' he
  | true =>
    rw [hq] at ht
    cases hp : partB f.ty with
    | false =>
      rw [show stepL M (l.map (·.f)) f = (l.map (·.f), Fr.zero, false, 0) from by unfold stepL; rw [if_neg (by rw [hq]; decide), if_pos hp]]
      exact (radd_other A n c _ most f D S dn dc sn sc w hn hhead ht hp).mono fun e w' he => hkeep 0 e w' he
    | true =>
      refine (radd_part K A n c l _ most f D S dn dc sn sc w hn hl hhead hfs ht hp hff hz).mono fun e w' he => ?_
      obtain ⟨hb, he⟩ := he
      dsimp only at he
      have hlg : (most < ((allD (l.map (·.f)) ++ f.data).length : Nat) ∧ 0 < (allD (l.map (·.f)) ++ f.data).length) ↔ M < ((allD (l.map (·.f)) ++ f.data).length : Nat) := by rw [hM]; split <;> omega
      rcases he with ⟨h1, rfl⟩ | ⟨h1, h2, B, c', rfl, hr⟩ | ⟨h1, h2, y, B, m, cB, hy, rfl, hs, hm⟩
      · rw [show stepL M (l.map (·.f)) f = (l.map (·.f), Fr.zero, false, 9) from by unfold stepL; rw [if_neg (by rw [hq]; decide), if_neg (by rw [hp]; decide), if_pos (hlg.1 h1)]]
        exact hkeep 9 _ w' ⟨rfl, hb⟩
      · rw [show stepL M (l.map (·.f)) f = (l.map (·.f) ++ [f], Fr.zero, false, 0) from by unfold stepL; rw [if_neg (by rw [hq]; decide), if_neg (by rw [hp]; decide), if_neg (fun h => h1 (hlg.2 h)), if_neg (by rw [h2]; decide)]]
        exact ⟨B, n + 1, c', l ++ [⟨f, D, dn, dc, S, sn, sc⟩], none, none, 0, 0, 0, 0, rfl, hr, by simp, FS.zero _ _, hb⟩
      · have hwh : whole (l.map (·.f)) f = { y.f with data := allD (l.map (·.f)) ++ f.data } := by
          cases l with
          | nil => simp at hy; subst hy; simp [whole, allD]
          | cons z t => simp at hy; subst hy; rfl
        have hyok : FS w K y.f y.D y.dn y.dc y.S y.sn y.sc := by
          have hmem := List.mem_of_getElem? hy
          rw [List.mem_append, List.mem_singleton] at hmem
          rcases hmem with hmem | rfl
          · exact hl.ok y hmem
          · exact hfs
        rw [show stepL M (l.map (·.f)) f = ([], whole (l.map (·.f)) f, true, 0) from by unfold stepL; rw [if_neg (by rw [hq]; decide), if_neg (by rw [hp]; decide), if_neg (fun h => h1 (hlg.2 h)), if_pos h2], hwh]
        exact ⟨none, 0, 0, [], B, y.S, m, cB, y.sn, y.sc, rfl, RowF.nil _ _, rfl, ⟨hm.symm, hyok.sl, hs.mono (fun b _ hb => .inr hb), (hyok.s.kept hb).mono (fun b _ hb => .inl hb)⟩, hb⟩
end Go.Proofs.Ytpjibdnoiioaoaa
