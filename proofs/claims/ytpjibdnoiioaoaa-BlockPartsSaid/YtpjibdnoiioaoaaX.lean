/- Parameters that are frames, or lists of frames, opened. -/
import Derived.Test.YtpjibdnoiioaoaaW
import Derived.Deep.Slices
import Derived.Deep.Fields
import Derived.ChangeSame
import Derived.ProofKit
import Derived.OpenShut
namespace Go.Proofs.Ytpjibdnoiioaoaa
open Go.ChangeShapes Go.WideShapes Go.ChangeAt Go.RowKit Go.Deep
set_option linter.unusedSimpArgs false
set_option linter.unusedVariables false

theorem cells30 : Try.prog.cellsOf 30 = 13 := by kernel_rfl
theorem cells48 : Try.prog.cellsOf 48 = 2 := by kernel_rfl
theorem cells3 : Try.prog.cellsOf 3 = 1 := by kernel_rfl
theorem cells4 : Try.prog.cellsOf 4 = 1 := by kernel_rfl
theorem cells5 : Try.prog.cellsOf 5 = 1 := by kernel_rfl
theorem cells27 : Try.prog.cellsOf 27 = 1 := by kernel_rfl
theorem cells28 : Try.prog.cellsOf 28 = 1 := by kernel_rfl

theorem Sees.toK {w : World} {A : Option Addr} {xs : List Value} (h : Sees w A xs) : SeesK w (fun b => b < w.heap.size) A xs := fun j u hu => by
  obtain ⟨b, o, e, hc⟩ := h j u hu
  exact ⟨b, o, e, World.block_lt_of_cell? w _ hc, hc⟩
theorem sees_pairs {w : World} {A : Option Addr} {l : List (Int × Int)} (h : ∀ i p, l[i]? = some p → ∃ g o, A = some ⟨g, o, none⟩ ∧ w.cell? ⟨g, o + i * 2, none⟩ = some (.int .i64 p.1) ∧ w.cell? ⟨g, o + i * 2 + 1, none⟩ = some (.int .i64 p.2)) : Sees w A (cellsS l) := fun j u hu => by
  have hj := (List.getElem?_eq_some_iff.1 hu).1
  rw [cellsS_length] at hj
  obtain ⟨p, hp⟩ : ∃ p, l[j / 2]? = some p := ⟨_, List.getElem?_eq_getElem (by omega)⟩
  obtain ⟨g, o, e, c0, c1⟩ := h _ _ hp
  obtain ⟨e0, e1⟩ := cellsS_get hp
  refine ⟨g, o, e, ?_⟩
  rcases Nat.mod_two_eq_zero_or_one j with hm | hm
  · have e2 : j / 2 * 2 = j := by omega
    rw [e2] at e0 c0
    rw [hu] at e0
    rw [c0, e0]
  · have e2 : j / 2 * 2 + 1 = j := by omega
    rw [e2] at e1
    rw [hu] at e1
    rw [show o + j = o + j / 2 * 2 + 1 by omega, c1, e1]
theorem row_at {H : Type} {enc : TypeId × Value → H} {w : World} {base : Nat} {spare : Nat → Bool} {held : Bool} {t e : TypeId} {k : IntKind} {fuel : Nat} {v : Value} {x : DataW H × List MemPlace}
    (ht : Try.prog.underlying t = some (.slice e)) (he : Try.prog.underlying e = some (.int k)) (hc : Try.prog.cellsOf e = 1) (h : DataW.trod enc Try.prog w base spare held fuel t [v] = some x) :
    ∃ (B : Option Addr) (n c : Nat) (b : List Int), v = .slice B n c ∧ b.length = n ∧ n ≤ maxLen ∧ (B = none → n = 0 ∧ c = 0) ∧ n ≤ c ∧ Sees w B (b.map (Value.int k)) ∧ ∀ z ∈ b, (Lit.int k z).wf = true := by
  rcases open_ints ht he hc h with ⟨hcs, _⟩ | ⟨x, l, c, zs, hcs, _, hl, hm, hz, _, hcell, hwz⟩
  · simp at hcs
    subst hcs
    exact ⟨none, 0, 0, [], rfl, rfl, Nat.zero_le _, fun _ => ⟨rfl, rfl⟩, Nat.le_refl _, Sees.nil _ _, fun z hz => by cases hz⟩
  · simp at hcs
    subst hcs
    have hzl : l ≤ zs.length := by rw [hz]; split <;> omega
    refine ⟨some x, l, c, zs.take l, rfl, by simp; omega, by omega, (fun h => by cases h), hl, ?_, fun n hn => hwz n (List.mem_of_mem_take hn)⟩
    intro j u hu
    have hj : j < l ∧ j < zs.length := by
      have := (List.getElem?_eq_some_iff.1 hu).1
      simp at this; omega
    obtain ⟨b, o, spot⟩ := x
    have hc2 := hcell j hj.2
    have hspot : spot = none := by
      have := hcell 0 (by omega)
      simpa [Addr.add] using World.cell?_spot this
    subst hspot
    refine ⟨b, o, rfl, ?_⟩
    rw [Addr.add_lit] at hc2
    rw [hc2]
    simp [List.getElem?_take, hj.1, hj.2] at hu
    simp [← hu, hj.2]
theorem open_sets {H : Type} {enc : TypeId × Value → H} {w : World} {base : Nat} {spare : Nat → Bool} {held : Bool} {fuel : Nat} {v : Value} {x : DataW H × List MemPlace}
    (hf : DataW.trod enc Try.prog w base spare held fuel 28 [v] = some x) : ∃ (B : Option Addr) (n c : Nat) (l : List (Int × Int)), v = .slice B n c ∧ l.length = n ∧ n ≤ maxLen ∧ (B = none → n = 0 ∧ c = 0) ∧ n ≤ c ∧ Sees w B (cellsS l) := by
  rcases open_slice Try.underlying28 hf with h0 | ⟨a, len, cap, m, n, D, Pl, hcs, hb, hl, hm, hmm, hx, hi⟩
  · simp at h0
    obtain ⟨rfl, _⟩ := h0
    exact ⟨none, 0, 0, [], rfl, rfl, Nat.zero_le _, fun _ => ⟨rfl, rfl⟩, Nat.le_refl _, Sees.nil _ _⟩
  · simp at hcs
    subst hcs
    have hlm : len ≤ m := by rw [hmm]; split <;> omega
    have hex : ∀ i, ∃ q : Int × Int, i < len → ∃ b o, some a = some (⟨b, o, none⟩ : Addr) ∧ w.cell? ⟨b, o + i * 2, none⟩ = some (.int .i64 q.1) ∧ w.cell? ⟨b, o + i * 2 + 1, none⟩ = some (.int .i64 q.2) := by
      intro i
      by_cases hil : i < len
      · obtain ⟨cs', hc, ht'⟩ := hi i (by omega)
        rw [cells48] at hc
        obtain ⟨ys, n', hn', hy, hlen, hyl, hg⟩ := DataW.trod_struct Try.underlying48 ht'
        obtain ⟨_, hcl, hat⟩ := World.cells?_some hc
        obtain ⟨q0, q1, rfl⟩ : ∃ q0 q1, cs' = [q0, q1] := by
          match cs', hcl with
          | [q0, q1], _ => exact ⟨q0, q1, rfl⟩
        have g0 := hg 0 _ rfl
        have g1 := hg 1 _ rfl
        simp [cells3] at g0 g1
        have hyl3 : ys.length = 2 := hyl
        rw [List.getElem?_eq_getElem (by omega)] at g0 g1
        obtain ⟨t, e0, _⟩ := DataW.trod_int Try.underlying3 g0
        obtain ⟨x, e1, _, hwf⟩ := DataW.trod_int Try.underlying3 g1
        simp at e0 e1
        subst e0 e1
        have t0 := hat 0 (by decide)
        have t1 := hat 1 (by decide)
        obtain ⟨b, o, spot⟩ := a
        have hspot : spot = none := by
          obtain ⟨cs0, hc0, _⟩ := hi 0 (by omega)
          rw [cells48] at hc0
          obtain ⟨_, hcl0, hat0⟩ := World.cells?_some hc0
          have z := hat0 0 (by decide)
          rw [List.getElem?_eq_getElem (by omega)] at z
          simpa [Addr.add] using World.cell?_spot z
        subst hspot
        simp only [Addr.add_lit, Nat.add_zero, List.getElem?_cons_zero, List.getElem?_cons_succ] at t0 t1
        exact ⟨(t, x), fun _ => ⟨b, o, rfl, t0, t1⟩⟩
      · exact ⟨(0, 0), fun h => absurd h hil⟩
    obtain ⟨f, hf2⟩ := Classical.axiomOfChoice hex
    refine ⟨some a, len, cap, (List.range len).map f, rfl, by simp, by omega, (fun h => by cases h), hl, sees_pairs fun i p h => ?_⟩
    have hil : i < len := by
      have := (List.getElem?_eq_some_iff.1 h).1
      simpa using this
    simp [hil] at h
    have := hf2 i hil
    rw [h] at this
    exact this
/-- What is known of a frame that came in. -/
structure FIn (w : World) (x : FV) : Prop where
  ok : x.ok w (fun b => b < w.heap.size)
  dm : x.dn ≤ maxLen
  sm : x.sn ≤ maxLen
  flo : -9223372036854775808 ≤ x.f.fl
  fhi : x.f.fl ≤ 9223372036854775807
theorem list13 {l : List Value} (h : l.length = 13) : ∃ c0 c1 c2 c3 c4 c5 c6 c7 c8 c9 c10 c11 c12, l = [c0, c1, c2, c3, c4, c5, c6, c7, c8, c9, c10, c11, c12] := by
  match l, h with
  | [c0, c1, c2, c3, c4, c5, c6, c7, c8, c9, c10, c11, c12], _ => exact ⟨c0, c1, c2, c3, c4, c5, c6, c7, c8, c9, c10, c11, c12, rfl⟩
theorem frame_at {H : Type} {enc : TypeId × Value → H} {w : World} {base : Nat} {spare : Nat → Bool} {held : Bool} {fuel : Nat} {cs : List Value} {x : DataW H × List MemPlace}
    (hcl : cs.length = 13) (hf : DataW.trod enc Try.prog w base spare held fuel 30 cs = some x) : ∃ y : FV, cs = y.cells ∧ FIn w y := by
  obtain ⟨ys, n', hn', hy, hlen, hyl, hg⟩ := DataW.trod_struct Try.underlying30 hf
  obtain ⟨c0, c1, c2, c3, c4, c5, c6, c7, c8, c9, c10, c11, c12, rfl⟩ := list13 hcl
  have g0 := hg 0 _ rfl
  have g1 := hg 1 _ rfl
  have g2 := hg 2 _ rfl
  have g3 := hg 3 _ rfl
  have g4 := hg 4 _ rfl
  have g5 := hg 5 _ rfl
  have g6 := hg 6 _ rfl
  have g7 := hg 7 _ rfl
  have g8 := hg 8 _ rfl
  have g9 := hg 9 _ rfl
  have g10 := hg 10 _ rfl
  have g11 := hg 11 _ rfl
  have g12 := hg 12 _ rfl
  simp [cells3, cells4, cells27, cells28] at g0 g1 g2 g3 g4 g5 g6 g7 g8 g9 g10 g11 g12
  have hyl3 : ys.length = 13 := hyl
  rw [List.getElem?_eq_getElem (by omega)] at g0 g1 g2 g3 g4 g5 g6 g7 g8 g9 g10 g11 g12
  obtain ⟨ty, e0, _, hw0⟩ := DataW.trod_int Try.underlying3 g0
  obtain ⟨fl, e1, _, hw1⟩ := DataW.trod_int Try.underlying3 g1
  obtain ⟨st, e2, _, hw2⟩ := DataW.trod_int Try.underlying3 g2
  obtain ⟨pad, e3, _, hw3⟩ := DataW.trod_int Try.underlying3 g3
  obtain ⟨D, dn, dc, data, e4, hdl, hdm, hdnn, hdle, hds, _⟩ := row_at Try.underlying27 Try.underlying5 cells5 g4
  obtain ⟨S, sn, sc, sets, e5, hsl, hsm, hsnn, hsle, hss⟩ := open_sets g5
  obtain ⟨wt, e6, _, hw6⟩ := DataW.trod_int Try.underlying3 g6
  obtain ⟨par, e7, _, hw7⟩ := DataW.trod_int Try.underlying3 g7
  obtain ⟨alone, e8, _⟩ := DataW.trod_bool Try.underlying4 g8
  obtain ⟨prom, e9, _, hw9⟩ := DataW.trod_int Try.underlying3 g9
  obtain ⟨last, e10, _, hw10⟩ := DataW.trod_int Try.underlying3 g10
  obtain ⟨code, e11, _, hw11⟩ := DataW.trod_int Try.underlying3 g11
  obtain ⟨step, e12, _, hw12⟩ := DataW.trod_int Try.underlying3 g12
  simp at e0 e1 e2 e3 e6 e7 e8 e9 e10 e11 e12
  subst e0 e1 e2 e3 e4 e5 e6 e7 e8 e9 e10 e11 e12
  obtain ⟨f1, f2⟩ := wf_i64 hw1
  exact ⟨⟨⟨ty, fl, st, pad, data, sets, wt, par, alone, prom, last, code, step⟩, D, dn, dc, S, sn, sc⟩, rfl, ⟨hdl, hsl, ⟨hdnn, hdle, hds.toK⟩, ⟨hsnn, hsle, hss.toK⟩⟩, hdm, hsm, f1, f2⟩
theorem open_frame {H : Type} {enc : TypeId × Value → H} {w : World} {r : Reach} {b0 base : Nat} {spare : Nat → Bool} {held : Bool} {v : Value} {x : DataW H} {p : List MemPlace}
    (hv : Value.okWide Try.prog w r b0 30 v) (h : DataW.Trod enc Try.prog w base spare held 30 v x p) : ∃ y : FV, v = .agg #[.int .i64 y.f.ty, .int .i64 y.f.fl, .int .i64 y.f.st, .int .i64 y.f.pad, .slice y.D y.dn y.dc, .slice y.S y.sn y.sc, .int .i64 y.f.wt, .int .i64 y.f.par, .bool y.f.alone, .int .i64 y.f.prom, .int .i64 y.f.last, .int .i64 y.f.code, .int .i64 y.f.step] ∧ FIn w y := by
  obtain ⟨cs, rfl, hsz⟩ := okWide_struct Try.underlying30 hv
  obtain ⟨l⟩ := cs
  obtain ⟨fuel, hf⟩ := h
  obtain ⟨y, hy, hin⟩ := frame_at (hsz.trans cells30) (by simpa [Value.cells] using hf)
  subst hy
  exact ⟨y, rfl, hin⟩
theorem sees_frames {w : World} {A : Option Addr} {l : List FV} (h : ∀ i x, l[i]? = some x → ∃ g o, A = some ⟨g, o, none⟩ ∧ ∀ j v, x.cells[j]? = some v → w.cell? ⟨g, o + i * 13 + j, none⟩ = some v) : Sees w A (cellsF l) := fun j u hu => by
  have hj := (List.getElem?_eq_some_iff.1 hu).1
  rw [cellsF_length] at hj
  obtain ⟨x, hx⟩ : ∃ x, l[j / 13]? = some x := ⟨_, List.getElem?_eq_getElem (by omega)⟩
  obtain ⟨g, o, e, hc⟩ := h _ _ hx
  refine ⟨g, o, e, ?_⟩
  have e1 := cellsF_get hx (j % 13) (by omega)
  rw [show j / 13 * 13 + j % 13 = j by omega, hu] at e1
  have := hc (j % 13) u e1.symm
  rwa [show o + j / 13 * 13 + j % 13 = o + j by omega] at this
theorem open_frames {H : Type} {enc : TypeId × Value → H} {w : World} {base : Nat} {spare : Nat → Bool} {held : Bool} {A : Option Addr} {len cap : Nat} {d : DataW H} {p : List MemPlace}
    (h : DataW.Trod enc Try.prog w base spare held 22 (.slice A len cap) d p) : ∃ l : List FV, len ≤ maxLen ∧ RowF w (fun b => b < w.heap.size) A len cap l ∧ ∀ x ∈ l, FIn w x := by
  obtain ⟨fuel, hf⟩ := h
  rcases open_slice Try.underlying22 hf with h0 | ⟨a, len', cap', m, n, D, Pl, hcs, hb, hl, hm, hmm, hx, hi⟩
  · simp [Value.cells] at h0
    obtain ⟨⟨rfl, rfl, rfl⟩, _⟩ := h0
    exact ⟨[], Nat.zero_le _, RowF.nil _ _, fun x hx => by cases hx⟩
  · simp [Value.cells] at hcs
    obtain ⟨rfl, rfl, rfl⟩ := hcs
    have hlm : len ≤ m := by rw [hmm]; split <;> omega
    have hex : ∀ i, ∃ q : FV, i < len → FIn w q ∧ ∃ b o, some a = some (⟨b, o, none⟩ : Addr) ∧ ∀ j v, q.cells[j]? = some v → w.cell? ⟨b, o + i * 13 + j, none⟩ = some v := by
      intro i
      by_cases hil : i < len
      · obtain ⟨cs', hc, ht'⟩ := hi i (by omega)
        rw [cells30] at hc
        obtain ⟨_, hcl, hat⟩ := World.cells?_some hc
        obtain ⟨y, rfl, hin⟩ := frame_at hcl ht'
        obtain ⟨b, o, spot⟩ := a
        have hspot : spot = none := by
          obtain ⟨cs0, hc0, _⟩ := hi 0 (by omega)
          rw [cells30] at hc0
          obtain ⟨_, hcl0, hat0⟩ := World.cells?_some hc0
          have z := hat0 0 (by decide)
          rw [List.getElem?_eq_getElem (by omega)] at z
          simpa [Addr.add] using World.cell?_spot z
        subst hspot
        refine ⟨y, fun _ => ⟨hin, b, o, rfl, fun j v hv => ?_⟩⟩
        have hj : j < 13 := (List.getElem?_eq_some_iff.1 hv).1
        have t0 := hat j hj
        rw [hv] at t0
        simpa only [Addr.add_lit] using t0
      · exact ⟨⟨Fr.zero, none, 0, 0, none, 0, 0⟩, fun h => absurd h hil⟩
    obtain ⟨f, hf2⟩ := Classical.axiomOfChoice hex
    have hat : ∀ i x, ((List.range len).map f)[i]? = some x → FIn w x ∧ ∃ g o, some a = some (⟨g, o, none⟩ : Addr) ∧ ∀ j v, x.cells[j]? = some v → w.cell? ⟨g, o + i * 13 + j, none⟩ = some v := fun i x h => by
      have hil : i < len := by
        have := (List.getElem?_eq_some_iff.1 h).1
        simpa using this
      simp [hil] at h
      have := hf2 i hil
      rw [h] at this
      exact this
    have hin : ∀ x ∈ (List.range len).map f, FIn w x := fun x hx => by
      obtain ⟨i, hi⟩ := List.getElem?_of_mem hx
      exact (hat i x hi).1
    exact ⟨(List.range len).map f, by omega, ⟨by simp, (fun h => by cases h), (sees_frames fun i x h => (hat i x h).2).toK, fun x hx => (hin x hx).ok⟩, hin⟩
end Go.Proofs.Ytpjibdnoiioaoaa
