/- Lists of frames, as they lie. -/
import Derived.Test.YtpjibdnoiioaoaaT
namespace Go.Proofs.Ytpjibdnoiioaoaa
open Go.RowKit
set_option linter.unusedSimpArgs false
set_option linter.unusedVariables false

/-- A frame with its slices. -/
structure FV where
  f : Fr
  D : Option Addr
  dn : Nat
  dc : Nat
  S : Option Addr
  sn : Nat
  sc : Nat
def FV.cells (x : FV) : List Value := [.int .i64 x.f.ty, .int .i64 x.f.fl, .int .i64 x.f.st, .int .i64 x.f.pad, .slice x.D x.dn x.dc, .slice x.S x.sn x.sc, .int .i64 x.f.wt, .int .i64 x.f.par, .bool x.f.alone, .int .i64 x.f.prom, .int .i64 x.f.last, .int .i64 x.f.code, .int .i64 x.f.step]
def FV.ok (w : World) (K : Nat → Prop) (x : FV) : Prop := FS w K x.f x.D x.dn x.dc x.S x.sn x.sc
def cellsF (l : List FV) : List Value := l.flatMap FV.cells
theorem cellsF_snoc (l : List FV) (x : FV) : cellsF (l ++ [x]) = cellsF l ++ x.cells := by unfold cellsF; simp
theorem cells_len (x : FV) : x.cells.length = 13 := rfl
theorem cellsF_length (l : List FV) : (cellsF l).length = l.length * 13 := by
  induction l with
  | nil => rfl
  | cons p t ih =>
    unfold cellsF at ih ⊢
    rw [List.flatMap_cons, List.length_append, ih, List.length_cons]
    have := cells_len p
    omega
theorem cellsF_cons (q : FV) (t : List FV) : cellsF (q :: t) = q.cells ++ cellsF t := rfl
theorem cellsF_get {l : List FV} {i : Nat} {x : FV} (h : l[i]? = some x) (j : Nat) (hj : j < 13) : (cellsF l)[i * 13 + j]? = x.cells[j]? := by
  induction l generalizing i with
  | nil => simp at h
  | cons q t ih =>
    rw [cellsF_cons]
    cases i with
    | zero =>
      rw [List.getElem?_cons_zero] at h
      injection h with h
      rw [Nat.zero_mul, Nat.zero_add, List.getElem?_append_left (by rw [cells_len]; exact hj), h]
    | succ i =>
      rw [List.getElem?_cons_succ] at h
      rw [List.getElem?_append_right (by rw [cells_len]; omega), cells_len, ← ih h]
      congr 1
      omega
theorem oneF {l : List FV} : ∀ u ∈ cellsF l, u.oneCell' = true := by
  intro u hu
  unfold cellsF at hu
  obtain ⟨x, _, h⟩ := List.mem_flatMap.1 hu
  simp [FV.cells] at h
  rcases h with rfl | rfl | rfl | rfl | rfl | rfl | rfl | rfl | rfl | rfl | rfl | rfl | rfl <;> rfl
/-- A list of frames, as it lies. -/
structure RowF (w : World) (K : Nat → Prop) (A : Option Addr) (n c : Nat) (l : List FV) : Prop where
  num : l.length = n
  nn : A = none → n = 0 ∧ c = 0
  sees : SeesK w K A (cellsF l)
  ok : ∀ x ∈ l, x.ok w K
section
variable {w w' : World} {K K' : Nat → Prop} {A : Option Addr} {n c : Nat} {l : List FV}
theorem FV.ok_kept {x : FV} (h : x.ok w K) (hb : Below w.heap.size w w') : x.ok w' K := FS.kept h hb
theorem RowF.kept (h : RowF w K A n c l) (hb : Below w.heap.size w w') : RowF w' K A n c l := ⟨h.num, h.nn, h.sees.blocks fun g hg _ => hb.block g hg, fun x hx => (h.ok x hx).kept hb⟩
theorem RowF.mono (h : RowF w K A n c l) (hk : ∀ g, g < w.heap.size → K g → K' g) : RowF w K' A n c l := ⟨h.num, h.nn, h.sees.mono hk, fun x hx => (h.ok x hx).mono hk⟩
theorem RowF.only {F : List Nat} (h : RowF w K A n c l) (o : Only F w w') (hF : ∀ g, K g → g ∉ F) : RowF w' K A n c l := ⟨h.num, h.nn, h.sees.blocks fun g hg hk => o.block g hg (hF g hk), fun x hx => (h.ok x hx).only o hF⟩
theorem RowF.nil (w : World) (K : Nat → Prop) : RowF w K none 0 0 [] := ⟨rfl, fun _ => ⟨rfl, rfl⟩, fun j u h => by simp [cellsF] at h, fun x hx => by cases hx⟩
/-- What stands in the row at i. -/
theorem RowF.at (h : RowF w K A n c l) {i : Nat} {x : FV} (hi : l[i]? = some x) : ∃ g o, A = some ⟨g, o, none⟩ ∧ K g ∧ ∀ j v, x.cells[j]? = some v → w.cell? ⟨g, o + (i * 13 + j), none⟩ = some v := by
  have h0 : (cellsF l)[i * 13 + 0]? = some (.int .i64 x.f.ty) := (cellsF_get hi 0 (by omega)).trans rfl
  obtain ⟨g, o, e, hk, _⟩ := h.sees _ _ h0
  refine ⟨g, o, e, hk, fun j v hv => ?_⟩
  have hj : j < 13 := (List.getElem?_eq_some_iff.1 hv).1
  obtain ⟨g', o', e', _, hc⟩ := h.sees (i * 13 + j) v ((cellsF_get hi j hj).trans hv)
  rw [e] at e'
  injection e' with e'
  injection e' with e1 e2
  subst e1 e2
  exact hc
end
/-- A row of frames of the call's own. -/
theorem own_rowF {w : World} {base n c : Nat} {B : Option Addr} {l : List FV} {K : Nat → Prop} (h : w.ownsRow base 30 13 (.slice B n c) n (cellsF l)) (hk : ∀ g, base ≤ g → K g) (hok : ∀ x ∈ l, x.ok w K) : RowF w K B n c l := by
  refine ⟨?_, (own_nn h).1, (own_sees h).mono (fun g _ hg => hk g hg), hok⟩
  have := h.1
  rw [cellsF_length] at this
  omega
end Go.Proofs.Ytpjibdnoiioaoaa
