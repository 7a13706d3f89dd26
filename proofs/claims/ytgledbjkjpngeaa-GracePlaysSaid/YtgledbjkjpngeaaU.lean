/- The two memories of GracePlays side by side. -/
import Derived.Test.YtgledbjkjpngeaaL
import Derived.Test.YtgledbjkjpngeaaR
namespace Go.Proofs.Ytgledbjkjpngeaa
open Go.RowKit Go.Maps

section
variable {w w' : World} {g T : Nat} {M : Int} {s s' : St} {F : List Nat} {ids : List Int} {bs : List (List Bool)} {vs : List Value} {A1 A2 : Option Addr} {n1 c1 n2 : Nat}
/-- The memory moves on; the reference's stays. -/
theorem ref_op {q : Bool} {e : Ending} (hr : Ref w (fun b => b ∉ F) ids bs vs A1 n1 c1 A2 n2) (h : OpPost g M q s' F T w e w') :
    e = .returned (.bool q) ∧ ∃ F', Gr w' g M s' F' (T + 1) ∧ Ref w' (fun b => b ∉ F') ids bs vs A1 n1 c1 A2 n2 ∧ (∀ b ∈ F', b ∈ F ∨ w.heap.size ≤ b) ∧ Only F w w' := by
  obtain ⟨he, F', hG, hO, hS⟩ := h
  refine ⟨he, F', hG, ?_, hS, hO⟩
  have h1 := hr.mono (K' := fun b => b ∉ F ∧ b < w.heap.size) fun b hb hk => ⟨hk, hb⟩
  refine (h1.only hO fun b hk => hk.1).mono fun b _ hk hm => ?_
  rcases hS b hm with h2 | h2
  · exact hk.1 h2
  · have := hk.2; omega
/-- The reference moves on; the memory stays. -/
theorem ref_new (hG : Gr w g M s F T) (h : Ref w' (fun b => b ∉ F ∨ w.heap.size ≤ b) ids bs vs A1 n1 c1 A2 n2) : Ref w' (fun b => b ∉ F) ids bs vs A1 n1 c1 A2 n2 :=
  h.mono fun b _ hk hm => hk.elim (fun h => h hm) (fun h => by have := hG.inF b hm; omega)
end

/-- Both memories, after the same deeds. -/
structure Both (w0 w : World) (g T : Nat) (M : Int) (s : St) (F : List Nat) (bs : List (List Bool)) (vs : List Value) (A1 : Option Addr) (n1 c1 : Nat) (A2 : Option Addr) (n2 : Nat) : Prop where
  a : Gr w g M s F T
  r : Ref w (fun b => b ∉ F) s.ids bs vs A1 n1 c1 A2 n2
  ok : s.Ok
  fits : Fits M s bs
  base : s.base M
  ge : ∀ c ∈ F, w0.heap.size ≤ c
  bel : Below w0.heap.size w0 w
section
variable {w0 w w' : World} {g T : Nat} {M x : Int} {s : St} {F : List Nat} {bs : List (List Bool)} {vs : List Value} {A1 A2 : Option Addr} {n1 c1 n2 : Nat}
theorem Both.kept (h : Both w0 w g T M s F bs vs A1 n1 c1 A2 n2) (hb : Below w.heap.size w w') : Both w0 w' g T M s F bs vs A1 n1 c1 A2 n2 :=
  ⟨h.a.kept hb, h.r.kept hb, h.ok, h.fits, h.base, h.ge, below_nextB h.bel h.bel.size hb⟩
/-- Can, asked of the memory. -/
theorem Both.can {e : Ending} (h : Both w0 w g T M s F bs vs A1 n1 c1 A2 n2) (o : OpPost g M (s.can M x) s F T w e w') : e = .returned (.bool (s.can M x)) ∧ ∃ F', Both w0 w' g (T + 1) M s F' bs vs A1 n1 c1 A2 n2 := by
  obtain ⟨he, F', hG, hr, hS, hO⟩ := ref_op h.r o
  refine ⟨he, F', hG, hr, h.ok, h.fits, h.base, fun c hc => ?_, h.bel.trans (hO.below h.bel.size h.ge)⟩
  rcases hS c hc with h1 | h1
  · exact h.ge c h1
  · have := h.bel.size; omega
theorem Both.len (h : Both w0 w g T M s F bs vs A1 n1 c1 A2 n2) : s.ids.length = n1 := h.r.l1
theorem Both.has (hM : 0 ≤ M) (h : Both w0 w g T M s F bs vs A1 n1 c1 A2 n2) : hasZ s.ids bs x = s.can M x := hasZ_can hM h.ok h.fits h.base
end
end Go.Proofs.Ytgledbjkjpngeaa
