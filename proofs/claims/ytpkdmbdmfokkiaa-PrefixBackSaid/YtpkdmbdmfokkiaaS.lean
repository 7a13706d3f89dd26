/- PrefixBack, whatever the number is. -/
import Derived.Test.YtpkdmbdmfokkiaaB
namespace Go.Proofs.Ytpkdmbdmfokkiaa
open Go.ChangeShapes Go.WideShapes Go.ChangeAt Go.RowKit

theorem back_all (x y z : Int) (A : Option Addr) (n c : Nat) (t : List Int) (w : World) (hl : n = t.length) (hm : n ≤ maxLen) (hs : Sees w A (t.map (Value.int .u8))) (hw : ∀ x ∈ t, (Lit.int .u8 x).wf = true) :
    Calls Try.prog 5 #[.agg #[.int .i64 x, .int .i64 y, .int .i64 z], .slice A n c] w fun e w' => e = .returned (.bool true) ∧ Below w.heap.size w w' := by
  by_cases h : 300 < n
  · exact back_far x y z A n c w h hm
  · obtain ⟨l, q, hp⟩ : ∃ l q, putS x y z = (l, q) := ⟨_, _, rfl⟩
    by_cases hq : q = 0
    · subst hq
      obtain ⟨h1, h7, hb, hg, hc, hx⟩ := back_plain x y z l hp
      have h0 : 0 < l.length := h1
      have hbt : ∀ x ∈ t, 0 ≤ x ∧ x ≤ 255 := fun x hx => wf_u8 (hw x hx)
      have hd : l.getD 0 0 = l[0] := by rw [List.getD_eq_getElem?_getD, List.getElem?_eq_getElem h0]; rfl
      have hv := hb l[0] (List.getElem_mem h0)
      refine back_good x y z A n c l.length l t l[0] w (by omega) (hide hl.symm) hs (hide ?_) (hide fun x hx => hb x ((List.dropLast_sublist l).subset hx)) (hide hp) (hide rfl) h1 h7 (hide (hg t)) (hide hc) (hide (List.getElem?_eq_getElem h0)) ?_ hv.1 hv.2
      · intro x hx
        rcases List.mem_append.1 hx with h | h
        · exact hb x h
        · exact hbt x h
      · rw [hd] at hx
        simpa using hx
    · exact back_err x y z A n c l.length l q w (by omega) (hide hp) (hide rfl) (by simpa using hq)

theorem open_number {H : Type} {enc : TypeId × Value → H} {w : World} {r : Reach} {b0 base : Nat} {spare : Nat → Bool} {held : Bool} {v : Value} {d : DataW H} {p : List MemPlace}
    (hv : Value.okWide Try.prog w r b0 33 v) (h : DataW.Trod enc Try.prog w base spare held 33 v d p) :
    ∃ (x y z : Int), v = .agg #[.int .i64 x, .int .i64 y, .int .i64 z] := by
  obtain ⟨cs, rfl, hsz⟩ := okWide_struct Try.underlying33 hv
  obtain ⟨l⟩ := cs
  obtain ⟨c0, c1, c2, rfl⟩ : ∃ c0 c1 c2, l = [c0, c1, c2] := by
    have h3 : l.length = 3 := hsz.trans cells33
    match l, h3 with
    | [a, b, c], _ => exact ⟨a, b, c, rfl⟩
  obtain ⟨fuel, hf⟩ := h
  obtain ⟨xs, n, _, _, _, hlen, hg⟩ := DataW.trod_struct Try.underlying33 hf
  have g0 := hg 0 _ rfl
  have g1 := hg 1 _ rfl
  have g2 := hg 2 _ rfl
  simp [Value.cells, cells3] at g0 g1 g2
  have hl : xs.length = 3 := hlen
  rw [List.getElem?_eq_getElem (by omega)] at g0 g1 g2
  obtain ⟨x, e0, _, _⟩ := DataW.trod_int Try.underlying3 g0
  obtain ⟨y, e1, _, _⟩ := DataW.trod_int Try.underlying3 g1
  obtain ⟨z, e2, _, _⟩ := DataW.trod_int Try.underlying3 g2
  simp at e0 e1 e2
  subst e0 e1 e2
  exact ⟨x, y, z, rfl⟩
end Go.Proofs.Ytpkdmbdmfokkiaa
