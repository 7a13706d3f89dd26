/- LifeFalls, whatever the state is; a parameter that is a slice of integers, opened. -/
import Derived.Test.YtohkholbaidjlaaP
import Derived.ProofKit
import Derived.OpenShut
namespace Go.Proofs.Ytohkholbaidjlaa
open Go.ChangeShapes Go.WideShapes Go.ChangeAt Go.RowKit

theorem wf_i8 {n : Int} (h : (Lit.int .i8 n).wf = true) : -128 ≤ n ∧ n ≤ 127 := by simpa [Lit.wf, IntKind.min, IntKind.max, IntKind.signed, IntKind.bits] using h

theorem open_ints_sees {H : Type} {enc : TypeId × Value → H} {P : Program} {w : World} {base : Nat} {spare : Nat → Bool} {held : Bool} {t e : TypeId} {k : IntKind} {a : Option Addr} {len cap : Nat} {d : DataW H} {p : List MemPlace}
    (ht : P.underlying t = some (.slice e)) (he : P.underlying e = some (.int k)) (hc : P.cellsOf e = 1) (h : DataW.Trod enc P w base spare held t (.slice a len cap) d p) :
    ∃ l : List Int, len = l.length ∧ len ≤ maxLen ∧ Sees w a (l.map (Value.int k)) ∧ ∀ n ∈ l, (Lit.int k n).wf = true := by
  obtain ⟨fuel, hf⟩ := h
  rcases open_ints ht he hc hf with ⟨hcs, _⟩ | ⟨x, l, c, zs, hcs, _, hl, hm, hz, _, hcell, hwz⟩
  · simp [Value.cells] at hcs
    obtain ⟨rfl, rfl, rfl⟩ := hcs
    exact row_sees (zs := []) (.inl ⟨rfl, rfl, rfl, rfl⟩)
  · simp [Value.cells] at hcs
    obtain ⟨rfl, rfl, rfl⟩ := hcs
    have hzl : len ≤ zs.length := by rw [hz]; split <;> omega
    refine ⟨zs.take len, by simp; omega, by omega, ?_, fun n hn => hwz n (List.mem_of_mem_take hn)⟩
    intro j u hu
    have hj : j < len ∧ j < zs.length := by
      have := (List.getElem?_eq_some_iff.1 hu).1
      simp at this; omega
    obtain ⟨b, o, spot⟩ := x
    have hc2 := hcell j hj.2
    have hspot : spot = none := by
      have := hcell 0 (by omega)
      simpa [Addr.add] using World.cell?_spot this
    subst hspot
    refine ⟨b, o, rfl, ?_⟩
    rw [Addr.add_lit] at hc2
    rw [hc2]
    simp [List.getElem?_take, hj.1, hj.2] at hu
    simp [← hu, hj.2]

theorem falls_law (k o y : Int) (a b : Bool) (A : Option Addr) (c : Nat) (l : List Int) (w : World) (hs : Sees w A (l.map (Value.int .i8))) (hw : ∀ x ∈ l, -128 ≤ x ∧ x ≤ 127) (hm : l.length ≤ maxLen) :
    Calls Try.prog 6 #[.agg #[.int .i64 k, .int .i64 o, .bool a, .bool b, .int .i64 y], .slice A l.length c] w fun e w' => e = .returned (.bool true) ∧ Below w.heap.size w w' := by
  by_cases hr : rightS k o a b y = true
  · by_cases hl : l.length ≤ 60
    · exact falls_any k o y a b A c l w hr hs hw hl
    · have HR := hide hr
      have hl' : (60 : Int) < (l.length : Int) := by omega
      have hl2 : l.length ≤ 9223372036854775807 := by unfold maxLen at hm; omega
      clear hr hw hm hl
      go_enter Try.func6, Try.ntmps6
      go_wp2_with fail
      refine (rright_q k o a b y _ true HR.out).mono ?_
      rintro e w1 ⟨rfl, hb⟩
      have hb1 := below_base1 hb
      clear hb
      go_wp2_with fail
      refine (alive_any _).mono ?_
      rintro e w3 ⟨rfl, hb⟩
      go_wp2_with fail
      go_ret
      exact ⟨rfl, below_next hb1 hb⟩
  · have HR := hide (show rightS k o a b y = false from by simpa using hr)
    clear hr hw hm
    go_enter Try.func6, Try.ntmps6
    go_wp2_with fail
    refine (rright_q k o a b y _ false HR.out).mono ?_
    rintro e w1 ⟨rfl, hb⟩
    have hb1 := below_base1 hb
    clear hb
    go_wp2_with fail
    refine (alive_any _).mono ?_
    rintro e w3 ⟨rfl, hb⟩
    go_wp2_with fail
    go_ret
    exact ⟨rfl, below_next hb1 hb⟩
end Go.Proofs.Ytohkholbaidjlaa
