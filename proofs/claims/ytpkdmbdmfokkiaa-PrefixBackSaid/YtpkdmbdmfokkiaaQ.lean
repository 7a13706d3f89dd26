/- The arguments, as lists of numbers. -/
import Derived.Test.YtpkdmbdmfokkiaaJ
import Derived.WalkKit
import Derived.ProofKit
import Derived.OpenShut
import Derived.ShutString
import Derived.ChangeOld
import Derived.Carry
namespace Go.Proofs.Ytpkdmbdmfokkiaa
open Go.ChangeShapes Go.WideShapes Go.ChangeAt Go.RowKit

theorem open_ints_sees {H : Type} {enc : TypeId × Value → H} {P : Program} {w : World} {base : Nat} {spare : Nat → Bool} {held : Bool} {t e : TypeId} {k : IntKind} {a : Option Addr} {len cap : Nat} {d : DataW H} {p : List MemPlace}
    (ht : P.underlying t = some (.slice e)) (he : P.underlying e = some (.int k)) (hc : P.cellsOf e = 1) (h : DataW.Trod enc P w base spare held t (.slice a len cap) d p) :
    ∃ l : List Int, len = l.length ∧ len ≤ maxLen ∧ Sees w a (l.map (Value.int k)) ∧ ∀ n ∈ l, (Lit.int k n).wf = true := by
  obtain ⟨fuel, hf⟩ := h
  rcases open_ints ht he hc hf with ⟨hcs, _⟩ | ⟨x, l, c, zs, hcs, _, hl, hm, hz, _, hcell, hwz⟩
  · simp [Value.cells] at hcs
    obtain ⟨rfl, rfl, rfl⟩ := hcs
    exact row_sees (zs := []) (.inl ⟨rfl, rfl, rfl, rfl⟩)
  · simp [Value.cells] at hcs
    obtain ⟨rfl, rfl, rfl⟩ := hcs
    have hzl : len ≤ zs.length := by rw [hz]; split <;> omega
    refine ⟨zs.take len, by simp; omega, by omega, ?_, fun n hn => hwz n (List.mem_of_mem_take hn)⟩
    intro j u hu
    have hj : j < len ∧ j < zs.length := by
      have := (List.getElem?_eq_some_iff.1 hu).1
      simp at this; omega
    obtain ⟨b, o, spot⟩ := x
    have hc2 := hcell j hj.2
    have hspot : spot = none := by
      have := hcell 0 (by omega)
      simpa [Addr.add] using World.cell?_spot this
    subst hspot
    refine ⟨b, o, rfl, ?_⟩
    rw [Addr.add_lit] at hc2
    rw [hc2]
    simp [hj.1, hj.2] at hu
    simp [← hu, hj.2]

theorem cells5 : Try.prog.cellsOf 5 = 1 := by kernel_rfl
theorem cells3 : Try.prog.cellsOf 3 = 1 := by kernel_rfl
theorem cells33 : Try.prog.cellsOf 33 = 3 := by kernel_rfl
theorem gets_all (A : Option Addr) (n c : Nat) (bits : Int) (l : List Int) (w : World) (hl : n = l.length) (hm : n ≤ maxLen) (hs : Sees w A (l.map (Value.int .u8))) (hw : ∀ x ∈ l, (Lit.int .u8 x).wf = true) : Calls Try.prog 4 #[.slice A n c, .int .i64 bits] w fun e w' => e = .returned (.bool true) ∧ Below w.heap.size w w' := by
  by_cases h : 300 < n
  · exact gets_far A n c bits w h hm
  · exact gets_near A c n bits l w (hide hl.symm) (by omega) hs (hide fun x hx => wf_u8 (hw x hx))
end Go.Proofs.Ytpkdmbdmfokkiaa
