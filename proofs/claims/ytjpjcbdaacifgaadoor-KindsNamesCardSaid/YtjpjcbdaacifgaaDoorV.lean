/- What the condition on the laid variables gives the walk of KindsNames. -/
import Derived.Test.YtjpjcbdaacifgaaDoorU
import Derived.Test.YtjpjcbdaacifgaaDoorRows
import Derived.LaidMore
import Derived.ProofKit
import Derived.OpenShut
import Derived.Lib.LaidTab
namespace Go.Proofs.YtjpjcbdaacifgaaDoor
open Go.RowKit

theorem gNames : Tryd.prog.globalNamed "stickler/kinds.names" = some 0 := by kernel_rfl
theorem tNames : (Tryd.prog.globals[0]?).map (·.type) = some 35 := by kernel_rfl
theorem tPow : (Tryd.prog.globals[1]?).map (·.type) = some 46 := by kernel_rfl
theorem kn_data : Rows.laid_stickler_kinds_names (H := Unit) = .agg (knL.map fun s => .lit (.string s.data.toList)) := rfl
theorem pow_data : Rows.laid_internal_strconv_uint64pow10 (H := Unit) = Lib.tabData .u64 Lib.pow10Tab := rfl

set_option maxRecDepth 10000 in
theorem of_laid {W : World} (h : laidMetH Tryd.prog Rows.kindsNamesRow.laid W) : LaidW W := by
  rw [MakeChecks.laidMetH_plain _ _ _ (by kernel_rfl)] at h
  obtain ⟨ps, ⟨g0, t0, cs0, f0, p0, q0, _, _, _, _, ⟨g1, t1, cs1, f1, p1, q1, _, _, _, _, ⟨g2, t2, cs2, f2, p2, q2, hg2, ht2, hv2, hd2, ⟨g3, t3, cs3, f3, p3, q3, hg3, ht3, hv3, hd3, _, _⟩, _⟩, _⟩, _⟩, _, _⟩ := h
  obtain rfl := Option.some.inj (gPow.symm.trans hg2)
  obtain rfl := Option.some.inj (gNames.symm.trans hg3)
  obtain rfl := Option.some.inj (tPow.symm.trans ht2)
  obtain rfl := Option.some.inj (tNames.symm.trans ht3)
  refine ⟨fun i hi => ?_, ?_⟩
  · rw [kn_data] at hd3
    obtain ⟨xs, m1, rfl, hx1, hlen, hn, hel⟩ := DataW.trod_array Tryd.underlying35 hd3
    have c9 : Tryd.prog.cellsOf 9 = 1 := by kernel_rfl
    simp only [Prod.mk.injEq, DataW.agg.injEq] at hx1
    have h0 := hel i hi
    rw [c9, Nat.mul_one] at h0
    rw [List.getElem?_eq_getElem (by omega)] at h0
    obtain ⟨s, e1, e2, _⟩ := DataW.trod_string Tryd.underlying9 h0
    have hk : (knL.map fun s => (DataW.lit (.string s.data.toList) : DataW Unit))[i]? = some (.lit (.string s.data.toList)) := by
      rw [hx1.1, List.getElem?_map, List.getElem?_eq_getElem (by omega), e2]
      rfl
    rw [List.getElem?_map] at hk
    obtain ⟨s', hs', hk'⟩ := Option.map_eq_some_iff.1 hk
    injection hk' with hk'
    injection hk' with hk'
    have hss : s' = s := ByteArray.ext (Array.toList_inj.1 hk')
    subst hss
    have hkn : kn i = s' := by unfold kn; rw [List.getD_eq_getElem?_getD, hs']; rfl
    rw [World.var?_cell gNames hv3 i, hkn]
    have := congrArg (·[0]?) e1
    simpa [List.getElem?_take, List.getElem?_drop] using this
  · unfold Lib.TabIs
    rw [pow_data] at hd2
    rw [hv2, ← Lib.cells_of_tab Tryd.underlying46 Tryd.underlying39 (by kernel_rfl) (by kernel_rfl) hd2]
end Go.Proofs.YtjpjcbdaacifgaaDoor
