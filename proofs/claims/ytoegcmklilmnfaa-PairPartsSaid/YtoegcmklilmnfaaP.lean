/- PairParts' walk. -/
import Derived.Test.YtoegcmklilmnfaaN
namespace Go.Proofs.Ytoegcmklilmnfaa
open Go.RowKit

set_option maxRecDepth 10000 in
theorem parts_no (a b side : Int) (w : World) (h : Hid (¬ (Am a ∧ Am b))) : Calls Try.prog 3 #[.int .i64 a, .int .i64 b, .int .i64 side] w fun e w' => e = .returned (.bool true) ∧ Below w.heap.size w w' := by
  have HO : Hid (∀ w, Calls Try.prog 6 #[.int .i64 a, .int .i64 b] w fun e w' => e = .returned (.tuple #[.complex .f64 0 0, .int .i64 5]) ∧ w = w') := hide fun w => by
    by_cases ha : Am a
    · exact of_no2 a b w (hide ha) (hide fun hb => h.out ⟨ha, hb⟩)
    · exact of_no1 a b w (hide ha)
  have ho : FloatKind.f64.format.order 0 0 = some .eq := by decide +kernel
  go_enter Try.func3, Try.ntmps3
  go_wp2_with fail
  refine (HO.out _).mono ?_
  rintro e w1 ⟨rfl, rfl⟩
  go_wp2_with fail
  refine (rright_no a b _ h).mono ?_
  rintro e w1 ⟨rfl, hb1⟩
  have HB1 := hide (below_base1 hb1)
  clear hb1
  go_wp2_with fail
  refine (alive_any _).mono ?_
  rintro e w2 ⟨rfl, hb2⟩
  have HB2 := hide (below_next HB1.out hb2)
  clear hb2
  go_wp2_with fail
  go_ret
  exact ⟨rfl, HB2.out⟩

set_option maxRecDepth 10000 in
theorem parts_yes (a b side x e0 : Int) (w : World) (ha : Hid (Am a)) (hb : Hid (Am b)) (h : Hid (sideS a b side = (x, e0))) : Calls Try.prog 3 #[.int .i64 a, .int .i64 b, .int .i64 side] w fun e w' => e = .returned (.bool true) ∧ Below w.heap.size w w' := by
  go_enter Try.func3, Try.ntmps3
  go_wp2_with fail
  refine (of_yes a b _ ha hb).mono ?_
  rintro e w1 ⟨rfl, rfl⟩
  go_wp2_with fail
  refine (rright_yes a b _ ha hb).mono ?_
  rintro e w1 ⟨rfl, hb1⟩
  have B := (Blk.born w 27 #[.int .i64 a, .int .i64 b]).kept hb1
  have c0 : w1.cell? ⟨w.heap.size, 0, none⟩ = some (.int .i64 a) := B.cell 0
  have c1 : w1.cell? ⟨w.heap.size, 1, none⟩ = some (.int .i64 b) := B.cell 1
  have HB1 := hide (below_base1 hb1)
  clear hb1
  go_wp2_with fail
  refine (side_q a b side x e0 _ ha hb h).mono ?_
  rintro e w2 ⟨rfl, rfl⟩
  go_wp2_with fail
  refine (rside_q a b side x e0 _ ha hb h).mono ?_
  rintro e w2 ⟨rfl, hb2⟩
  have B2 := B.kept hb2
  have HB2 := hide (below_next HB1.out hb2)
  clear hb2 B c0 c1
  have c0 : w2.cell? ⟨w.heap.size, 0, none⟩ = some (.int .i64 a) := B2.cell 0
  have c1 : w2.cell? ⟨w.heap.size, 1, none⟩ = some (.int .i64 b) := B2.cell 1
  go_wp2_with fail
  refine (is_q a b a b true _ ha hb (hide (by simp))).mono ?_
  rintro e w3 ⟨rfl, hb3⟩
  have HB3 := hide (below_next HB2.out hb3)
  clear hb3 c0 c1
  go_wp2_with fail
  refine (alive_any _).mono ?_
  rintro e w4 ⟨rfl, hb4⟩
  have HB4 := hide (below_next HB3.out hb4)
  clear hb4
  go_wp2_with fail
  go_ret
  exact ⟨rfl, HB4.out⟩

theorem parts_any (a b side : Int) (w : World) : Calls Try.prog 3 #[.int .i64 a, .int .i64 b, .int .i64 side] w fun e w' => e = .returned (.bool true) ∧ Below w.heap.size w w' := by
  by_cases h : Am a ∧ Am b
  · exact parts_yes a b side _ _ w (hide h.1) (hide h.2) (hide rfl)
  · exact parts_no a b side w (hide h)
end Go.Proofs.Ytoegcmklilmnfaa
