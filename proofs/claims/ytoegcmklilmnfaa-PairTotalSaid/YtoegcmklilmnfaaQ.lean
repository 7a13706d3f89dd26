/- Contract: Total, of the reference. -/
import Derived.Test.YtoegcmklilmnfaaT
import Derived.Test.YtoegcmklilmnfaaV
import Derived.BigRegion
namespace Go.Proofs.Ytoegcmklilmnfaa
open Go.RowKit

/-- A slice of pairs, as it is seen. -/
def Prs (w : World) (A : Option Addr) (l : List (Int × Int)) : Prop :=
  ∀ i s k, l[i]? = some (s, k) → ∃ b o, A = some ⟨b, o, none⟩ ∧ w.cell? ⟨b, o + i * 2, none⟩ = some (.int .i64 s) ∧ w.cell? ⟨b, o + i * 2 + 1, none⟩ = some (.int .i64 k)
def opt (q : Int × Int) : Option (Int × Int) := if Am q.1 ∧ Am q.2 then some q else none

set_option maxRecDepth 10000 in
set_option maxHeartbeats 1000000 in
theorem total16 (A : Option Addr) (n c : Nat) (l : List (Int × Int)) (x y e0 : Int) (w : World) (HL : Hid (l.length = n)) (hn : n ≤ maxLen) (HS : Hid (Prs w A l)) (HT : Hid (totS (l.map opt) 0 0 = (x, y, e0))) :
    Calls Try.prog 16 #[.slice A n c] w (RPost x y e0 w) := by
  have H0 : Hid (Am 0) := hide am0
  unfold maxLen at hn
  have HR0 : Hid (Blk ((w.alloc (.cells #[.int .i64 0, .int .i64 0] 27)).alloc (.cells #[.int .i64 0, .int .i64 0] 27)) w.heap.size 27 #[.int .i64 0, .int .i64 0]) := hide ((Blk.born _ _ _).alloc _)
  have HB0 : Hid (Blk ((w.alloc (.cells #[.int .i64 0, .int .i64 0] 27)).alloc (.cells #[.int .i64 0, .int .i64 0] 27)) (w.heap.size + 1) 27 #[.int .i64 0, .int .i64 0]) := hide (by have := Blk.born (w.alloc (.cells #[.int .i64 0, .int .i64 0] 27)) 27 #[.int .i64 0, .int .i64 0]; simpa using this)
  have HW0 : Hid (Below w.heap.size w ((w.alloc (.cells #[.int .i64 0, .int .i64 0] 27)).alloc (.cells #[.int .i64 0, .int .i64 0] 27))) := hide (((Below.refl _ _).alloc (Nat.le_refl _) _).alloc (by simp) _)
  go_enter Try.func16, Try.ntmps16
  go_wp2_with fail
  go_loopw [5] (fun ii wr => ∃ (k : Nat) (a b : Int), ii = .int .i64 k ∧ k ≤ n ∧ Hid (Am a) ∧ Hid (Am b) ∧ Hid (totS ((l.drop k).map opt) a b = (x, y, e0)) ∧ Hid (Blk wr w.heap.size 27 #[.int .i64 0, .int .i64 0]) ∧ Hid (Blk wr (w.heap.size + 1) 27 #[.int .i64 a, .int .i64 b]) ∧ Hid (Below w.heap.size w wr)) (fun ii _ => n - (intOf ii).toNat)
  case atStart => exact ⟨0, 0, 0, rfl, Nat.zero_le _, H0, H0, by simpa using HT, HR0, HB0, HW0⟩
  case round =>
    obtain ⟨k, a, b, rfl, hk, ha, hb, HR, HZ, HB, HW⟩ := hrel
    clear HR0 HB0 HW0
    have r0 : wr.cell? ⟨w.heap.size, 0, none⟩ = some (.int .i64 0) := HZ.out.cell 0
    have r1 : wr.cell? ⟨w.heap.size, 1, none⟩ = some (.int .i64 0) := HZ.out.cell 1
    have rf0 : wr.frozen? ⟨w.heap.size, 0, none⟩ = false := HZ.out.free 0
    have rf1 : wr.frozen? ⟨w.heap.size, 1, none⟩ = false := HZ.out.free 1
    have c0 : wr.cell? ⟨w.heap.size + 1, 0, none⟩ = some (.int .i64 a) := HB.out.cell 0
    have c1 : wr.cell? ⟨w.heap.size + 1, 1, none⟩ = some (.int .i64 b) := HB.out.cell 1
    by_cases hlt : k < n
    · have hkl : k < l.length := by have := HL.out; omega
      obtain ⟨s, t, hst⟩ : ∃ s t, l[k] = (s, t) := ⟨_, _, rfl⟩
      obtain ⟨bb, oo, rfl, t0, t1⟩ := HS.out k s t (by rw [List.getElem?_eq_getElem hkl, hst])
      have hbb : bb < w.heap.size := World.block_lt_of_cell? w _ t0
      have s0 := (HW.out.cell (p := ⟨bb, oo + k * 2, none⟩) hbb).trans t0
      have s1 := (HW.out.cell (p := ⟨bb, oo + k * 2 + 1, none⟩) hbb).trans t1
      have hki : (k : Int) < (n : Int) := by omega
      have HR2 : Hid (totS (opt (s, t) :: (l.drop (k + 1)).map opt) a b = (x, y, e0)) := hide (by
        have := HR.out
        rw [List.drop_eq_getElem_cons hkl, List.map_cons, hst] at this
        exact this)
      have HC2 : Hid (∀ w', Below w.heap.size w w' → w'.cell? ⟨bb, oo + k * 2, none⟩ = some (.int .i64 s) ∧ w'.cell? ⟨bb, oo + k * 2 + 1, none⟩ = some (.int .i64 t)) := hide fun w' hw' => ⟨(hw'.cell (p := ⟨bb, oo + k * 2, none⟩) hbb).trans t0, (hw'.cell (p := ⟨bb, oo + k * 2 + 1, none⟩) hbb).trans t1⟩
      clear t0 t1 hst hkl HR
      by_cases hst : Am s ∧ Am t
      · rw [show opt (s, t) = some (s, t) from if_pos hst] at HR2
        have Hs := hide hst.1
        have Ht := hide hst.2
        clear hst
        go_wp2_with fail
        refine (rright_yes s t _ Hs Ht).mono ?_
        rintro e w1 ⟨rfl, hb1⟩
        have Z1 := HZ.out.kept hb1
        have B1 := HB.out.kept hb1
        have HW1 : Hid (Below w.heap.size w w1) := hide (below_nextB HW.out HW.out.size hb1)
        clear hb1 r0 r1 rf0 rf1 c0 c1 s0 s1
        obtain ⟨s0, s1⟩ := HC2.out w1 HW1.out
        have c0 : w1.cell? ⟨w.heap.size + 1, 0, none⟩ = some (.int .i64 a) := B1.cell 0
        have c1 : w1.cell? ⟨w.heap.size + 1, 1, none⟩ = some (.int .i64 b) := B1.cell 1
        have f0 : w1.frozen? ⟨w.heap.size + 1, 0, none⟩ = false := B1.free 0
        have f1 : w1.frozen? ⟨w.heap.size + 1, 1, none⟩ = false := B1.free 1
        have wa : IntKind.i64.wrap (a + s) = a + s := IntWalk.i64_in _ (by have h1 := ha.out; have h2 := Hs.out; unfold Am at h1 h2; omega)
        have wb : IntKind.i64.wrap (b + t) = b + t := IntWalk.i64_in _ (by have h1 := hb.out; have h2 := Ht.out; unfold Am at h1 h2; omega)
        go_wp2_with fail
        go_region
        have hne : w.heap.size ≠ w.heap.size + 1 := by omega
        have Z2 : Blk (((w1.setCell ⟨w.heap.size + 1, 0, none⟩ (.int .i64 (a + s))).setCell ⟨w.heap.size + 1, 1, none⟩ (.int .i64 (b + t))).drew) w.heap.size 27 #[.int .i64 0, .int .i64 0] := ((Z1.aside (p := ⟨w.heap.size + 1, 0, none⟩) hne _).aside (p := ⟨w.heap.size + 1, 1, none⟩) hne _).drew
        have B2 : Blk (((w1.setCell ⟨w.heap.size + 1, 0, none⟩ (.int .i64 (a + s))).setCell ⟨w.heap.size + 1, 1, none⟩ (.int .i64 (b + t))).drew) (w.heap.size + 1) 27 #[.int .i64 (a + s), .int .i64 (b + t)] := ((B1.store 0 (.int .i64 (a + s))).store 1 (.int .i64 (b + t))).drew
        have HW2 : Hid (Below w.heap.size w (((w1.setCell ⟨w.heap.size + 1, 0, none⟩ (.int .i64 (a + s))).setCell ⟨w.heap.size + 1, 1, none⟩ (.int .i64 (b + t))).drew)) := hide ((HW1.out.setCell (by simp) _).setCell (by simp) _).drew
        have d0 : (((w1.setCell ⟨w.heap.size + 1, 0, none⟩ (.int .i64 (a + s))).setCell ⟨w.heap.size + 1, 1, none⟩ (.int .i64 (b + t))).drew).cell? ⟨w.heap.size + 1, 0, none⟩ = some (.int .i64 (a + s)) := B2.cell 0
        have d1 : (((w1.setCell ⟨w.heap.size + 1, 0, none⟩ (.int .i64 (a + s))).setCell ⟨w.heap.size + 1, 1, none⟩ (.int .i64 (b + t))).drew).cell? ⟨w.heap.size + 1, 1, none⟩ = some (.int .i64 (b + t)) := B2.cell 1
        clear s0 s1 c0 c1 f0 f1 wa wb hne
        by_cases hq : Am (a + s) ∧ Am (b + t)
        · have HR3 : Hid (totS ((l.drop (k + 1)).map opt) (a + s) (b + t) = (x, y, e0)) := hide (by
            have h2 := HR2.out
            unfold totS at h2
            rw [if_pos hq] at h2
            exact h2)
          have HA := hide hq.1
          have HBB := hide hq.2
          clear hq HR2
          go_wp2_with fail
          refine (rright_yes (a + s) (b + t) _ HA HBB).mono ?_
          rintro e w3 ⟨rfl, hb3⟩
          have Z3 := hide (Z2.kept hb3)
          have B3 := hide (B2.kept hb3)
          have HW3 : Hid (Below w.heap.size w w3) := hide (below_nextB HW2.out HW2.out.size hb3)
          clear hb3 d0 d1 Z2 B2 HW2 Z1 B1 HW1
          go_wp2_with fail
          go_roundw
          case rel => exact ⟨k + 1, a + s, b + t, by go_num, by omega, HA, HBB, HR3, Z3, B3, HW3⟩
          case measure => simp [intOf]; omega
        · have h2 := HR2.out
          unfold totS at h2
          rw [if_neg hq] at h2
          obtain ⟨rfl, rfl, rfl⟩ : 0 = x ∧ 0 = y ∧ 5 = e0 := by simpa using h2
          have HQ := hide hq
          clear h2 hq
          go_wp2_with fail
          refine (rright_no (a + s) (b + t) _ HQ).mono ?_
          rintro e w3 ⟨rfl, hb3⟩
          have Z3 := Z2.kept hb3
          have HW3 : Hid (Below w.heap.size w w3) := hide (below_nextB HW2.out HW2.out.size hb3)
          clear hb3 d0 d1 Z2 B2 HW2 Z1 B1 HW1
          have r0 : w3.cell? ⟨w.heap.size, 0, none⟩ = some (.int .i64 0) := Z3.cell 0
          have r1 : w3.cell? ⟨w.heap.size, 1, none⟩ = some (.int .i64 0) := Z3.cell 1
          have rf0 : w3.frozen? ⟨w.heap.size, 0, none⟩ = false := Z3.free 0
          have rf1 : w3.frozen? ⟨w.heap.size, 1, none⟩ = false := Z3.free 1
          go_wp2_with fail
          have RR := (Z3.store 0 (.int .i64 0)).store 1 (.int .i64 0)
          have e0 := RR.cell 0
          have e1 := RR.cell 1
          refine bodyPost_ret (v := .tuple #[.agg #[.int .i64 0, .int .i64 0], .int .i64 5]) (by simp [results, Try.results16, go_sem, e0, e1]) rfl ⟨rfl, ?_⟩
          exact (HW3.out.setCell (Nat.le_refl _) _).setCell (Nat.le_refl _) _
      · rw [show opt (s, t) = none from if_neg hst] at HR2
        have h2 := HR2.out
        unfold totS at h2
        obtain ⟨rfl, rfl, rfl⟩ : 0 = x ∧ 0 = y ∧ 4 = e0 := by simpa using h2
        have HQ := hide hst
        clear h2 hst
        go_wp2_with fail
        refine (rright_no s t _ HQ).mono ?_
        rintro e w3 ⟨rfl, hb3⟩
        have Z3 := HZ.out.kept hb3
        have HW3 : Hid (Below w.heap.size w w3) := hide (below_nextB HW.out HW.out.size hb3)
        clear hb3 r0 r1 rf0 rf1 c0 c1 s0 s1
        have r0 : w3.cell? ⟨w.heap.size, 0, none⟩ = some (.int .i64 0) := Z3.cell 0
        have r1 : w3.cell? ⟨w.heap.size, 1, none⟩ = some (.int .i64 0) := Z3.cell 1
        have rf0 : w3.frozen? ⟨w.heap.size, 0, none⟩ = false := Z3.free 0
        have rf1 : w3.frozen? ⟨w.heap.size, 1, none⟩ = false := Z3.free 1
        go_wp2_with fail
        have RR := (Z3.store 0 (.int .i64 0)).store 1 (.int .i64 0)
        have e0 := RR.cell 0
        have e1 := RR.cell 1
        refine bodyPost_ret (v := .tuple #[.agg #[.int .i64 0, .int .i64 0], .int .i64 4]) (by simp [results, Try.results16, go_sem, e0, e1]) rfl ⟨rfl, ?_⟩
        exact (HW3.out.setCell (Nat.le_refl _) _).setCell (Nat.le_refl _) _
    · have h2 := HR.out
      rw [List.drop_eq_nil_of_le (by have := HL.out; omega)] at h2
      unfold totS at h2
      obtain ⟨rfl, rfl, rfl⟩ : a = x ∧ b = y ∧ 0 = e0 := by simpa using h2
      clear h2
      go_wp2_with fail
      have RR := (HZ.out.store 0 (.int .i64 a)).store 1 (.int .i64 b)
      have e0 := RR.cell 0
      have e1 := RR.cell 1
      refine bodyPost_ret (v := .tuple #[.agg #[.int .i64 a, .int .i64 b], .int .i64 0]) (by simp [results, Try.results16, go_sem, e0, e1]) rfl ⟨rfl, ?_⟩
      exact (HW.out.setCell (Nat.le_refl _) _).setCell (Nat.le_refl _) _
end Go.Proofs.Ytoegcmklilmnfaa
