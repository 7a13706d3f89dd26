/- PairMoves' walk. -/
import Derived.Test.YtoegcmklilmnfaaR
import Derived.WalkMore
namespace Go.Proofs.Ytoegcmklilmnfaa
open Go.RowKit

/-- Both moves at once: the program's answer and the reference's. -/
def Both (a b side n : Int) (u v : Nat) (x y e0 : Int) : Prop :=
  (∀ w, Calls Try.prog 13 #[.complex .f64 (fw a) (fw b), .int .i64 side, .int .i64 n] w fun e w' => e = .returned (.tuple #[.complex .f64 u v, .int .i64 e0]) ∧ w = w') ∧
  (∀ w, Calls Try.prog 14 #[.agg #[.int .i64 a, .int .i64 b], .int .i64 side, .int .i64 n] w (RPost x y e0 w))
theorem both_any (a b side n : Int) (ha : Am a) (hb : Am b) : ∃ u v x y e0, Both a b side n u v x y e0 ∧ ((e0 == 0) = false ∧ u = 0 ∧ v = 0 ∨ e0 = 0 ∧ u = fw x ∧ v = fw y ∧ Am x ∧ Am y) := by
  by_cases h0 : side = 0
  · subst h0
    by_cases hn : Am n
    · by_cases hx : Am (a + n)
      · exact ⟨_, _, _, _, _, ⟨fun w => move_ok0 a b n _ w ha hb hn rfl hx, fun w => rmove_ok0 a b n _ w (hide ha) (hide hb) (hide hn) (hide rfl) (hide hx)⟩, .inr ⟨rfl, rfl, rfl, hx, hb⟩⟩
      · exact ⟨_, _, _, _, _, ⟨fun w => move_far0 a b n w ha hb hn hx, fun w => rmove_far0 a b n w (hide ha) (hide hb) (hide hn) (hide hx)⟩, .inl ⟨rfl, rfl, rfl⟩⟩
    · exact ⟨_, _, _, _, _, ⟨fun w => move_n0 a b n w ha hb hn, fun w => rmove_n0 a b n w (hide ha) (hide hb) (hide hn)⟩, .inl ⟨rfl, rfl, rfl⟩⟩
  · by_cases h1 : side = 1
    · subst h1
      by_cases hn : Am n
      · by_cases hx : Am (b + n)
        · exact ⟨_, _, _, _, _, ⟨fun w => move_ok1 a b n _ w ha hb hn rfl hx, fun w => rmove_ok1 a b n _ w (hide ha) (hide hb) (hide hn) (hide rfl) (hide hx)⟩, .inr ⟨rfl, rfl, rfl, ha, hx⟩⟩
        · exact ⟨_, _, _, _, _, ⟨fun w => move_far1 a b n w ha hb hn hx, fun w => rmove_far1 a b n w (hide ha) (hide hb) (hide hn) (hide hx)⟩, .inl ⟨rfl, rfl, rfl⟩⟩
      · exact ⟨_, _, _, _, _, ⟨fun w => move_n1 a b n w ha hb hn, fun w => rmove_n1 a b n w (hide ha) (hide hb) (hide hn)⟩, .inl ⟨rfl, rfl, rfl⟩⟩
    · exact ⟨_, _, _, _, _, ⟨fun w => move_side _ _ side n w h0 h1, fun w => rmove_side a b side n w (hide h0) (hide h1)⟩, .inl ⟨rfl, rfl, rfl⟩⟩

/-- A slice of steps, as it is seen. -/
def Steps (w : World) (A : Option Addr) (l : List (Int × Int × Bool)) : Prop :=
  ∀ i s k t, l[i]? = some (s, k, t) → ∃ b o, A = some ⟨b, o, none⟩ ∧ w.cell? ⟨b, o + i * 3, none⟩ = some (.int .i64 s) ∧ w.cell? ⟨b, o + i * 3 + 1, none⟩ = some (.int .i64 k) ∧ w.cell? ⟨b, o + i * 3 + 2, none⟩ = some (.bool t)

set_option maxRecDepth 10000 in
theorem moves_far (A : Option Addr) (n c : Nat) (w : World) (h : 60 < n) (_hn : n ≤ maxLen) : Calls Try.prog 4 #[.slice A n c] w fun e w' => e = .returned (.bool true) ∧ Below w.heap.size w w' := by
  go_enter Try.func4, Try.ntmps4
  go_wp2_with fail
  refine (alive_any _).mono ?_
  rintro e w1 ⟨rfl, hb⟩
  go_wp2_with fail
  go_ret
  exact ⟨rfl, hb⟩

set_option maxRecDepth 10000 in
set_option maxHeartbeats 1000000 in
theorem moves_near (A : Option Addr) (n c : Nat) (l : List (Int × Int × Bool)) (w : World) (h : n ≤ 60) (HL : Hid (l.length = n)) (HS : Hid (Steps w A l)) : Calls Try.prog 4 #[.slice A n c] w fun e w' => e = .returned (.bool true) ∧ Below w.heap.size w w' := by
  have H0 : Hid (Am 0) := hide am0
  go_enter Try.func4, Try.ntmps4
  go_wp2_with fail
  refine (of_yes 0 0 _ H0 H0).mono ?_
  rintro e w1 ⟨rfl, rfl⟩
  go_wp2_with fail
  go_loopw [3, 27] (fun cc ii wr => ∃ (k : Nat) (a b : Int), cc = .complex .f64 (fw a) (fw b) ∧ ii = .int .i64 k ∧ k ≤ n ∧ Hid (Am a) ∧ Hid (Am b) ∧ Hid (Blk wr w.heap.size 27 #[.int .i64 a, .int .i64 b]) ∧ Hid (Below w.heap.size w wr)) (fun _ ii _ => n - (intOf ii).toNat)
  case atStart => exact ⟨0, 0, 0, rfl, rfl, Nat.zero_le _, H0, H0, hide (Blk.born _ _ _), hide ((Below.refl _ _).alloc (Nat.le_refl _) _)⟩
  case round =>
    obtain ⟨k, a, b, rfl, rfl, hk, ha, hb, HB, HW⟩ := hrel
    by_cases hlt : k < n
    · have hkl : k < l.length := by have := HL.out; omega
      obtain ⟨s, nn, t, hst⟩ : ∃ s nn t, l[k] = (s, nn, t) := ⟨_, _, _, rfl⟩
      obtain ⟨bb, oo, rfl, t0, t1, t2⟩ := HS.out k s nn t (by rw [List.getElem?_eq_getElem hkl, hst])
      have hbb : bb < w.heap.size := World.block_lt_of_cell? w _ t0
      have s0 := (HW.out.cell (p := ⟨bb, oo + k * 3, none⟩) hbb).trans t0
      have s1 := (HW.out.cell (p := ⟨bb, oo + k * 3 + 1, none⟩) hbb).trans t1
      have s2 := (HW.out.cell (p := ⟨bb, oo + k * 3 + 2, none⟩) hbb).trans t2
      clear t0 t1 t2 hst hkl
      have c0 : wr.cell? ⟨w.heap.size, 0, none⟩ = some (.int .i64 a) := HB.out.cell 0
      have c1 : wr.cell? ⟨w.heap.size, 1, none⟩ = some (.int .i64 b) := HB.out.cell 1
      have f0 : wr.frozen? ⟨w.heap.size, 0, none⟩ = false := HB.out.free 0
      have f1 : wr.frozen? ⟨w.heap.size, 1, none⟩ = false := HB.out.free 1
      have o0 : FloatKind.f64.format.order 0 0 = some .eq := by decide +kernel
      have hki : (k : Int) < (n : Int) := by omega
      have hgl : w.heap.size < wr.heap.size := HB.out.lt
      have hgn : ¬ w.heap.size = wr.heap.size := by omega
      cases t
      · obtain ⟨u, v, x, y, e0, hbt, hcase⟩ := both_any a b s nn ha.out hb.out
        have HBT := hide hbt
        clear hbt
        have HBa : Hid (Blk wr w.heap.size 27 #[.int .i64 a, .int .i64 b]) := HB
        rcases hcase with ⟨he0, rfl, rfl⟩ | ⟨rfl, rfl, rfl, hx, hy⟩
        · have he1 : ¬ e0 = 0 := by simpa using he0
          have he2 : (e0 != 0) = true := by simpa using he0
          go_wp2_with fail
          refine (HBT.out.1 _).mono ?_
          rintro e w1 ⟨rfl, rfl⟩
          go_wp2_with fail
          refine (HBT.out.2 _).mono ?_
          rintro e w2 ⟨rfl, hb2⟩
          have B2 : Blk w2 w.heap.size 27 #[.int .i64 a, .int .i64 b] := (HB.out.alloc _).kept hb2
          have HW2 : Hid (Below w.heap.size w w2) := hide (below_nextB (HW.out.alloc HW.out.size _) (by simp; have := HW.out.size; omega) hb2)
          clear hb2 c0 c1 f0 f1 s0 s1 s2
          have c0 : w2.cell? ⟨w.heap.size, 0, none⟩ = some (.int .i64 a) := B2.cell 0
          have c1 : w2.cell? ⟨w.heap.size, 1, none⟩ = some (.int .i64 b) := B2.cell 1
          have f0 : w2.frozen? ⟨w.heap.size, 0, none⟩ = false := B2.free 0
          have f1 : w2.frozen? ⟨w.heap.size, 1, none⟩ = false := B2.free 1
          have hgl2 : w.heap.size < w2.heap.size := B2.lt
          have hgn2 : ¬ w.heap.size = w2.heap.size := by omega
          go_wp2_with fail
          refine (is_q a b a b true _ ha hb (hide (by simp))).mono ?_
          rintro e w3 ⟨rfl, hb3⟩
          have B3 : Hid (Blk w3 w.heap.size 27 #[.int .i64 a, .int .i64 b]) := hide ((B2.alloc _).kept hb3)
          have HW3 : Hid (Below w.heap.size w w3) := hide (below_nextB (HW2.out.alloc HW2.out.size _) (by simp; have := HW2.out.size; omega) hb3)
          clear hb3 c0 c1 f0 f1
          go_wp2_with fail
          go_roundw
          case rel => exact ⟨k + 1, a, b, rfl, by go_num, by omega, ha, hb, B3, HW3⟩
          case measure => simp [intOf]; omega
        · have HX := hide hx
          have HY := hide hy
          clear hx hy
          go_wp2_with fail
          refine (HBT.out.1 _).mono ?_
          rintro e w1 ⟨rfl, rfl⟩
          go_wp2_with fail
          refine (HBT.out.2 _).mono ?_
          rintro e w2 ⟨rfl, hb2⟩
          have B2 : Blk w2 w.heap.size 27 #[.int .i64 a, .int .i64 b] := (HB.out.alloc _).kept hb2
          have HW2 : Hid (Below w.heap.size w w2) := hide (below_nextB (HW.out.alloc HW.out.size _) (by simp; have := HW.out.size; omega) hb2)
          clear hb2 c0 c1 f0 f1 s0 s1 s2
          have c0 : w2.cell? ⟨w.heap.size, 0, none⟩ = some (.int .i64 a) := B2.cell 0
          have c1 : w2.cell? ⟨w.heap.size, 1, none⟩ = some (.int .i64 b) := B2.cell 1
          have f0 : w2.frozen? ⟨w.heap.size, 0, none⟩ = false := B2.free 0
          have f1 : w2.frozen? ⟨w.heap.size, 1, none⟩ = false := B2.free 1
          have hgl2 : w.heap.size < w2.heap.size := B2.lt
          have hgn2 : ¬ w.heap.size = w2.heap.size := by omega
          go_wp2_with fail
          refine (is_q x y x y true _ HX HY (hide (by simp))).mono ?_
          rintro e w3 ⟨rfl, hb3⟩
          have B3 : Hid (Blk w3 w.heap.size 27 #[.int .i64 x, .int .i64 y]) := hide ((((B2.store 0 (.int .i64 x)).store 1 (.int .i64 y)).alloc _).kept hb3)
          have HW3 : Hid (Below w.heap.size w w3) := hide (below_nextB (((HW2.out.setCell (by simp) (.int .i64 x)).setCell (by simp) (.int .i64 y)).alloc (by simp; exact HW2.out.size) _) (by simp; have := HW2.out.size; omega) hb3)
          clear hb3 c0 c1 f0 f1
          go_wp2_with fail
          go_roundw
          case rel => exact ⟨k + 1, x, y, rfl, by go_num, by omega, HX, HY, B3, HW3⟩
          case measure => simp [intOf]; omega
      · obtain ⟨u, v, x, y, e0, hbt, hcase⟩ := both_any b a s nn hb.out ha.out
        have HBT := hide hbt
        clear hbt
        rcases hcase with ⟨he0, rfl, rfl⟩ | ⟨rfl, rfl, rfl, hx, hy⟩
        · have he1 : ¬ e0 = 0 := by simpa using he0
          have he2 : (e0 != 0) = true := by simpa using he0
          go_wp2_with fail
          refine (swap_q a b _ ha hb).mono ?_
          rintro e w1 ⟨rfl, rfl⟩
          go_wp2_with fail
          refine (HBT.out.1 _).mono ?_
          rintro e w1 ⟨rfl, rfl⟩
          go_wp2_with fail
          refine (HBT.out.2 _).mono ?_
          rintro e w2 ⟨rfl, hb2⟩
          have B2 : Blk w2 w.heap.size 27 #[.int .i64 b, .int .i64 a] := (((HB.out.store 0 (.int .i64 b)).store 1 (.int .i64 a)).alloc _).kept hb2
          have HW2 : Hid (Below w.heap.size w w2) := hide (below_nextB (((HW.out.setCell (by simp) (.int .i64 b)).setCell (by simp) (.int .i64 a)).alloc (by simp; exact HW.out.size) _) (by simp; have := HW.out.size; omega) hb2)
          clear hb2 c0 c1 f0 f1 s0 s1 s2
          have c0 : w2.cell? ⟨w.heap.size, 0, none⟩ = some (.int .i64 b) := B2.cell 0
          have c1 : w2.cell? ⟨w.heap.size, 1, none⟩ = some (.int .i64 a) := B2.cell 1
          have f0 : w2.frozen? ⟨w.heap.size, 0, none⟩ = false := B2.free 0
          have f1 : w2.frozen? ⟨w.heap.size, 1, none⟩ = false := B2.free 1
          have hgl2 : w.heap.size < w2.heap.size := B2.lt
          have hgn2 : ¬ w.heap.size = w2.heap.size := by omega
          go_wp2_with fail
          refine (is_q b a b a true _ hb ha (hide (by simp))).mono ?_
          rintro e w3 ⟨rfl, hb3⟩
          have B3 : Hid (Blk w3 w.heap.size 27 #[.int .i64 b, .int .i64 a]) := hide ((B2.alloc _).kept hb3)
          have HW3 : Hid (Below w.heap.size w w3) := hide (below_nextB (HW2.out.alloc HW2.out.size _) (by simp; have := HW2.out.size; omega) hb3)
          clear hb3 c0 c1 f0 f1
          go_wp2_with fail
          go_roundw
          case rel => exact ⟨k + 1, b, a, rfl, by go_num, by omega, hb, ha, B3, HW3⟩
          case measure => simp [intOf]; omega
        · have HX := hide hx
          have HY := hide hy
          clear hx hy
          go_wp2_with fail
          refine (swap_q a b _ ha hb).mono ?_
          rintro e w1 ⟨rfl, rfl⟩
          go_wp2_with fail
          refine (HBT.out.1 _).mono ?_
          rintro e w1 ⟨rfl, rfl⟩
          go_wp2_with fail
          refine (HBT.out.2 _).mono ?_
          rintro e w2 ⟨rfl, hb2⟩
          have B2 : Blk w2 w.heap.size 27 #[.int .i64 b, .int .i64 a] := (((HB.out.store 0 (.int .i64 b)).store 1 (.int .i64 a)).alloc _).kept hb2
          have HW2 : Hid (Below w.heap.size w w2) := hide (below_nextB (((HW.out.setCell (by simp) (.int .i64 b)).setCell (by simp) (.int .i64 a)).alloc (by simp; exact HW.out.size) _) (by simp; have := HW.out.size; omega) hb2)
          clear hb2 c0 c1 f0 f1 s0 s1 s2
          have c0 : w2.cell? ⟨w.heap.size, 0, none⟩ = some (.int .i64 b) := B2.cell 0
          have c1 : w2.cell? ⟨w.heap.size, 1, none⟩ = some (.int .i64 a) := B2.cell 1
          have f0 : w2.frozen? ⟨w.heap.size, 0, none⟩ = false := B2.free 0
          have f1 : w2.frozen? ⟨w.heap.size, 1, none⟩ = false := B2.free 1
          have hgl2 : w.heap.size < w2.heap.size := B2.lt
          have hgn2 : ¬ w.heap.size = w2.heap.size := by omega
          go_wp2_with fail
          refine (is_q x y x y true _ HX HY (hide (by simp))).mono ?_
          rintro e w3 ⟨rfl, hb3⟩
          have B3 : Hid (Blk w3 w.heap.size 27 #[.int .i64 x, .int .i64 y]) := hide ((((B2.store 0 (.int .i64 x)).store 1 (.int .i64 y)).alloc _).kept hb3)
          have HW3 : Hid (Below w.heap.size w w3) := hide (below_nextB (((HW2.out.setCell (by simp) (.int .i64 x)).setCell (by simp) (.int .i64 y)).alloc (by simp; exact HW2.out.size) _) (by simp; have := HW2.out.size; omega) hb3)
          clear hb3 c0 c1 f0 f1
          go_wp2_with fail
          go_roundw
          case rel => exact ⟨k + 1, x, y, rfl, by go_num, by omega, HX, HY, B3, HW3⟩
          case measure => simp [intOf]; omega
    · go_wp2_with fail
      refine (alive_any _).mono ?_
      rintro e w2 ⟨rfl, hb2⟩
      have HF := hide (below_nextB HW.out HW.out.size hb2)
      clear hb2
      go_wp2_with fail
      go_ret
      exact ⟨rfl, HF.out⟩
end Go.Proofs.Ytoegcmklilmnfaa
