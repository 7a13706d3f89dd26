/- Contracts: move, Take, Give, of both. -/
import Derived.Test.YtphbmbenkbefhaaX
namespace Go.Proofs.Ytphbmbenkbefhaa
open Go.RowKit

/-- Both amounts behind a move on a side that there is, and whether it may be. -/
def moveS (a b side n : Int) : Int × Int × Bool :=
  if side = 0 then (if Am n ∧ Am (a + n) then (a + n, b, true) else (0, 0, false)) else (if Am n ∧ Am (b + n) then (a, b + n, true) else (0, 0, false))
def takeS (a b side n ini : Int) : Int × Int × Bool := if ¬ mayS side ini ∨ n < 0 ∨ 0 < n ∧ roomS a b side ini < n then (0, 0, false) else moveS a b side (-n)
def giveS (a b side n ini : Int) : Int × Int × Bool := if ¬ mayS side ini ∨ n < 0 ∨ 2147483647 - roomS a b side ini < n then (0, 0, false) else moveS a b side n
def Both (a b side n : Int) (u v : Nat) (x y e0 : Int) : Prop :=
  (∀ w, Calls Try.prog 23 #[.complex .f64 (fw a) (fw b), .int .i64 side, .int .i64 n] w fun e w' => e = .returned (.tuple #[.complex .f64 u v, .int .i64 e0]) ∧ w = w') ∧
  (∀ w, Calls Try.prog 20 #[.agg #[.int .i64 a, .int .i64 b], .int .i64 side, .int .i64 n] w (RPost x y e0 w))
theorem both_move (a b side n x y : Int) (q : Bool) (ha : Am a) (hb : Am b) (hs : side = 0 ∨ side = 1) (h : moveS a b side n = (x, y, q)) :
    ∃ e0, Both a b side n (fw x) (fw y) x y e0 ∧ ((q = false ∧ x = 0 ∧ y = 0 ∧ ¬ e0 = 0) ∨ (q = true ∧ e0 = 0)) ∧ Am x ∧ Am y := by
  unfold moveS at h
  rcases hs with rfl | rfl
  · rw [if_pos rfl] at h
    by_cases hn : Am n
    · by_cases hx : Am (a + n)
      · rw [if_pos ⟨hn, hx⟩] at h
        obtain ⟨rfl, rfl, rfl⟩ : a + n = x ∧ b = y ∧ true = q := by simpa using h
        exact ⟨0, ⟨fun w => move_ok0 a b n _ w ha hb hn rfl hx, fun w => rmove_ok0 a b n _ w (hide ha) (hide hb) (hide hn) (hide rfl) (hide hx)⟩, .inr ⟨rfl, rfl⟩, hx, hb⟩
      · rw [if_neg fun hh => hx hh.2] at h
        obtain ⟨rfl, rfl, rfl⟩ : 0 = x ∧ 0 = y ∧ false = q := by simpa using h
        rw [fw_zero]
        exact ⟨5, ⟨fun w => move_far0 a b n w ha hb hn hx, fun w => rmove_far0 a b n w (hide ha) (hide hb) (hide hn) (hide hx)⟩, .inl ⟨rfl, rfl, rfl, by decide⟩, am0, am0⟩
    · rw [if_neg fun hh => hn hh.1] at h
      obtain ⟨rfl, rfl, rfl⟩ : 0 = x ∧ 0 = y ∧ false = q := by simpa using h
      rw [fw_zero]
      exact ⟨5, ⟨fun w => move_n0 a b n w ha hb hn, fun w => rmove_n0 a b n w (hide ha) (hide hb) (hide hn)⟩, .inl ⟨rfl, rfl, rfl, by decide⟩, am0, am0⟩
  · rw [if_neg (by decide)] at h
    by_cases hn : Am n
    · by_cases hx : Am (b + n)
      · rw [if_pos ⟨hn, hx⟩] at h
        obtain ⟨rfl, rfl, rfl⟩ : a = x ∧ b + n = y ∧ true = q := by simpa using h
        exact ⟨0, ⟨fun w => move_ok1 a b n _ w ha hb hn rfl hx, fun w => rmove_ok1 a b n _ w (hide ha) (hide hb) (hide hn) (hide rfl) (hide hx)⟩, .inr ⟨rfl, rfl⟩, ha, hx⟩
      · rw [if_neg fun hh => hx hh.2] at h
        obtain ⟨rfl, rfl, rfl⟩ : 0 = x ∧ 0 = y ∧ false = q := by simpa using h
        rw [fw_zero]
        exact ⟨5, ⟨fun w => move_far1 a b n w ha hb hn hx, fun w => rmove_far1 a b n w (hide ha) (hide hb) (hide hn) (hide hx)⟩, .inl ⟨rfl, rfl, rfl, by decide⟩, am0, am0⟩
    · rw [if_neg fun hh => hn hh.1] at h
      obtain ⟨rfl, rfl, rfl⟩ : 0 = x ∧ 0 = y ∧ false = q := by simpa using h
      rw [fw_zero]
      exact ⟨5, ⟨fun w => move_n1 a b n w ha hb hn, fun w => rmove_n1 a b n w (hide ha) (hide hb) (hide hn)⟩, .inl ⟨rfl, rfl, rfl, by decide⟩, am0, am0⟩

theorem st_cx (a : Addr) (x y : Nat) (m : Mode) (w : World) : (store a (.complex .f64 x y) m).run Try.prog w = stored Try.prog w a (.complex .f64 x y) m := run_store Try.prog w a _ m rfl
/-- What a contract on a window says. -/
def WPost (x y : Int) (q : Bool) (w : World) (e : Ending) (w' : World) : Prop := e = .returned (.tuple #[.agg #[.complex .f64 (fw x) (fw y)], .bool q]) ∧ Below w.heap.size w w'
/-- The same of the reference. -/
def PPost (x y : Int) (q : Bool) (w : World) (e : Ending) (w' : World) : Prop := e = .returned (.tuple #[.agg #[.int .i64 x, .int .i64 y], .bool q]) ∧ Below w.heap.size w w'

set_option maxRecDepth 10000 in
theorem mv19 (a b side n x y : Int) (q : Bool) (w : World) (ha : Hid (Am a)) (hb : Hid (Am b)) (hs : Hid (side = 0 ∨ side = 1)) (h : Hid (moveS a b side n = (x, y, q))) :
    Calls Try.prog 19 #[.agg #[.complex .f64 (fw a) (fw b)], .int .i64 side, .int .i64 n] w (WPost x y q w) := by
  obtain ⟨e0, HB, hc, _, _⟩ := both_move a b side n x y q ha.out hb.out hs.out h.out
  have HBT := hide HB.1
  clear HB h
  rcases hc with ⟨rfl, rfl, rfl, he⟩ | ⟨rfl, rfl⟩
  · have he2 : (e0 != 0) = true := by simpa using he
    have hst := st_cx
    go_enter Try.func19, Try.ntmps19
    go_wp2_with fail
    refine (HBT.out _).mono ?_
    rintro e w1 ⟨rfl, hw⟩
    have R1 : Blk w1 (w.heap.size + 1) 26 #[.complex .f64 0 0] := by rw [← hw]; have := Blk.born (w.alloc (.cells #[.complex .f64 (fw a) (fw b)] 26)) 26 #[.complex .f64 0 0]; simpa using this
    have c0 : w1.cell? ⟨w.heap.size + 1, 0, none⟩ = some (.complex .f64 0 0) := R1.cell 0
    have f0 : w1.frozen? ⟨w.heap.size + 1, 0, none⟩ = false := R1.free 0
    have HW1 : Hid (Below w.heap.size w w1) := hide (by rw [← hw]; exact ((Below.refl _ _).alloc (Nat.le_refl _) _).alloc (by simp) _)
    clear hw
    go_wp2_with fail
    have d0 := (R1.store 0 (.complex .f64 0 0)).cell 0
    refine bodyPost_ret (v := .tuple #[.agg #[.complex .f64 0 0], .bool false]) (by simp [results, Try.results19, go_sem, d0]) rfl ⟨by rw [fw_zero], ?_⟩
    exact HW1.out.setCell (by simp) _
  · have hst := st_cx
    go_enter Try.func19, Try.ntmps19
    go_wp2_with fail
    refine (HBT.out _).mono ?_
    rintro e w1 ⟨rfl, hw⟩
    have R1 : Blk w1 (w.heap.size + 1) 26 #[.complex .f64 0 0] := by rw [← hw]; have := Blk.born (w.alloc (.cells #[.complex .f64 (fw a) (fw b)] 26)) 26 #[.complex .f64 0 0]; simpa using this
    have c0 : w1.cell? ⟨w.heap.size + 1, 0, none⟩ = some (.complex .f64 0 0) := R1.cell 0
    have f0 : w1.frozen? ⟨w.heap.size + 1, 0, none⟩ = false := R1.free 0
    have HW1 : Hid (Below w.heap.size w w1) := hide (by rw [← hw]; exact ((Below.refl _ _).alloc (Nat.le_refl _) _).alloc (by simp) _)
    clear hw
    go_wp2_with fail
    have d0 := (R1.store 0 (.complex .f64 (fw x) (fw y))).cell 0
    refine bodyPost_ret (v := .tuple #[.agg #[.complex .f64 (fw x) (fw y)], .bool true]) (by simp [results, Try.results19, go_sem, d0]) rfl ⟨rfl, ?_⟩
    exact HW1.out.setCell (by simp) _

theorem room_bound {a b side ini r : Int} (ha : Am a) (hb : Am b) (h : roomS a b side ini = r) : -4503599627370496 ≤ r ∧ r ≤ 4503601774854143 := by
  unfold roomS at h
  unfold Am at ha hb
  split at h
  · rename_i hm
    have := hm.2
    split at h <;> omega
  · omega
theorem room9_q (a b side ini r : Int) (w : World) (ha : Hid (Am a)) (hb : Hid (Am b)) (h : Hid (roomS a b side ini = r)) : Calls Try.prog 9 #[.agg #[.complex .f64 (fw a) (fw b)], .int .i64 side, .int .i64 ini] w fun e w' => e = .returned (.int .i64 r) ∧ Below w.heap.size w w' := by
  rw [← h.out]; exact room9 a b side ini w ha hb
theorem room10_q (a b side ini r : Int) (w : World) (ha : Hid (Am a)) (hb : Hid (Am b)) (h : Hid (roomS a b side ini = r)) : Calls Try.prog 10 #[.agg #[.int .i64 a, .int .i64 b], .int .i64 side, .int .i64 ini] w fun e w' => e = .returned (.int .i64 r) ∧ Below w.heap.size w w' := by
  rw [← h.out]; exact room10 a b side ini w ha hb

set_option maxRecDepth 10000 in
theorem take11_may (a b side n ini : Int) (w : World) (ha : Hid (Am a)) (hb : Hid (Am b)) (hm : Hid (¬ mayS side ini)) : Calls Try.prog 11 #[.agg #[.complex .f64 (fw a) (fw b)], .int .i64 side, .int .i64 n, .int .i64 ini] w (WPost 0 0 false w) := by
  have hst := st_cx
  go_enter Try.func11, Try.ntmps11
  go_wp2_with fail
  refine (may16_no side ini _ hm.out).mono ?_
  rintro e w1 ⟨rfl, hw⟩
  have hb1 : Below ((w.alloc (.cells #[.complex .f64 (fw a) (fw b)] 26)).alloc (.cells #[.complex .f64 0 0] 26)).heap.size ((w.alloc (.cells #[.complex .f64 (fw a) (fw b)] 26)).alloc (.cells #[.complex .f64 0 0] 26)) w1 := by rw [← hw]; exact Below.refl _ _
  clear hw
  have B1 := ((Blk.born w 26 #[.complex .f64 (fw a) (fw b)]).alloc (.cells #[.complex .f64 0 0] 26)).kept hb1
  have R1 : Blk w1 (w.heap.size + 1) 26 #[.complex .f64 0 0] := by have := (Blk.born (w.alloc (.cells #[.complex .f64 (fw a) (fw b)] 26)) 26 #[.complex .f64 0 0]).kept hb1; simpa using this
  have k0 : w1.cell? ⟨w.heap.size, 0, none⟩ = some (.complex .f64 (fw a) (fw b)) := B1.cell 0
  have c0 : w1.cell? ⟨w.heap.size + 1, 0, none⟩ = some (.complex .f64 0 0) := R1.cell 0
  have f0 : w1.frozen? ⟨w.heap.size + 1, 0, none⟩ = false := R1.free 0
  have HW1 := hide (below_base2 hb1)
  clear hb1
  go_wp2_with fail
  have RR := (R1.store 0 (.complex .f64 0 0))
  have d0 := RR.cell 0
  refine bodyPost_ret (v := .tuple #[.agg #[.complex .f64 0 0], .bool false]) (by simp [results, Try.results11, go_sem, d0]) rfl ⟨by rw [fw_zero], ?_⟩
  exact (HW1.out.setCell (by simp) (.complex .f64 0 0))

set_option maxRecDepth 10000 in
theorem take11_neg (a b side n ini : Int) (w : World) (ha : Hid (Am a)) (hb : Hid (Am b)) (hm : Hid (mayS side ini)) (hn : n < 0) : Calls Try.prog 11 #[.agg #[.complex .f64 (fw a) (fw b)], .int .i64 side, .int .i64 n, .int .i64 ini] w (WPost 0 0 false w) := by
  have hst := st_cx
  go_enter Try.func11, Try.ntmps11
  go_wp2_with fail
  refine (may16_yes side ini _ hm.out).mono ?_
  rintro e w1 ⟨rfl, hw⟩
  have hb1 : Below ((w.alloc (.cells #[.complex .f64 (fw a) (fw b)] 26)).alloc (.cells #[.complex .f64 0 0] 26)).heap.size ((w.alloc (.cells #[.complex .f64 (fw a) (fw b)] 26)).alloc (.cells #[.complex .f64 0 0] 26)) w1 := by rw [← hw]; exact Below.refl _ _
  clear hw
  have B1 := ((Blk.born w 26 #[.complex .f64 (fw a) (fw b)]).alloc (.cells #[.complex .f64 0 0] 26)).kept hb1
  have R1 : Blk w1 (w.heap.size + 1) 26 #[.complex .f64 0 0] := by have := (Blk.born (w.alloc (.cells #[.complex .f64 (fw a) (fw b)] 26)) 26 #[.complex .f64 0 0]).kept hb1; simpa using this
  have k0 : w1.cell? ⟨w.heap.size, 0, none⟩ = some (.complex .f64 (fw a) (fw b)) := B1.cell 0
  have c0 : w1.cell? ⟨w.heap.size + 1, 0, none⟩ = some (.complex .f64 0 0) := R1.cell 0
  have f0 : w1.frozen? ⟨w.heap.size + 1, 0, none⟩ = false := R1.free 0
  have HW1 := hide (below_base2 hb1)
  clear hb1
  go_wp2_with fail
  have RR := (R1.store 0 (.complex .f64 0 0))
  have d0 := RR.cell 0
  refine bodyPost_ret (v := .tuple #[.agg #[.complex .f64 0 0], .bool false]) (by simp [results, Try.results11, go_sem, d0]) rfl ⟨by rw [fw_zero], ?_⟩
  exact (HW1.out.setCell (by simp) (.complex .f64 0 0))

set_option maxRecDepth 10000 in
theorem take11_zero (a b side n ini x y : Int) (q : Bool) (w : World) (ha : Hid (Am a)) (hb : Hid (Am b)) (hm : Hid (mayS side ini)) (hn0 : n = 0) (hq : Hid (moveS a b side 0 = (x, y, q))) : Calls Try.prog 11 #[.agg #[.complex .f64 (fw a) (fw b)], .int .i64 side, .int .i64 n, .int .i64 ini] w (WPost x y q w) := by
  subst hn0
  have hs := hide hm.out.1
  have hst := st_cx
  go_enter Try.func11, Try.ntmps11
  go_wp2_with fail
  refine (may16_yes side ini _ hm.out).mono ?_
  rintro e w1 ⟨rfl, hw⟩
  have hb1 : Below ((w.alloc (.cells #[.complex .f64 (fw a) (fw b)] 26)).alloc (.cells #[.complex .f64 0 0] 26)).heap.size ((w.alloc (.cells #[.complex .f64 (fw a) (fw b)] 26)).alloc (.cells #[.complex .f64 0 0] 26)) w1 := by rw [← hw]; exact Below.refl _ _
  clear hw
  have B1 := ((Blk.born w 26 #[.complex .f64 (fw a) (fw b)]).alloc (.cells #[.complex .f64 0 0] 26)).kept hb1
  have R1 : Blk w1 (w.heap.size + 1) 26 #[.complex .f64 0 0] := by have := (Blk.born (w.alloc (.cells #[.complex .f64 (fw a) (fw b)] 26)) 26 #[.complex .f64 0 0]).kept hb1; simpa using this
  have k0 : w1.cell? ⟨w.heap.size, 0, none⟩ = some (.complex .f64 (fw a) (fw b)) := B1.cell 0
  have c0 : w1.cell? ⟨w.heap.size + 1, 0, none⟩ = some (.complex .f64 0 0) := R1.cell 0
  have f0 : w1.frozen? ⟨w.heap.size + 1, 0, none⟩ = false := R1.free 0
  have HW1 := hide (below_base2 hb1)
  clear hb1
  go_wp2_with fail
  refine (mv19 a b side (0) x y q _ ha hb hs hq).mono ?_
  rintro e w3 ⟨rfl, hb3⟩
  have B3 := B1.kept hb3
  have R3 := R1.kept hb3
  have HW3 := hide (below_next HW1.out hb3)
  clear k0 c0 f0
  have k0 : w3.cell? ⟨w.heap.size, 0, none⟩ = some (.complex .f64 (fw a) (fw b)) := B3.cell 0
  have c0 : w3.cell? ⟨w.heap.size + 1, 0, none⟩ = some (.complex .f64 0 0) := R3.cell 0
  have f0 : w3.frozen? ⟨w.heap.size + 1, 0, none⟩ = false := R3.free 0
  clear hb3
  go_wp2_with fail
  have d0 := (R3.store 0 (.complex .f64 (fw x) (fw y))).cell 0
  refine bodyPost_ret (v := .tuple #[.agg #[.complex .f64 (fw x) (fw y)], .bool q]) (by simp [results, Try.results11, go_sem, d0]) rfl ⟨rfl, ?_⟩
  exact (HW3.out.setCell (by simp) (.complex .f64 (fw x) (fw y)))

set_option maxRecDepth 10000 in
theorem take11_much (a b side n ini r : Int) (w : World) (ha : Hid (Am a)) (hb : Hid (Am b)) (hm : Hid (mayS side ini)) (hn : 0 < n) (hr : Hid (roomS a b side ini = r)) (hrn : r < n) : Calls Try.prog 11 #[.agg #[.complex .f64 (fw a) (fw b)], .int .i64 side, .int .i64 n, .int .i64 ini] w (WPost 0 0 false w) := by
  have hst := st_cx
  go_enter Try.func11, Try.ntmps11
  go_wp2_with fail
  refine (may16_yes side ini _ hm.out).mono ?_
  rintro e w1 ⟨rfl, hw⟩
  have hb1 : Below ((w.alloc (.cells #[.complex .f64 (fw a) (fw b)] 26)).alloc (.cells #[.complex .f64 0 0] 26)).heap.size ((w.alloc (.cells #[.complex .f64 (fw a) (fw b)] 26)).alloc (.cells #[.complex .f64 0 0] 26)) w1 := by rw [← hw]; exact Below.refl _ _
  clear hw
  have B1 := ((Blk.born w 26 #[.complex .f64 (fw a) (fw b)]).alloc (.cells #[.complex .f64 0 0] 26)).kept hb1
  have R1 : Blk w1 (w.heap.size + 1) 26 #[.complex .f64 0 0] := by have := (Blk.born (w.alloc (.cells #[.complex .f64 (fw a) (fw b)] 26)) 26 #[.complex .f64 0 0]).kept hb1; simpa using this
  have k0 : w1.cell? ⟨w.heap.size, 0, none⟩ = some (.complex .f64 (fw a) (fw b)) := B1.cell 0
  have c0 : w1.cell? ⟨w.heap.size + 1, 0, none⟩ = some (.complex .f64 0 0) := R1.cell 0
  have f0 : w1.frozen? ⟨w.heap.size + 1, 0, none⟩ = false := R1.free 0
  have HW1 := hide (below_base2 hb1)
  clear hb1
  go_wp2_with fail
  refine (room9_q a b side ini r _ ha hb hr).mono ?_
  rintro e w2 ⟨rfl, hb2⟩
  have B2 := B1.kept hb2
  have R2 := R1.kept hb2
  have HW2 := hide (below_next HW1.out hb2)
  clear k0 c0 f0
  have k0 : w2.cell? ⟨w.heap.size, 0, none⟩ = some (.complex .f64 (fw a) (fw b)) := B2.cell 0
  have c0 : w2.cell? ⟨w.heap.size + 1, 0, none⟩ = some (.complex .f64 0 0) := R2.cell 0
  have f0 : w2.frozen? ⟨w.heap.size + 1, 0, none⟩ = false := R2.free 0
  clear hb2
  go_wp2_with fail
  have RR := (R2.store 0 (.complex .f64 0 0))
  have d0 := RR.cell 0
  refine bodyPost_ret (v := .tuple #[.agg #[.complex .f64 0 0], .bool false]) (by simp [results, Try.results11, go_sem, d0]) rfl ⟨by rw [fw_zero], ?_⟩
  exact (HW2.out.setCell (by simp) (.complex .f64 0 0))

set_option maxRecDepth 10000 in
theorem take11_some (a b side n ini x y r : Int) (q : Bool) (w : World) (ha : Hid (Am a)) (hb : Hid (Am b)) (hm : Hid (mayS side ini)) (hn : 0 < n) (hr : Hid (roomS a b side ini = r)) (hrn : n ≤ r) (hq : Hid (moveS a b side (-n) = (x, y, q))) : Calls Try.prog 11 #[.agg #[.complex .f64 (fw a) (fw b)], .int .i64 side, .int .i64 n, .int .i64 ini] w (WPost x y q w) := by
  have hs := hide hm.out.1
  have hrb := (room_bound ha.out hb.out hr.out).2
  have hst := st_cx
  go_enter Try.func11, Try.ntmps11
  go_wp2_with fail
  refine (may16_yes side ini _ hm.out).mono ?_
  rintro e w1 ⟨rfl, hw⟩
  have hb1 : Below ((w.alloc (.cells #[.complex .f64 (fw a) (fw b)] 26)).alloc (.cells #[.complex .f64 0 0] 26)).heap.size ((w.alloc (.cells #[.complex .f64 (fw a) (fw b)] 26)).alloc (.cells #[.complex .f64 0 0] 26)) w1 := by rw [← hw]; exact Below.refl _ _
  clear hw
  have B1 := ((Blk.born w 26 #[.complex .f64 (fw a) (fw b)]).alloc (.cells #[.complex .f64 0 0] 26)).kept hb1
  have R1 : Blk w1 (w.heap.size + 1) 26 #[.complex .f64 0 0] := by have := (Blk.born (w.alloc (.cells #[.complex .f64 (fw a) (fw b)] 26)) 26 #[.complex .f64 0 0]).kept hb1; simpa using this
  have k0 : w1.cell? ⟨w.heap.size, 0, none⟩ = some (.complex .f64 (fw a) (fw b)) := B1.cell 0
  have c0 : w1.cell? ⟨w.heap.size + 1, 0, none⟩ = some (.complex .f64 0 0) := R1.cell 0
  have f0 : w1.frozen? ⟨w.heap.size + 1, 0, none⟩ = false := R1.free 0
  have HW1 := hide (below_base2 hb1)
  clear hb1
  go_wp2_with fail
  refine (room9_q a b side ini r _ ha hb hr).mono ?_
  rintro e w2 ⟨rfl, hb2⟩
  have B2 := B1.kept hb2
  have R2 := R1.kept hb2
  have HW2 := hide (below_next HW1.out hb2)
  clear k0 c0 f0
  have k0 : w2.cell? ⟨w.heap.size, 0, none⟩ = some (.complex .f64 (fw a) (fw b)) := B2.cell 0
  have c0 : w2.cell? ⟨w.heap.size + 1, 0, none⟩ = some (.complex .f64 0 0) := R2.cell 0
  have f0 : w2.frozen? ⟨w.heap.size + 1, 0, none⟩ = false := R2.free 0
  clear hb2
  go_wp2_with fail
  refine (mv19 a b side (-n) x y q _ ha hb hs hq).mono ?_
  rintro e w3 ⟨rfl, hb3⟩
  have B3 := B2.kept hb3
  have R3 := R2.kept hb3
  have HW3 := hide (below_next HW2.out hb3)
  clear k0 c0 f0
  have k0 : w3.cell? ⟨w.heap.size, 0, none⟩ = some (.complex .f64 (fw a) (fw b)) := B3.cell 0
  have c0 : w3.cell? ⟨w.heap.size + 1, 0, none⟩ = some (.complex .f64 0 0) := R3.cell 0
  have f0 : w3.frozen? ⟨w.heap.size + 1, 0, none⟩ = false := R3.free 0
  clear hb3
  go_wp2_with fail
  have d0 := (R3.store 0 (.complex .f64 (fw x) (fw y))).cell 0
  refine bodyPost_ret (v := .tuple #[.agg #[.complex .f64 (fw x) (fw y)], .bool q]) (by simp [results, Try.results11, go_sem, d0]) rfl ⟨rfl, ?_⟩
  exact (HW3.out.setCell (by simp) (.complex .f64 (fw x) (fw y)))

theorem take11 (a b side n ini x y : Int) (q : Bool) (w : World) (ha : Hid (Am a)) (hb : Hid (Am b)) (h : Hid (takeS a b side n ini = (x, y, q))) : Calls Try.prog 11 #[.agg #[.complex .f64 (fw a) (fw b)], .int .i64 side, .int .i64 n, .int .i64 ini] w (WPost x y q w) := by
  have h := h.out
  unfold takeS at h
  by_cases hm : mayS side ini
  · by_cases hn : n < 0
    · rw [if_pos (.inr (.inl hn))] at h
      obtain ⟨rfl, rfl, rfl⟩ : 0 = x ∧ 0 = y ∧ false = q := by simpa using h
      exact take11_neg a b side n ini w ha hb (hide hm) hn
    · by_cases h0 : n = 0
      · subst h0
        rw [if_neg (by simp [hm])] at h
        exact take11_zero a b side 0 ini x y q w ha hb (hide hm) rfl (hide h)
      · by_cases hr : roomS a b side ini < n
        · rw [if_pos (.inr (.inr ⟨by omega, hr⟩))] at h
          obtain ⟨rfl, rfl, rfl⟩ : 0 = x ∧ 0 = y ∧ false = q := by simpa using h
          exact take11_much a b side n ini _ w ha hb (hide hm) (by omega) (hide rfl) hr
        · rw [if_neg (by rintro (h1 | h1 | h1); exact h1 hm; exact hn h1; exact hr h1.2)] at h
          exact take11_some a b side n ini x y _ q w ha hb (hide hm) (by omega) (hide rfl) (by omega) (hide h)
  · rw [if_pos (.inl hm)] at h
    obtain ⟨rfl, rfl, rfl⟩ : 0 = x ∧ 0 = y ∧ false = q := by simpa using h
    exact take11_may a b side n ini w ha hb (hide hm)

set_option maxRecDepth 10000 in
theorem take14_may (a b side n ini : Int) (w : World) (ha : Hid (Am a)) (hb : Hid (Am b)) (hm : Hid (¬ mayS side ini)) : Calls Try.prog 14 #[.agg #[.int .i64 a, .int .i64 b], .int .i64 side, .int .i64 n, .int .i64 ini] w (PPost 0 0 false w) := by
  go_enter Try.func14, Try.ntmps14
  go_wp2_with fail
  refine (may17_no side ini _ hm.out).mono ?_
  rintro e w1 ⟨rfl, hw⟩
  have hb1 : Below ((w.alloc (.cells #[.int .i64 a, .int .i64 b] 28)).alloc (.cells #[.int .i64 0, .int .i64 0] 28)).heap.size ((w.alloc (.cells #[.int .i64 a, .int .i64 b] 28)).alloc (.cells #[.int .i64 0, .int .i64 0] 28)) w1 := by rw [← hw]; exact Below.refl _ _
  clear hw
  have B1 := ((Blk.born w 28 #[.int .i64 a, .int .i64 b]).alloc (.cells #[.int .i64 0, .int .i64 0] 28)).kept hb1
  have R1 : Blk w1 (w.heap.size + 1) 28 #[.int .i64 0, .int .i64 0] := by have := (Blk.born (w.alloc (.cells #[.int .i64 a, .int .i64 b] 28)) 28 #[.int .i64 0, .int .i64 0]).kept hb1; simpa using this
  have k0 : w1.cell? ⟨w.heap.size, 0, none⟩ = some (.int .i64 a) := B1.cell 0
  have k1 : w1.cell? ⟨w.heap.size, 1, none⟩ = some (.int .i64 b) := B1.cell 1
  have c0 : w1.cell? ⟨w.heap.size + 1, 0, none⟩ = some (.int .i64 0) := R1.cell 0
  have f0 : w1.frozen? ⟨w.heap.size + 1, 0, none⟩ = false := R1.free 0
  have c1 : w1.cell? ⟨w.heap.size + 1, 1, none⟩ = some (.int .i64 0) := R1.cell 1
  have f1 : w1.frozen? ⟨w.heap.size + 1, 1, none⟩ = false := R1.free 1
  have HW1 := hide (below_base2 hb1)
  clear hb1
  go_wp2_with fail
  have RR := ((R1.store 0 (.int .i64 0)).store 1 (.int .i64 0))
  have d0 := RR.cell 0
  have d1 := RR.cell 1
  refine bodyPost_ret (v := .tuple #[.agg #[.int .i64 0, .int .i64 0], .bool false]) (by simp [results, Try.results14, go_sem, d0, d1]) rfl ⟨rfl, ?_⟩
  exact ((HW1.out.setCell (by simp) (.int .i64 0)).setCell (by simp) (.int .i64 0))

set_option maxRecDepth 10000 in
theorem take14_neg (a b side n ini : Int) (w : World) (ha : Hid (Am a)) (hb : Hid (Am b)) (hm : Hid (mayS side ini)) (hn : n < 0) : Calls Try.prog 14 #[.agg #[.int .i64 a, .int .i64 b], .int .i64 side, .int .i64 n, .int .i64 ini] w (PPost 0 0 false w) := by
  go_enter Try.func14, Try.ntmps14
  go_wp2_with fail
  refine (may17_yes side ini _ hm.out).mono ?_
  rintro e w1 ⟨rfl, hw⟩
  have hb1 : Below ((w.alloc (.cells #[.int .i64 a, .int .i64 b] 28)).alloc (.cells #[.int .i64 0, .int .i64 0] 28)).heap.size ((w.alloc (.cells #[.int .i64 a, .int .i64 b] 28)).alloc (.cells #[.int .i64 0, .int .i64 0] 28)) w1 := by rw [← hw]; exact Below.refl _ _
  clear hw
  have B1 := ((Blk.born w 28 #[.int .i64 a, .int .i64 b]).alloc (.cells #[.int .i64 0, .int .i64 0] 28)).kept hb1
  have R1 : Blk w1 (w.heap.size + 1) 28 #[.int .i64 0, .int .i64 0] := by have := (Blk.born (w.alloc (.cells #[.int .i64 a, .int .i64 b] 28)) 28 #[.int .i64 0, .int .i64 0]).kept hb1; simpa using this
  have k0 : w1.cell? ⟨w.heap.size, 0, none⟩ = some (.int .i64 a) := B1.cell 0
  have k1 : w1.cell? ⟨w.heap.size, 1, none⟩ = some (.int .i64 b) := B1.cell 1
  have c0 : w1.cell? ⟨w.heap.size + 1, 0, none⟩ = some (.int .i64 0) := R1.cell 0
  have f0 : w1.frozen? ⟨w.heap.size + 1, 0, none⟩ = false := R1.free 0
  have c1 : w1.cell? ⟨w.heap.size + 1, 1, none⟩ = some (.int .i64 0) := R1.cell 1
  have f1 : w1.frozen? ⟨w.heap.size + 1, 1, none⟩ = false := R1.free 1
  have HW1 := hide (below_base2 hb1)
  clear hb1
  go_wp2_with fail
  have RR := ((R1.store 0 (.int .i64 0)).store 1 (.int .i64 0))
  have d0 := RR.cell 0
  have d1 := RR.cell 1
  refine bodyPost_ret (v := .tuple #[.agg #[.int .i64 0, .int .i64 0], .bool false]) (by simp [results, Try.results14, go_sem, d0, d1]) rfl ⟨rfl, ?_⟩
  exact ((HW1.out.setCell (by simp) (.int .i64 0)).setCell (by simp) (.int .i64 0))

set_option maxRecDepth 10000 in
theorem take14_zero (a b side n ini x y : Int) (q : Bool) (w : World) (ha : Hid (Am a)) (hb : Hid (Am b)) (hm : Hid (mayS side ini)) (hn0 : n = 0) (hq : Hid (moveS a b side 0 = (x, y, q))) : Calls Try.prog 14 #[.agg #[.int .i64 a, .int .i64 b], .int .i64 side, .int .i64 n, .int .i64 ini] w (PPost x y q w) := by
  subst hn0
  have hs := hide hm.out.1
  go_enter Try.func14, Try.ntmps14
  go_wp2_with fail
  refine (may17_yes side ini _ hm.out).mono ?_
  rintro e w1 ⟨rfl, hw⟩
  have hb1 : Below ((w.alloc (.cells #[.int .i64 a, .int .i64 b] 28)).alloc (.cells #[.int .i64 0, .int .i64 0] 28)).heap.size ((w.alloc (.cells #[.int .i64 a, .int .i64 b] 28)).alloc (.cells #[.int .i64 0, .int .i64 0] 28)) w1 := by rw [← hw]; exact Below.refl _ _
  clear hw
  have B1 := ((Blk.born w 28 #[.int .i64 a, .int .i64 b]).alloc (.cells #[.int .i64 0, .int .i64 0] 28)).kept hb1
  have R1 : Blk w1 (w.heap.size + 1) 28 #[.int .i64 0, .int .i64 0] := by have := (Blk.born (w.alloc (.cells #[.int .i64 a, .int .i64 b] 28)) 28 #[.int .i64 0, .int .i64 0]).kept hb1; simpa using this
  have k0 : w1.cell? ⟨w.heap.size, 0, none⟩ = some (.int .i64 a) := B1.cell 0
  have k1 : w1.cell? ⟨w.heap.size, 1, none⟩ = some (.int .i64 b) := B1.cell 1
  have c0 : w1.cell? ⟨w.heap.size + 1, 0, none⟩ = some (.int .i64 0) := R1.cell 0
  have f0 : w1.frozen? ⟨w.heap.size + 1, 0, none⟩ = false := R1.free 0
  have c1 : w1.cell? ⟨w.heap.size + 1, 1, none⟩ = some (.int .i64 0) := R1.cell 1
  have f1 : w1.frozen? ⟨w.heap.size + 1, 1, none⟩ = false := R1.free 1
  have HW1 := hide (below_base2 hb1)
  clear hb1
  go_wp2_with fail
  obtain ⟨e0, HB0, hc0, _, _⟩ := both_move a b side (0) x y q ha.out hb.out hs.out hq.out
  have HBT := hide HB0.2
  have he : Hid ((e0 == 0) = q) := hide (by rcases hc0 with ⟨h1, _, _, h2⟩ | ⟨h1, h2⟩ <;> simp [h1, h2])
  clear HB0 hc0
  refine (HBT.out _).mono ?_
  rintro e w3 ⟨rfl, hb3⟩
  have B3 := B1.kept hb3
  have R3 := R1.kept hb3
  have HW3 := hide (below_next HW1.out hb3)
  clear k0 k1 c0 f0 c1 f1
  have k0 : w3.cell? ⟨w.heap.size, 0, none⟩ = some (.int .i64 a) := B3.cell 0
  have k1 : w3.cell? ⟨w.heap.size, 1, none⟩ = some (.int .i64 b) := B3.cell 1
  have c0 : w3.cell? ⟨w.heap.size + 1, 0, none⟩ = some (.int .i64 0) := R3.cell 0
  have f0 : w3.frozen? ⟨w.heap.size + 1, 0, none⟩ = false := R3.free 0
  have c1 : w3.cell? ⟨w.heap.size + 1, 1, none⟩ = some (.int .i64 0) := R3.cell 1
  have f1 : w3.frozen? ⟨w.heap.size + 1, 1, none⟩ = false := R3.free 1
  clear hb3
  have hl3 : w.heap.size + 1 < w3.heap.size := R3.lt
  have he' := he.out
  go_wp2_with fail
  have RR := ((R3.store 0 (.int .i64 x)).store 1 (.int .i64 y)).alloc (.cells #[.int .i64 x, .int .i64 y] 28)
  have d0 := RR.cell 0
  have d1 := RR.cell 1
  refine bodyPost_ret (v := .tuple #[.agg #[.int .i64 x, .int .i64 y], .bool q]) (by simp [results, Try.results14, go_sem, d0, d1]) rfl ⟨rfl, ?_⟩
  exact (((HW3.out.setCell (by simp) _).setCell (by simp) _).alloc (by simpa using HW3.out.size) _)

set_option maxRecDepth 10000 in
theorem take14_much (a b side n ini r : Int) (w : World) (ha : Hid (Am a)) (hb : Hid (Am b)) (hm : Hid (mayS side ini)) (hn : 0 < n) (hr : Hid (roomS a b side ini = r)) (hrn : r < n) : Calls Try.prog 14 #[.agg #[.int .i64 a, .int .i64 b], .int .i64 side, .int .i64 n, .int .i64 ini] w (PPost 0 0 false w) := by
  go_enter Try.func14, Try.ntmps14
  go_wp2_with fail
  refine (may17_yes side ini _ hm.out).mono ?_
  rintro e w1 ⟨rfl, hw⟩
  have hb1 : Below ((w.alloc (.cells #[.int .i64 a, .int .i64 b] 28)).alloc (.cells #[.int .i64 0, .int .i64 0] 28)).heap.size ((w.alloc (.cells #[.int .i64 a, .int .i64 b] 28)).alloc (.cells #[.int .i64 0, .int .i64 0] 28)) w1 := by rw [← hw]; exact Below.refl _ _
  clear hw
  have B1 := ((Blk.born w 28 #[.int .i64 a, .int .i64 b]).alloc (.cells #[.int .i64 0, .int .i64 0] 28)).kept hb1
  have R1 : Blk w1 (w.heap.size + 1) 28 #[.int .i64 0, .int .i64 0] := by have := (Blk.born (w.alloc (.cells #[.int .i64 a, .int .i64 b] 28)) 28 #[.int .i64 0, .int .i64 0]).kept hb1; simpa using this
  have k0 : w1.cell? ⟨w.heap.size, 0, none⟩ = some (.int .i64 a) := B1.cell 0
  have k1 : w1.cell? ⟨w.heap.size, 1, none⟩ = some (.int .i64 b) := B1.cell 1
  have c0 : w1.cell? ⟨w.heap.size + 1, 0, none⟩ = some (.int .i64 0) := R1.cell 0
  have f0 : w1.frozen? ⟨w.heap.size + 1, 0, none⟩ = false := R1.free 0
  have c1 : w1.cell? ⟨w.heap.size + 1, 1, none⟩ = some (.int .i64 0) := R1.cell 1
  have f1 : w1.frozen? ⟨w.heap.size + 1, 1, none⟩ = false := R1.free 1
  have HW1 := hide (below_base2 hb1)
  clear hb1
  go_wp2_with fail
  refine (room10_q a b side ini r _ ha hb hr).mono ?_
  rintro e w2 ⟨rfl, hb2⟩
  have B2 := B1.kept hb2
  have R2 := R1.kept hb2
  have HW2 := hide (below_next HW1.out hb2)
  clear k0 k1 c0 f0 c1 f1
  have k0 : w2.cell? ⟨w.heap.size, 0, none⟩ = some (.int .i64 a) := B2.cell 0
  have k1 : w2.cell? ⟨w.heap.size, 1, none⟩ = some (.int .i64 b) := B2.cell 1
  have c0 : w2.cell? ⟨w.heap.size + 1, 0, none⟩ = some (.int .i64 0) := R2.cell 0
  have f0 : w2.frozen? ⟨w.heap.size + 1, 0, none⟩ = false := R2.free 0
  have c1 : w2.cell? ⟨w.heap.size + 1, 1, none⟩ = some (.int .i64 0) := R2.cell 1
  have f1 : w2.frozen? ⟨w.heap.size + 1, 1, none⟩ = false := R2.free 1
  clear hb2
  go_wp2_with fail
  have RR := ((R2.store 0 (.int .i64 0)).store 1 (.int .i64 0))
  have d0 := RR.cell 0
  have d1 := RR.cell 1
  refine bodyPost_ret (v := .tuple #[.agg #[.int .i64 0, .int .i64 0], .bool false]) (by simp [results, Try.results14, go_sem, d0, d1]) rfl ⟨rfl, ?_⟩
  exact ((HW2.out.setCell (by simp) (.int .i64 0)).setCell (by simp) (.int .i64 0))

set_option maxRecDepth 10000 in
theorem take14_some (a b side n ini x y r : Int) (q : Bool) (w : World) (ha : Hid (Am a)) (hb : Hid (Am b)) (hm : Hid (mayS side ini)) (hn : 0 < n) (hr : Hid (roomS a b side ini = r)) (hrn : n ≤ r) (hq : Hid (moveS a b side (-n) = (x, y, q))) : Calls Try.prog 14 #[.agg #[.int .i64 a, .int .i64 b], .int .i64 side, .int .i64 n, .int .i64 ini] w (PPost x y q w) := by
  have hs := hide hm.out.1
  have hrb := (room_bound ha.out hb.out hr.out).2
  go_enter Try.func14, Try.ntmps14
  go_wp2_with fail
  refine (may17_yes side ini _ hm.out).mono ?_
  rintro e w1 ⟨rfl, hw⟩
  have hb1 : Below ((w.alloc (.cells #[.int .i64 a, .int .i64 b] 28)).alloc (.cells #[.int .i64 0, .int .i64 0] 28)).heap.size ((w.alloc (.cells #[.int .i64 a, .int .i64 b] 28)).alloc (.cells #[.int .i64 0, .int .i64 0] 28)) w1 := by rw [← hw]; exact Below.refl _ _
  clear hw
  have B1 := ((Blk.born w 28 #[.int .i64 a, .int .i64 b]).alloc (.cells #[.int .i64 0, .int .i64 0] 28)).kept hb1
  have R1 : Blk w1 (w.heap.size + 1) 28 #[.int .i64 0, .int .i64 0] := by have := (Blk.born (w.alloc (.cells #[.int .i64 a, .int .i64 b] 28)) 28 #[.int .i64 0, .int .i64 0]).kept hb1; simpa using this
  have k0 : w1.cell? ⟨w.heap.size, 0, none⟩ = some (.int .i64 a) := B1.cell 0
  have k1 : w1.cell? ⟨w.heap.size, 1, none⟩ = some (.int .i64 b) := B1.cell 1
  have c0 : w1.cell? ⟨w.heap.size + 1, 0, none⟩ = some (.int .i64 0) := R1.cell 0
  have f0 : w1.frozen? ⟨w.heap.size + 1, 0, none⟩ = false := R1.free 0
  have c1 : w1.cell? ⟨w.heap.size + 1, 1, none⟩ = some (.int .i64 0) := R1.cell 1
  have f1 : w1.frozen? ⟨w.heap.size + 1, 1, none⟩ = false := R1.free 1
  have HW1 := hide (below_base2 hb1)
  clear hb1
  go_wp2_with fail
  refine (room10_q a b side ini r _ ha hb hr).mono ?_
  rintro e w2 ⟨rfl, hb2⟩
  have B2 := B1.kept hb2
  have R2 := R1.kept hb2
  have HW2 := hide (below_next HW1.out hb2)
  clear k0 k1 c0 f0 c1 f1
  have k0 : w2.cell? ⟨w.heap.size, 0, none⟩ = some (.int .i64 a) := B2.cell 0
  have k1 : w2.cell? ⟨w.heap.size, 1, none⟩ = some (.int .i64 b) := B2.cell 1
  have c0 : w2.cell? ⟨w.heap.size + 1, 0, none⟩ = some (.int .i64 0) := R2.cell 0
  have f0 : w2.frozen? ⟨w.heap.size + 1, 0, none⟩ = false := R2.free 0
  have c1 : w2.cell? ⟨w.heap.size + 1, 1, none⟩ = some (.int .i64 0) := R2.cell 1
  have f1 : w2.frozen? ⟨w.heap.size + 1, 1, none⟩ = false := R2.free 1
  clear hb2
  go_wp2_with fail
  obtain ⟨e0, HB0, hc0, _, _⟩ := both_move a b side (-n) x y q ha.out hb.out hs.out hq.out
  have HBT := hide HB0.2
  have he : Hid ((e0 == 0) = q) := hide (by rcases hc0 with ⟨h1, _, _, h2⟩ | ⟨h1, h2⟩ <;> simp [h1, h2])
  clear HB0 hc0
  refine (HBT.out _).mono ?_
  rintro e w3 ⟨rfl, hb3⟩
  have B3 := B2.kept hb3
  have R3 := R2.kept hb3
  have HW3 := hide (below_next HW2.out hb3)
  clear k0 k1 c0 f0 c1 f1
  have k0 : w3.cell? ⟨w.heap.size, 0, none⟩ = some (.int .i64 a) := B3.cell 0
  have k1 : w3.cell? ⟨w.heap.size, 1, none⟩ = some (.int .i64 b) := B3.cell 1
  have c0 : w3.cell? ⟨w.heap.size + 1, 0, none⟩ = some (.int .i64 0) := R3.cell 0
  have f0 : w3.frozen? ⟨w.heap.size + 1, 0, none⟩ = false := R3.free 0
  have c1 : w3.cell? ⟨w.heap.size + 1, 1, none⟩ = some (.int .i64 0) := R3.cell 1
  have f1 : w3.frozen? ⟨w.heap.size + 1, 1, none⟩ = false := R3.free 1
  clear hb3
  have hl3 : w.heap.size + 1 < w3.heap.size := R3.lt
  have he' := he.out
  go_wp2_with fail
  have RR := ((R3.store 0 (.int .i64 x)).store 1 (.int .i64 y)).alloc (.cells #[.int .i64 x, .int .i64 y] 28)
  have d0 := RR.cell 0
  have d1 := RR.cell 1
  refine bodyPost_ret (v := .tuple #[.agg #[.int .i64 x, .int .i64 y], .bool q]) (by simp [results, Try.results14, go_sem, d0, d1]) rfl ⟨rfl, ?_⟩
  exact (((HW3.out.setCell (by simp) _).setCell (by simp) _).alloc (by simpa using HW3.out.size) _)

theorem take14 (a b side n ini x y : Int) (q : Bool) (w : World) (ha : Hid (Am a)) (hb : Hid (Am b)) (h : Hid (takeS a b side n ini = (x, y, q))) : Calls Try.prog 14 #[.agg #[.int .i64 a, .int .i64 b], .int .i64 side, .int .i64 n, .int .i64 ini] w (PPost x y q w) := by
  have h := h.out
  unfold takeS at h
  by_cases hm : mayS side ini
  · by_cases hn : n < 0
    · rw [if_pos (.inr (.inl hn))] at h
      obtain ⟨rfl, rfl, rfl⟩ : 0 = x ∧ 0 = y ∧ false = q := by simpa using h
      exact take14_neg a b side n ini w ha hb (hide hm) hn
    · by_cases h0 : n = 0
      · subst h0
        rw [if_neg (by simp [hm])] at h
        exact take14_zero a b side 0 ini x y q w ha hb (hide hm) rfl (hide h)
      · by_cases hr : roomS a b side ini < n
        · rw [if_pos (.inr (.inr ⟨by omega, hr⟩))] at h
          obtain ⟨rfl, rfl, rfl⟩ : 0 = x ∧ 0 = y ∧ false = q := by simpa using h
          exact take14_much a b side n ini _ w ha hb (hide hm) (by omega) (hide rfl) hr
        · rw [if_neg (by rintro (h1 | h1 | h1); exact h1 hm; exact hn h1; exact hr h1.2)] at h
          exact take14_some a b side n ini x y _ q w ha hb (hide hm) (by omega) (hide rfl) (by omega) (hide h)
  · rw [if_pos (.inl hm)] at h
    obtain ⟨rfl, rfl, rfl⟩ : 0 = x ∧ 0 = y ∧ false = q := by simpa using h
    exact take14_may a b side n ini w ha hb (hide hm)

set_option maxRecDepth 10000 in
theorem give12_may (a b side n ini : Int) (w : World) (ha : Hid (Am a)) (hb : Hid (Am b)) (hm : Hid (¬ mayS side ini)) : Calls Try.prog 12 #[.agg #[.complex .f64 (fw a) (fw b)], .int .i64 side, .int .i64 n, .int .i64 ini] w (WPost 0 0 false w) := by
  have hst := st_cx
  go_enter Try.func12, Try.ntmps12
  go_wp2_with fail
  refine (may16_no side ini _ hm.out).mono ?_
  rintro e w1 ⟨rfl, hw⟩
  have hb1 : Below ((w.alloc (.cells #[.complex .f64 (fw a) (fw b)] 26)).alloc (.cells #[.complex .f64 0 0] 26)).heap.size ((w.alloc (.cells #[.complex .f64 (fw a) (fw b)] 26)).alloc (.cells #[.complex .f64 0 0] 26)) w1 := by rw [← hw]; exact Below.refl _ _
  clear hw
  have B1 := ((Blk.born w 26 #[.complex .f64 (fw a) (fw b)]).alloc (.cells #[.complex .f64 0 0] 26)).kept hb1
  have R1 : Blk w1 (w.heap.size + 1) 26 #[.complex .f64 0 0] := by have := (Blk.born (w.alloc (.cells #[.complex .f64 (fw a) (fw b)] 26)) 26 #[.complex .f64 0 0]).kept hb1; simpa using this
  have k0 : w1.cell? ⟨w.heap.size, 0, none⟩ = some (.complex .f64 (fw a) (fw b)) := B1.cell 0
  have c0 : w1.cell? ⟨w.heap.size + 1, 0, none⟩ = some (.complex .f64 0 0) := R1.cell 0
  have f0 : w1.frozen? ⟨w.heap.size + 1, 0, none⟩ = false := R1.free 0
  have HW1 := hide (below_base2 hb1)
  clear hb1
  go_wp2_with fail
  have RR := (R1.store 0 (.complex .f64 0 0))
  have d0 := RR.cell 0
  refine bodyPost_ret (v := .tuple #[.agg #[.complex .f64 0 0], .bool false]) (by simp [results, Try.results12, go_sem, d0]) rfl ⟨by rw [fw_zero], ?_⟩
  exact (HW1.out.setCell (by simp) (.complex .f64 0 0))

set_option maxRecDepth 10000 in
theorem give12_neg (a b side n ini : Int) (w : World) (ha : Hid (Am a)) (hb : Hid (Am b)) (hm : Hid (mayS side ini)) (hn : n < 0) : Calls Try.prog 12 #[.agg #[.complex .f64 (fw a) (fw b)], .int .i64 side, .int .i64 n, .int .i64 ini] w (WPost 0 0 false w) := by
  have hst := st_cx
  go_enter Try.func12, Try.ntmps12
  go_wp2_with fail
  refine (may16_yes side ini _ hm.out).mono ?_
  rintro e w1 ⟨rfl, hw⟩
  have hb1 : Below ((w.alloc (.cells #[.complex .f64 (fw a) (fw b)] 26)).alloc (.cells #[.complex .f64 0 0] 26)).heap.size ((w.alloc (.cells #[.complex .f64 (fw a) (fw b)] 26)).alloc (.cells #[.complex .f64 0 0] 26)) w1 := by rw [← hw]; exact Below.refl _ _
  clear hw
  have B1 := ((Blk.born w 26 #[.complex .f64 (fw a) (fw b)]).alloc (.cells #[.complex .f64 0 0] 26)).kept hb1
  have R1 : Blk w1 (w.heap.size + 1) 26 #[.complex .f64 0 0] := by have := (Blk.born (w.alloc (.cells #[.complex .f64 (fw a) (fw b)] 26)) 26 #[.complex .f64 0 0]).kept hb1; simpa using this
  have k0 : w1.cell? ⟨w.heap.size, 0, none⟩ = some (.complex .f64 (fw a) (fw b)) := B1.cell 0
  have c0 : w1.cell? ⟨w.heap.size + 1, 0, none⟩ = some (.complex .f64 0 0) := R1.cell 0
  have f0 : w1.frozen? ⟨w.heap.size + 1, 0, none⟩ = false := R1.free 0
  have HW1 := hide (below_base2 hb1)
  clear hb1
  go_wp2_with fail
  have RR := (R1.store 0 (.complex .f64 0 0))
  have d0 := RR.cell 0
  refine bodyPost_ret (v := .tuple #[.agg #[.complex .f64 0 0], .bool false]) (by simp [results, Try.results12, go_sem, d0]) rfl ⟨by rw [fw_zero], ?_⟩
  exact (HW1.out.setCell (by simp) (.complex .f64 0 0))

set_option maxRecDepth 10000 in
theorem give12_much (a b side n ini r : Int) (w : World) (ha : Hid (Am a)) (hb : Hid (Am b)) (hm : Hid (mayS side ini)) (hn : 0 ≤ n) (hr : Hid (roomS a b side ini = r)) (hrn : 2147483647 - r < n) : Calls Try.prog 12 #[.agg #[.complex .f64 (fw a) (fw b)], .int .i64 side, .int .i64 n, .int .i64 ini] w (WPost 0 0 false w) := by
  have hrb := room_bound ha.out hb.out hr.out
  obtain ⟨hr1, hr2⟩ := hrb
  have hst := st_cx
  go_enter Try.func12, Try.ntmps12
  go_wp2_with fail
  refine (may16_yes side ini _ hm.out).mono ?_
  rintro e w1 ⟨rfl, hw⟩
  have hb1 : Below ((w.alloc (.cells #[.complex .f64 (fw a) (fw b)] 26)).alloc (.cells #[.complex .f64 0 0] 26)).heap.size ((w.alloc (.cells #[.complex .f64 (fw a) (fw b)] 26)).alloc (.cells #[.complex .f64 0 0] 26)) w1 := by rw [← hw]; exact Below.refl _ _
  clear hw
  have B1 := ((Blk.born w 26 #[.complex .f64 (fw a) (fw b)]).alloc (.cells #[.complex .f64 0 0] 26)).kept hb1
  have R1 : Blk w1 (w.heap.size + 1) 26 #[.complex .f64 0 0] := by have := (Blk.born (w.alloc (.cells #[.complex .f64 (fw a) (fw b)] 26)) 26 #[.complex .f64 0 0]).kept hb1; simpa using this
  have k0 : w1.cell? ⟨w.heap.size, 0, none⟩ = some (.complex .f64 (fw a) (fw b)) := B1.cell 0
  have c0 : w1.cell? ⟨w.heap.size + 1, 0, none⟩ = some (.complex .f64 0 0) := R1.cell 0
  have f0 : w1.frozen? ⟨w.heap.size + 1, 0, none⟩ = false := R1.free 0
  have HW1 := hide (below_base2 hb1)
  clear hb1
  go_wp2_with fail
  refine (room9_q a b side ini r _ ha hb hr).mono ?_
  rintro e w2 ⟨rfl, hb2⟩
  have B2 := B1.kept hb2
  have R2 := R1.kept hb2
  have HW2 := hide (below_next HW1.out hb2)
  clear k0 c0 f0
  have k0 : w2.cell? ⟨w.heap.size, 0, none⟩ = some (.complex .f64 (fw a) (fw b)) := B2.cell 0
  have c0 : w2.cell? ⟨w.heap.size + 1, 0, none⟩ = some (.complex .f64 0 0) := R2.cell 0
  have f0 : w2.frozen? ⟨w.heap.size + 1, 0, none⟩ = false := R2.free 0
  clear hb2
  go_wp2_with fail
  have RR := (R2.store 0 (.complex .f64 0 0))
  have d0 := RR.cell 0
  refine bodyPost_ret (v := .tuple #[.agg #[.complex .f64 0 0], .bool false]) (by simp [results, Try.results12, go_sem, d0]) rfl ⟨by rw [fw_zero], ?_⟩
  exact (HW2.out.setCell (by simp) (.complex .f64 0 0))

set_option maxRecDepth 10000 in
theorem give12_some (a b side n ini x y r : Int) (q : Bool) (w : World) (ha : Hid (Am a)) (hb : Hid (Am b)) (hm : Hid (mayS side ini)) (hn : 0 ≤ n) (hr : Hid (roomS a b side ini = r)) (hrn : n ≤ 2147483647 - r) (hq : Hid (moveS a b side n = (x, y, q))) : Calls Try.prog 12 #[.agg #[.complex .f64 (fw a) (fw b)], .int .i64 side, .int .i64 n, .int .i64 ini] w (WPost x y q w) := by
  have hs := hide hm.out.1
  obtain ⟨hr1, hr2⟩ := room_bound ha.out hb.out hr.out
  have hst := st_cx
  go_enter Try.func12, Try.ntmps12
  go_wp2_with fail
  refine (may16_yes side ini _ hm.out).mono ?_
  rintro e w1 ⟨rfl, hw⟩
  have hb1 : Below ((w.alloc (.cells #[.complex .f64 (fw a) (fw b)] 26)).alloc (.cells #[.complex .f64 0 0] 26)).heap.size ((w.alloc (.cells #[.complex .f64 (fw a) (fw b)] 26)).alloc (.cells #[.complex .f64 0 0] 26)) w1 := by rw [← hw]; exact Below.refl _ _
  clear hw
  have B1 := ((Blk.born w 26 #[.complex .f64 (fw a) (fw b)]).alloc (.cells #[.complex .f64 0 0] 26)).kept hb1
  have R1 : Blk w1 (w.heap.size + 1) 26 #[.complex .f64 0 0] := by have := (Blk.born (w.alloc (.cells #[.complex .f64 (fw a) (fw b)] 26)) 26 #[.complex .f64 0 0]).kept hb1; simpa using this
  have k0 : w1.cell? ⟨w.heap.size, 0, none⟩ = some (.complex .f64 (fw a) (fw b)) := B1.cell 0
  have c0 : w1.cell? ⟨w.heap.size + 1, 0, none⟩ = some (.complex .f64 0 0) := R1.cell 0
  have f0 : w1.frozen? ⟨w.heap.size + 1, 0, none⟩ = false := R1.free 0
  have HW1 := hide (below_base2 hb1)
  clear hb1
  go_wp2_with fail
  refine (room9_q a b side ini r _ ha hb hr).mono ?_
  rintro e w2 ⟨rfl, hb2⟩
  have B2 := B1.kept hb2
  have R2 := R1.kept hb2
  have HW2 := hide (below_next HW1.out hb2)
  clear k0 c0 f0
  have k0 : w2.cell? ⟨w.heap.size, 0, none⟩ = some (.complex .f64 (fw a) (fw b)) := B2.cell 0
  have c0 : w2.cell? ⟨w.heap.size + 1, 0, none⟩ = some (.complex .f64 0 0) := R2.cell 0
  have f0 : w2.frozen? ⟨w.heap.size + 1, 0, none⟩ = false := R2.free 0
  clear hb2
  go_wp2_with fail
  refine (mv19 a b side (n) x y q _ ha hb hs hq).mono ?_
  rintro e w3 ⟨rfl, hb3⟩
  have B3 := B2.kept hb3
  have R3 := R2.kept hb3
  have HW3 := hide (below_next HW2.out hb3)
  clear k0 c0 f0
  have k0 : w3.cell? ⟨w.heap.size, 0, none⟩ = some (.complex .f64 (fw a) (fw b)) := B3.cell 0
  have c0 : w3.cell? ⟨w.heap.size + 1, 0, none⟩ = some (.complex .f64 0 0) := R3.cell 0
  have f0 : w3.frozen? ⟨w.heap.size + 1, 0, none⟩ = false := R3.free 0
  clear hb3
  go_wp2_with fail
  have d0 := (R3.store 0 (.complex .f64 (fw x) (fw y))).cell 0
  refine bodyPost_ret (v := .tuple #[.agg #[.complex .f64 (fw x) (fw y)], .bool q]) (by simp [results, Try.results12, go_sem, d0]) rfl ⟨rfl, ?_⟩
  exact (HW3.out.setCell (by simp) (.complex .f64 (fw x) (fw y)))

theorem give12 (a b side n ini x y : Int) (q : Bool) (w : World) (ha : Hid (Am a)) (hb : Hid (Am b)) (h : Hid (giveS a b side n ini = (x, y, q))) : Calls Try.prog 12 #[.agg #[.complex .f64 (fw a) (fw b)], .int .i64 side, .int .i64 n, .int .i64 ini] w (WPost x y q w) := by
  have h := h.out
  unfold giveS at h
  by_cases hm : mayS side ini
  · by_cases hn : n < 0
    · rw [if_pos (.inr (.inl hn))] at h
      obtain ⟨rfl, rfl, rfl⟩ : 0 = x ∧ 0 = y ∧ false = q := by simpa using h
      exact give12_neg a b side n ini w ha hb (hide hm) hn
    · by_cases hr : 2147483647 - roomS a b side ini < n
      · rw [if_pos (.inr (.inr hr))] at h
        obtain ⟨rfl, rfl, rfl⟩ : 0 = x ∧ 0 = y ∧ false = q := by simpa using h
        exact give12_much a b side n ini _ w ha hb (hide hm) (by omega) (hide rfl) hr
      · rw [if_neg (by rintro (h1 | h1 | h1); exact h1 hm; exact hn h1; exact hr h1)] at h
        exact give12_some a b side n ini x y _ q w ha hb (hide hm) (by omega) (hide rfl) (by omega) (hide h)
  · rw [if_pos (.inl hm)] at h
    obtain ⟨rfl, rfl, rfl⟩ : 0 = x ∧ 0 = y ∧ false = q := by simpa using h
    exact give12_may a b side n ini w ha hb (hide hm)

set_option maxRecDepth 10000 in
theorem give13_may (a b side n ini : Int) (w : World) (ha : Hid (Am a)) (hb : Hid (Am b)) (hm : Hid (¬ mayS side ini)) : Calls Try.prog 13 #[.agg #[.int .i64 a, .int .i64 b], .int .i64 side, .int .i64 n, .int .i64 ini] w (PPost 0 0 false w) := by
  go_enter Try.func13, Try.ntmps13
  go_wp2_with fail
  refine (may17_no side ini _ hm.out).mono ?_
  rintro e w1 ⟨rfl, hw⟩
  have hb1 : Below ((w.alloc (.cells #[.int .i64 a, .int .i64 b] 28)).alloc (.cells #[.int .i64 0, .int .i64 0] 28)).heap.size ((w.alloc (.cells #[.int .i64 a, .int .i64 b] 28)).alloc (.cells #[.int .i64 0, .int .i64 0] 28)) w1 := by rw [← hw]; exact Below.refl _ _
  clear hw
  have B1 := ((Blk.born w 28 #[.int .i64 a, .int .i64 b]).alloc (.cells #[.int .i64 0, .int .i64 0] 28)).kept hb1
  have R1 : Blk w1 (w.heap.size + 1) 28 #[.int .i64 0, .int .i64 0] := by have := (Blk.born (w.alloc (.cells #[.int .i64 a, .int .i64 b] 28)) 28 #[.int .i64 0, .int .i64 0]).kept hb1; simpa using this
  have k0 : w1.cell? ⟨w.heap.size, 0, none⟩ = some (.int .i64 a) := B1.cell 0
  have k1 : w1.cell? ⟨w.heap.size, 1, none⟩ = some (.int .i64 b) := B1.cell 1
  have c0 : w1.cell? ⟨w.heap.size + 1, 0, none⟩ = some (.int .i64 0) := R1.cell 0
  have f0 : w1.frozen? ⟨w.heap.size + 1, 0, none⟩ = false := R1.free 0
  have c1 : w1.cell? ⟨w.heap.size + 1, 1, none⟩ = some (.int .i64 0) := R1.cell 1
  have f1 : w1.frozen? ⟨w.heap.size + 1, 1, none⟩ = false := R1.free 1
  have HW1 := hide (below_base2 hb1)
  clear hb1
  go_wp2_with fail
  have RR := ((R1.store 0 (.int .i64 0)).store 1 (.int .i64 0))
  have d0 := RR.cell 0
  have d1 := RR.cell 1
  refine bodyPost_ret (v := .tuple #[.agg #[.int .i64 0, .int .i64 0], .bool false]) (by simp [results, Try.results13, go_sem, d0, d1]) rfl ⟨rfl, ?_⟩
  exact ((HW1.out.setCell (by simp) (.int .i64 0)).setCell (by simp) (.int .i64 0))

set_option maxRecDepth 10000 in
theorem give13_neg (a b side n ini : Int) (w : World) (ha : Hid (Am a)) (hb : Hid (Am b)) (hm : Hid (mayS side ini)) (hn : n < 0) : Calls Try.prog 13 #[.agg #[.int .i64 a, .int .i64 b], .int .i64 side, .int .i64 n, .int .i64 ini] w (PPost 0 0 false w) := by
  go_enter Try.func13, Try.ntmps13
  go_wp2_with fail
  refine (may17_yes side ini _ hm.out).mono ?_
  rintro e w1 ⟨rfl, hw⟩
  have hb1 : Below ((w.alloc (.cells #[.int .i64 a, .int .i64 b] 28)).alloc (.cells #[.int .i64 0, .int .i64 0] 28)).heap.size ((w.alloc (.cells #[.int .i64 a, .int .i64 b] 28)).alloc (.cells #[.int .i64 0, .int .i64 0] 28)) w1 := by rw [← hw]; exact Below.refl _ _
  clear hw
  have B1 := ((Blk.born w 28 #[.int .i64 a, .int .i64 b]).alloc (.cells #[.int .i64 0, .int .i64 0] 28)).kept hb1
  have R1 : Blk w1 (w.heap.size + 1) 28 #[.int .i64 0, .int .i64 0] := by have := (Blk.born (w.alloc (.cells #[.int .i64 a, .int .i64 b] 28)) 28 #[.int .i64 0, .int .i64 0]).kept hb1; simpa using this
  have k0 : w1.cell? ⟨w.heap.size, 0, none⟩ = some (.int .i64 a) := B1.cell 0
  have k1 : w1.cell? ⟨w.heap.size, 1, none⟩ = some (.int .i64 b) := B1.cell 1
  have c0 : w1.cell? ⟨w.heap.size + 1, 0, none⟩ = some (.int .i64 0) := R1.cell 0
  have f0 : w1.frozen? ⟨w.heap.size + 1, 0, none⟩ = false := R1.free 0
  have c1 : w1.cell? ⟨w.heap.size + 1, 1, none⟩ = some (.int .i64 0) := R1.cell 1
  have f1 : w1.frozen? ⟨w.heap.size + 1, 1, none⟩ = false := R1.free 1
  have HW1 := hide (below_base2 hb1)
  clear hb1
  go_wp2_with fail
  have RR := ((R1.store 0 (.int .i64 0)).store 1 (.int .i64 0))
  have d0 := RR.cell 0
  have d1 := RR.cell 1
  refine bodyPost_ret (v := .tuple #[.agg #[.int .i64 0, .int .i64 0], .bool false]) (by simp [results, Try.results13, go_sem, d0, d1]) rfl ⟨rfl, ?_⟩
  exact ((HW1.out.setCell (by simp) (.int .i64 0)).setCell (by simp) (.int .i64 0))

set_option maxRecDepth 10000 in
theorem give13_much (a b side n ini r : Int) (w : World) (ha : Hid (Am a)) (hb : Hid (Am b)) (hm : Hid (mayS side ini)) (hn : 0 ≤ n) (hr : Hid (roomS a b side ini = r)) (hrn : 2147483647 - r < n) : Calls Try.prog 13 #[.agg #[.int .i64 a, .int .i64 b], .int .i64 side, .int .i64 n, .int .i64 ini] w (PPost 0 0 false w) := by
  have hrb := room_bound ha.out hb.out hr.out
  obtain ⟨hr1, hr2⟩ := hrb
  go_enter Try.func13, Try.ntmps13
  go_wp2_with fail
  refine (may17_yes side ini _ hm.out).mono ?_
  rintro e w1 ⟨rfl, hw⟩
  have hb1 : Below ((w.alloc (.cells #[.int .i64 a, .int .i64 b] 28)).alloc (.cells #[.int .i64 0, .int .i64 0] 28)).heap.size ((w.alloc (.cells #[.int .i64 a, .int .i64 b] 28)).alloc (.cells #[.int .i64 0, .int .i64 0] 28)) w1 := by rw [← hw]; exact Below.refl _ _
  clear hw
  have B1 := ((Blk.born w 28 #[.int .i64 a, .int .i64 b]).alloc (.cells #[.int .i64 0, .int .i64 0] 28)).kept hb1
  have R1 : Blk w1 (w.heap.size + 1) 28 #[.int .i64 0, .int .i64 0] := by have := (Blk.born (w.alloc (.cells #[.int .i64 a, .int .i64 b] 28)) 28 #[.int .i64 0, .int .i64 0]).kept hb1; simpa using this
  have k0 : w1.cell? ⟨w.heap.size, 0, none⟩ = some (.int .i64 a) := B1.cell 0
  have k1 : w1.cell? ⟨w.heap.size, 1, none⟩ = some (.int .i64 b) := B1.cell 1
  have c0 : w1.cell? ⟨w.heap.size + 1, 0, none⟩ = some (.int .i64 0) := R1.cell 0
  have f0 : w1.frozen? ⟨w.heap.size + 1, 0, none⟩ = false := R1.free 0
  have c1 : w1.cell? ⟨w.heap.size + 1, 1, none⟩ = some (.int .i64 0) := R1.cell 1
  have f1 : w1.frozen? ⟨w.heap.size + 1, 1, none⟩ = false := R1.free 1
  have HW1 := hide (below_base2 hb1)
  clear hb1
  go_wp2_with fail
  refine (room10_q a b side ini r _ ha hb hr).mono ?_
  rintro e w2 ⟨rfl, hb2⟩
  have B2 := B1.kept hb2
  have R2 := R1.kept hb2
  have HW2 := hide (below_next HW1.out hb2)
  clear k0 k1 c0 f0 c1 f1
  have k0 : w2.cell? ⟨w.heap.size, 0, none⟩ = some (.int .i64 a) := B2.cell 0
  have k1 : w2.cell? ⟨w.heap.size, 1, none⟩ = some (.int .i64 b) := B2.cell 1
  have c0 : w2.cell? ⟨w.heap.size + 1, 0, none⟩ = some (.int .i64 0) := R2.cell 0
  have f0 : w2.frozen? ⟨w.heap.size + 1, 0, none⟩ = false := R2.free 0
  have c1 : w2.cell? ⟨w.heap.size + 1, 1, none⟩ = some (.int .i64 0) := R2.cell 1
  have f1 : w2.frozen? ⟨w.heap.size + 1, 1, none⟩ = false := R2.free 1
  clear hb2
  go_wp2_with fail
  have RR := ((R2.store 0 (.int .i64 0)).store 1 (.int .i64 0))
  have d0 := RR.cell 0
  have d1 := RR.cell 1
  refine bodyPost_ret (v := .tuple #[.agg #[.int .i64 0, .int .i64 0], .bool false]) (by simp [results, Try.results13, go_sem, d0, d1]) rfl ⟨rfl, ?_⟩
  exact ((HW2.out.setCell (by simp) (.int .i64 0)).setCell (by simp) (.int .i64 0))

set_option maxRecDepth 10000 in
theorem give13_some (a b side n ini x y r : Int) (q : Bool) (w : World) (ha : Hid (Am a)) (hb : Hid (Am b)) (hm : Hid (mayS side ini)) (hn : 0 ≤ n) (hr : Hid (roomS a b side ini = r)) (hrn : n ≤ 2147483647 - r) (hq : Hid (moveS a b side n = (x, y, q))) : Calls Try.prog 13 #[.agg #[.int .i64 a, .int .i64 b], .int .i64 side, .int .i64 n, .int .i64 ini] w (PPost x y q w) := by
  have hs := hide hm.out.1
  obtain ⟨hr1, hr2⟩ := room_bound ha.out hb.out hr.out
  go_enter Try.func13, Try.ntmps13
  go_wp2_with fail
  refine (may17_yes side ini _ hm.out).mono ?_
  rintro e w1 ⟨rfl, hw⟩
  have hb1 : Below ((w.alloc (.cells #[.int .i64 a, .int .i64 b] 28)).alloc (.cells #[.int .i64 0, .int .i64 0] 28)).heap.size ((w.alloc (.cells #[.int .i64 a, .int .i64 b] 28)).alloc (.cells #[.int .i64 0, .int .i64 0] 28)) w1 := by rw [← hw]; exact Below.refl _ _
  clear hw
  have B1 := ((Blk.born w 28 #[.int .i64 a, .int .i64 b]).alloc (.cells #[.int .i64 0, .int .i64 0] 28)).kept hb1
  have R1 : Blk w1 (w.heap.size + 1) 28 #[.int .i64 0, .int .i64 0] := by have := (Blk.born (w.alloc (.cells #[.int .i64 a, .int .i64 b] 28)) 28 #[.int .i64 0, .int .i64 0]).kept hb1; simpa using this
  have k0 : w1.cell? ⟨w.heap.size, 0, none⟩ = some (.int .i64 a) := B1.cell 0
  have k1 : w1.cell? ⟨w.heap.size, 1, none⟩ = some (.int .i64 b) := B1.cell 1
  have c0 : w1.cell? ⟨w.heap.size + 1, 0, none⟩ = some (.int .i64 0) := R1.cell 0
  have f0 : w1.frozen? ⟨w.heap.size + 1, 0, none⟩ = false := R1.free 0
  have c1 : w1.cell? ⟨w.heap.size + 1, 1, none⟩ = some (.int .i64 0) := R1.cell 1
  have f1 : w1.frozen? ⟨w.heap.size + 1, 1, none⟩ = false := R1.free 1
  have HW1 := hide (below_base2 hb1)
  clear hb1
  go_wp2_with fail
  refine (room10_q a b side ini r _ ha hb hr).mono ?_
  rintro e w2 ⟨rfl, hb2⟩
  have B2 := B1.kept hb2
  have R2 := R1.kept hb2
  have HW2 := hide (below_next HW1.out hb2)
  clear k0 k1 c0 f0 c1 f1
  have k0 : w2.cell? ⟨w.heap.size, 0, none⟩ = some (.int .i64 a) := B2.cell 0
  have k1 : w2.cell? ⟨w.heap.size, 1, none⟩ = some (.int .i64 b) := B2.cell 1
  have c0 : w2.cell? ⟨w.heap.size + 1, 0, none⟩ = some (.int .i64 0) := R2.cell 0
  have f0 : w2.frozen? ⟨w.heap.size + 1, 0, none⟩ = false := R2.free 0
  have c1 : w2.cell? ⟨w.heap.size + 1, 1, none⟩ = some (.int .i64 0) := R2.cell 1
  have f1 : w2.frozen? ⟨w.heap.size + 1, 1, none⟩ = false := R2.free 1
  clear hb2
  go_wp2_with fail
  obtain ⟨e0, HB0, hc0, _, _⟩ := both_move a b side (n) x y q ha.out hb.out hs.out hq.out
  have HBT := hide HB0.2
  have he : Hid ((e0 == 0) = q) := hide (by rcases hc0 with ⟨h1, _, _, h2⟩ | ⟨h1, h2⟩ <;> simp [h1, h2])
  clear HB0 hc0
  refine (HBT.out _).mono ?_
  rintro e w3 ⟨rfl, hb3⟩
  have B3 := B2.kept hb3
  have R3 := R2.kept hb3
  have HW3 := hide (below_next HW2.out hb3)
  clear k0 k1 c0 f0 c1 f1
  have k0 : w3.cell? ⟨w.heap.size, 0, none⟩ = some (.int .i64 a) := B3.cell 0
  have k1 : w3.cell? ⟨w.heap.size, 1, none⟩ = some (.int .i64 b) := B3.cell 1
  have c0 : w3.cell? ⟨w.heap.size + 1, 0, none⟩ = some (.int .i64 0) := R3.cell 0
  have f0 : w3.frozen? ⟨w.heap.size + 1, 0, none⟩ = false := R3.free 0
  have c1 : w3.cell? ⟨w.heap.size + 1, 1, none⟩ = some (.int .i64 0) := R3.cell 1
  have f1 : w3.frozen? ⟨w.heap.size + 1, 1, none⟩ = false := R3.free 1
  clear hb3
  have hl3 : w.heap.size + 1 < w3.heap.size := R3.lt
  have he' := he.out
  go_wp2_with fail
  have RR := ((R3.store 0 (.int .i64 x)).store 1 (.int .i64 y)).alloc (.cells #[.int .i64 x, .int .i64 y] 28)
  have d0 := RR.cell 0
  have d1 := RR.cell 1
  refine bodyPost_ret (v := .tuple #[.agg #[.int .i64 x, .int .i64 y], .bool q]) (by simp [results, Try.results13, go_sem, d0, d1]) rfl ⟨rfl, ?_⟩
  exact (((HW3.out.setCell (by simp) _).setCell (by simp) _).alloc (by simpa using HW3.out.size) _)

theorem give13 (a b side n ini x y : Int) (q : Bool) (w : World) (ha : Hid (Am a)) (hb : Hid (Am b)) (h : Hid (giveS a b side n ini = (x, y, q))) : Calls Try.prog 13 #[.agg #[.int .i64 a, .int .i64 b], .int .i64 side, .int .i64 n, .int .i64 ini] w (PPost x y q w) := by
  have h := h.out
  unfold giveS at h
  by_cases hm : mayS side ini
  · by_cases hn : n < 0
    · rw [if_pos (.inr (.inl hn))] at h
      obtain ⟨rfl, rfl, rfl⟩ : 0 = x ∧ 0 = y ∧ false = q := by simpa using h
      exact give13_neg a b side n ini w ha hb (hide hm) hn
    · by_cases hr : 2147483647 - roomS a b side ini < n
      · rw [if_pos (.inr (.inr hr))] at h
        obtain ⟨rfl, rfl, rfl⟩ : 0 = x ∧ 0 = y ∧ false = q := by simpa using h
        exact give13_much a b side n ini _ w ha hb (hide hm) (by omega) (hide rfl) hr
      · rw [if_neg (by rintro (h1 | h1 | h1); exact h1 hm; exact hn h1; exact hr h1)] at h
        exact give13_some a b side n ini x y _ q w ha hb (hide hm) (by omega) (hide rfl) (by omega) (hide h)
  · rw [if_pos (.inl hm)] at h
    obtain ⟨rfl, rfl, rfl⟩ : 0 = x ∧ 0 = y ∧ false = q := by simpa using h
    exact give13_may a b side n ini w ha hb (hide hm)

end Go.Proofs.Ytphbmbenkbefhaa
