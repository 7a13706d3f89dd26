/- Contract: Move, of the reference. -/
import Derived.Test.YtphbmbenkbefhaaN
namespace Go.Proofs.Ytphbmbenkbefhaa
open Go.RowKit

def RPost (x y e0 : Int) (w : World) (e : Ending) (w' : World) : Prop := e = .returned (.tuple #[.agg #[.int .i64 x, .int .i64 y], .int .i64 e0]) ∧ Below w.heap.size w w'

set_option maxRecDepth 10000 in
theorem rmove_side (a b side n : Int) (w : World) (h0 : Hid (¬ side = 0)) (h1 : Hid (¬ side = 1)) : Calls Try.prog 20 #[.agg #[.int .i64 a, .int .i64 b], .int .i64 side, .int .i64 n] w (RPost 0 0 1 w) := by
  go_enter Try.func20, Try.ntmps20
  go_wp2_with fail
  refine (rside_out a b side _ h0.out h1.out).mono ?_
  rintro e w1 ⟨rfl, hb1⟩
  have B := ((Blk.born w 28 #[.int .i64 a, .int .i64 b]).alloc (.cells #[.int .i64 0, .int .i64 0] 28)).kept hb1
  have B2 : Blk w1 (w.heap.size + 1) 28 #[.int .i64 0, .int .i64 0] := by have := (Blk.born (w.alloc (.cells #[.int .i64 a, .int .i64 b] 28)) 28 #[.int .i64 0, .int .i64 0]).kept hb1; simpa using this
  have c0 : w1.cell? ⟨w.heap.size + 1, 0, none⟩ = some (.int .i64 0) := B2.cell 0
  have c1 : w1.cell? ⟨w.heap.size + 1, 1, none⟩ = some (.int .i64 0) := B2.cell 1
  have f0 : w1.frozen? ⟨w.heap.size + 1, 0, none⟩ = false := B2.free 0
  have f1 : w1.frozen? ⟨w.heap.size + 1, 1, none⟩ = false := B2.free 1
  have HB1 := hide (below_base2 hb1)
  clear hb1
  go_wp2_with fail
  have B3 := (B2.store 0 (.int .i64 0)).store 1 (.int .i64 0)
  have d0 := B3.cell 0
  have d1 := B3.cell 1
  refine bodyPost_ret (v := .tuple #[.agg #[.int .i64 0, .int .i64 0], .int .i64 1]) (by simp [results, Try.results20, go_sem, d0, d1]) rfl ⟨rfl, ?_⟩
  exact (HB1.out.setCell (by simp) _).setCell (by simp) _

set_option maxRecDepth 10000 in
theorem rmove_n0 (a b n : Int) (w : World) (ha : Hid (Am a)) (hb : Hid (Am b)) (hn : Hid (¬ Am n)) : Calls Try.prog 20 #[.agg #[.int .i64 a, .int .i64 b], .int .i64 0, .int .i64 n] w (RPost 0 0 5 w) := by
  go_enter Try.func20, Try.ntmps20
  go_wp2_with fail
  refine (rside_in a b 0 _ ha hb (by simp)).mono ?_
  rintro e w1 ⟨rfl, hb1⟩
  have B := ((Blk.born w 28 #[.int .i64 a, .int .i64 b]).alloc (.cells #[.int .i64 0, .int .i64 0] 28)).kept hb1
  have B2 : Blk w1 (w.heap.size + 1) 28 #[.int .i64 0, .int .i64 0] := by have := (Blk.born (w.alloc (.cells #[.int .i64 a, .int .i64 b] 28)) 28 #[.int .i64 0, .int .i64 0]).kept hb1; simpa using this
  have k0 : w1.cell? ⟨w.heap.size, 0, none⟩ = some (.int .i64 a) := B.cell 0
  have k1 : w1.cell? ⟨w.heap.size, 1, none⟩ = some (.int .i64 b) := B.cell 1
  have c0 : w1.cell? ⟨w.heap.size + 1, 0, none⟩ = some (.int .i64 0) := B2.cell 0
  have c1 : w1.cell? ⟨w.heap.size + 1, 1, none⟩ = some (.int .i64 0) := B2.cell 1
  have f0 : w1.frozen? ⟨w.heap.size + 1, 0, none⟩ = false := B2.free 0
  have f1 : w1.frozen? ⟨w.heap.size + 1, 1, none⟩ = false := B2.free 1
  have HB1 := hide (below_base2 hb1)
  clear hb1
  go_wp2_with fail
  refine (amount18_no n _ hn.out).mono ?_
  rintro e w2 ⟨rfl, rfl⟩
  go_wp2_with fail
  have B3 := (B2.store 0 (.int .i64 0)).store 1 (.int .i64 0)
  have d0 := B3.cell 0
  have d1 := B3.cell 1
  refine bodyPost_ret (v := .tuple #[.agg #[.int .i64 0, .int .i64 0], .int .i64 5]) (by simp [results, Try.results20, go_sem, d0, d1]) rfl ⟨rfl, ?_⟩
  exact (HB1.out.setCell (by simp) _).setCell (by simp) _

set_option maxRecDepth 10000 in
theorem rmove_far0 (a b n : Int) (w : World) (ha : Hid (Am a)) (hb : Hid (Am b)) (hn : Hid (Am n)) (hx : Hid (¬ Am (a + n))) : Calls Try.prog 20 #[.agg #[.int .i64 a, .int .i64 b], .int .i64 0, .int .i64 n] w (RPost 0 0 5 w) := by
  have q1 : IntKind.i64.wrap (a + n) = a + n := IntWalk.i64_in _ (by have h1 := ha.out; have h2 := hb.out; have h3 := hn.out; unfold Am at h1 h2 h3; omega)
  go_enter Try.func20, Try.ntmps20
  go_wp2_with fail
  refine (rside_in a b 0 _ ha hb (by simp)).mono ?_
  rintro e w1 ⟨rfl, hb1⟩
  have B := ((Blk.born w 28 #[.int .i64 a, .int .i64 b]).alloc (.cells #[.int .i64 0, .int .i64 0] 28)).kept hb1
  have B2 : Blk w1 (w.heap.size + 1) 28 #[.int .i64 0, .int .i64 0] := by have := (Blk.born (w.alloc (.cells #[.int .i64 a, .int .i64 b] 28)) 28 #[.int .i64 0, .int .i64 0]).kept hb1; simpa using this
  have k0 : w1.cell? ⟨w.heap.size, 0, none⟩ = some (.int .i64 a) := B.cell 0
  have k1 : w1.cell? ⟨w.heap.size, 1, none⟩ = some (.int .i64 b) := B.cell 1
  have c0 : w1.cell? ⟨w.heap.size + 1, 0, none⟩ = some (.int .i64 0) := B2.cell 0
  have c1 : w1.cell? ⟨w.heap.size + 1, 1, none⟩ = some (.int .i64 0) := B2.cell 1
  have f0 : w1.frozen? ⟨w.heap.size + 1, 0, none⟩ = false := B2.free 0
  have f1 : w1.frozen? ⟨w.heap.size + 1, 1, none⟩ = false := B2.free 1
  have HB1 := hide (below_base2 hb1)
  clear hb1
  go_wp2_with fail
  refine (amount18_yes n _ hn.out).mono ?_
  rintro e w2 ⟨rfl, rfl⟩
  go_wp2_with fail
  refine (amount18_no (a + n) _ hx.out).mono ?_
  rintro e w3 ⟨rfl, rfl⟩
  go_wp2_with fail
  have B3 := (B2.store 0 (.int .i64 0)).store 1 (.int .i64 0)
  have d0 := B3.cell 0
  have d1 := B3.cell 1
  refine bodyPost_ret (v := .tuple #[.agg #[.int .i64 0, .int .i64 0], .int .i64 5]) (by simp [results, Try.results20, go_sem, d0, d1]) rfl ⟨rfl, ?_⟩
  exact (HB1.out.setCell (by simp) _).setCell (by simp) _

set_option maxRecDepth 10000 in
theorem rmove_ok0 (a b n x : Int) (w : World) (ha : Hid (Am a)) (hb : Hid (Am b)) (hn : Hid (Am n)) (hx : Hid (a + n = x)) (hax : Hid (Am x)) : Calls Try.prog 20 #[.agg #[.int .i64 a, .int .i64 b], .int .i64 0, .int .i64 n] w (RPost x b 0 w) := by
  have q1 : IntKind.i64.wrap (a + n) = x := by rw [hx.out]; exact IntWalk.i64_in _ (by have h1 := hax.out; unfold Am at h1; omega)
  go_enter Try.func20, Try.ntmps20
  go_wp2_with fail
  refine (rside_in a b 0 _ ha hb (by simp)).mono ?_
  rintro e w1 ⟨rfl, hb1⟩
  have B := ((Blk.born w 28 #[.int .i64 a, .int .i64 b]).alloc (.cells #[.int .i64 0, .int .i64 0] 28)).kept hb1
  have B2 : Blk w1 (w.heap.size + 1) 28 #[.int .i64 0, .int .i64 0] := by have := (Blk.born (w.alloc (.cells #[.int .i64 a, .int .i64 b] 28)) 28 #[.int .i64 0, .int .i64 0]).kept hb1; simpa using this
  have k0 : w1.cell? ⟨w.heap.size, 0, none⟩ = some (.int .i64 a) := B.cell 0
  have k1 : w1.cell? ⟨w.heap.size, 1, none⟩ = some (.int .i64 b) := B.cell 1
  have c0 : w1.cell? ⟨w.heap.size + 1, 0, none⟩ = some (.int .i64 0) := B2.cell 0
  have c1 : w1.cell? ⟨w.heap.size + 1, 1, none⟩ = some (.int .i64 0) := B2.cell 1
  have f0 : w1.frozen? ⟨w.heap.size + 1, 0, none⟩ = false := B2.free 0
  have f1 : w1.frozen? ⟨w.heap.size + 1, 1, none⟩ = false := B2.free 1
  have HB1 := hide (below_base2 hb1)
  clear hb1
  go_wp2_with fail
  refine (amount18_yes n _ hn.out).mono ?_
  rintro e w2 ⟨rfl, rfl⟩
  go_wp2_with fail
  refine (amount18_yes x _ hax.out).mono ?_
  rintro e w3 ⟨rfl, rfl⟩
  go_wp2_with fail
  have B3 := (B2.store 0 (.int .i64 x)).store 1 (.int .i64 b)
  have d0 := B3.cell 0
  have d1 := B3.cell 1
  refine bodyPost_ret (v := .tuple #[.agg #[.int .i64 x, .int .i64 b], .int .i64 0]) (by simp [results, Try.results20, go_sem, d0, d1]) rfl ⟨rfl, ?_⟩
  exact (HB1.out.setCell (by simp) _).setCell (by simp) _

set_option maxRecDepth 10000 in
theorem rmove_n1 (a b n : Int) (w : World) (ha : Hid (Am a)) (hb : Hid (Am b)) (hn : Hid (¬ Am n)) : Calls Try.prog 20 #[.agg #[.int .i64 a, .int .i64 b], .int .i64 1, .int .i64 n] w (RPost 0 0 5 w) := by
  go_enter Try.func20, Try.ntmps20
  go_wp2_with fail
  refine (rside_in a b 1 _ ha hb (by simp)).mono ?_
  rintro e w1 ⟨rfl, hb1⟩
  have B := ((Blk.born w 28 #[.int .i64 a, .int .i64 b]).alloc (.cells #[.int .i64 0, .int .i64 0] 28)).kept hb1
  have B2 : Blk w1 (w.heap.size + 1) 28 #[.int .i64 0, .int .i64 0] := by have := (Blk.born (w.alloc (.cells #[.int .i64 a, .int .i64 b] 28)) 28 #[.int .i64 0, .int .i64 0]).kept hb1; simpa using this
  have k0 : w1.cell? ⟨w.heap.size, 0, none⟩ = some (.int .i64 a) := B.cell 0
  have k1 : w1.cell? ⟨w.heap.size, 1, none⟩ = some (.int .i64 b) := B.cell 1
  have c0 : w1.cell? ⟨w.heap.size + 1, 0, none⟩ = some (.int .i64 0) := B2.cell 0
  have c1 : w1.cell? ⟨w.heap.size + 1, 1, none⟩ = some (.int .i64 0) := B2.cell 1
  have f0 : w1.frozen? ⟨w.heap.size + 1, 0, none⟩ = false := B2.free 0
  have f1 : w1.frozen? ⟨w.heap.size + 1, 1, none⟩ = false := B2.free 1
  have HB1 := hide (below_base2 hb1)
  clear hb1
  go_wp2_with fail
  refine (amount18_no n _ hn.out).mono ?_
  rintro e w2 ⟨rfl, rfl⟩
  go_wp2_with fail
  have B3 := (B2.store 0 (.int .i64 0)).store 1 (.int .i64 0)
  have d0 := B3.cell 0
  have d1 := B3.cell 1
  refine bodyPost_ret (v := .tuple #[.agg #[.int .i64 0, .int .i64 0], .int .i64 5]) (by simp [results, Try.results20, go_sem, d0, d1]) rfl ⟨rfl, ?_⟩
  exact (HB1.out.setCell (by simp) _).setCell (by simp) _

set_option maxRecDepth 10000 in
theorem rmove_far1 (a b n : Int) (w : World) (ha : Hid (Am a)) (hb : Hid (Am b)) (hn : Hid (Am n)) (hx : Hid (¬ Am (b + n))) : Calls Try.prog 20 #[.agg #[.int .i64 a, .int .i64 b], .int .i64 1, .int .i64 n] w (RPost 0 0 5 w) := by
  have q1 : IntKind.i64.wrap (b + n) = b + n := IntWalk.i64_in _ (by have h1 := ha.out; have h2 := hb.out; have h3 := hn.out; unfold Am at h1 h2 h3; omega)
  go_enter Try.func20, Try.ntmps20
  go_wp2_with fail
  refine (rside_in a b 1 _ ha hb (by simp)).mono ?_
  rintro e w1 ⟨rfl, hb1⟩
  have B := ((Blk.born w 28 #[.int .i64 a, .int .i64 b]).alloc (.cells #[.int .i64 0, .int .i64 0] 28)).kept hb1
  have B2 : Blk w1 (w.heap.size + 1) 28 #[.int .i64 0, .int .i64 0] := by have := (Blk.born (w.alloc (.cells #[.int .i64 a, .int .i64 b] 28)) 28 #[.int .i64 0, .int .i64 0]).kept hb1; simpa using this
  have k0 : w1.cell? ⟨w.heap.size, 0, none⟩ = some (.int .i64 a) := B.cell 0
  have k1 : w1.cell? ⟨w.heap.size, 1, none⟩ = some (.int .i64 b) := B.cell 1
  have c0 : w1.cell? ⟨w.heap.size + 1, 0, none⟩ = some (.int .i64 0) := B2.cell 0
  have c1 : w1.cell? ⟨w.heap.size + 1, 1, none⟩ = some (.int .i64 0) := B2.cell 1
  have f0 : w1.frozen? ⟨w.heap.size + 1, 0, none⟩ = false := B2.free 0
  have f1 : w1.frozen? ⟨w.heap.size + 1, 1, none⟩ = false := B2.free 1
  have HB1 := hide (below_base2 hb1)
  clear hb1
  go_wp2_with fail
  refine (amount18_yes n _ hn.out).mono ?_
  rintro e w2 ⟨rfl, rfl⟩
  go_wp2_with fail
  refine (amount18_no (b + n) _ hx.out).mono ?_
  rintro e w3 ⟨rfl, rfl⟩
  go_wp2_with fail
  have B3 := (B2.store 0 (.int .i64 0)).store 1 (.int .i64 0)
  have d0 := B3.cell 0
  have d1 := B3.cell 1
  refine bodyPost_ret (v := .tuple #[.agg #[.int .i64 0, .int .i64 0], .int .i64 5]) (by simp [results, Try.results20, go_sem, d0, d1]) rfl ⟨rfl, ?_⟩
  exact (HB1.out.setCell (by simp) _).setCell (by simp) _

set_option maxRecDepth 10000 in
theorem rmove_ok1 (a b n x : Int) (w : World) (ha : Hid (Am a)) (hb : Hid (Am b)) (hn : Hid (Am n)) (hx : Hid (b + n = x)) (hax : Hid (Am x)) : Calls Try.prog 20 #[.agg #[.int .i64 a, .int .i64 b], .int .i64 1, .int .i64 n] w (RPost a x 0 w) := by
  have q1 : IntKind.i64.wrap (b + n) = x := by rw [hx.out]; exact IntWalk.i64_in _ (by have h1 := hax.out; unfold Am at h1; omega)
  go_enter Try.func20, Try.ntmps20
  go_wp2_with fail
  refine (rside_in a b 1 _ ha hb (by simp)).mono ?_
  rintro e w1 ⟨rfl, hb1⟩
  have B := ((Blk.born w 28 #[.int .i64 a, .int .i64 b]).alloc (.cells #[.int .i64 0, .int .i64 0] 28)).kept hb1
  have B2 : Blk w1 (w.heap.size + 1) 28 #[.int .i64 0, .int .i64 0] := by have := (Blk.born (w.alloc (.cells #[.int .i64 a, .int .i64 b] 28)) 28 #[.int .i64 0, .int .i64 0]).kept hb1; simpa using this
  have k0 : w1.cell? ⟨w.heap.size, 0, none⟩ = some (.int .i64 a) := B.cell 0
  have k1 : w1.cell? ⟨w.heap.size, 1, none⟩ = some (.int .i64 b) := B.cell 1
  have c0 : w1.cell? ⟨w.heap.size + 1, 0, none⟩ = some (.int .i64 0) := B2.cell 0
  have c1 : w1.cell? ⟨w.heap.size + 1, 1, none⟩ = some (.int .i64 0) := B2.cell 1
  have f0 : w1.frozen? ⟨w.heap.size + 1, 0, none⟩ = false := B2.free 0
  have f1 : w1.frozen? ⟨w.heap.size + 1, 1, none⟩ = false := B2.free 1
  have HB1 := hide (below_base2 hb1)
  clear hb1
  go_wp2_with fail
  refine (amount18_yes n _ hn.out).mono ?_
  rintro e w2 ⟨rfl, rfl⟩
  go_wp2_with fail
  refine (amount18_yes x _ hax.out).mono ?_
  rintro e w3 ⟨rfl, rfl⟩
  go_wp2_with fail
  have B3 := (B2.store 0 (.int .i64 a)).store 1 (.int .i64 x)
  have d0 := B3.cell 0
  have d1 := B3.cell 1
  refine bodyPost_ret (v := .tuple #[.agg #[.int .i64 a, .int .i64 x], .int .i64 0]) (by simp [results, Try.results20, go_sem, d0, d1]) rfl ⟨rfl, ?_⟩
  exact (HB1.out.setCell (by simp) _).setCell (by simp) _
end Go.Proofs.Ytphbmbenkbefhaa
