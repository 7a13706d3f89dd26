/- Contracts: Active, All, State, Get of a roster. -/
import Derived.Test.YtngligcjcdpnhaaP
import Derived.Deep.MidRow
import Derived.Deep.WholeRow
namespace Go.Proofs.Ytngligcjcdpnhaa
open Go.RowKit Go.Maps
set_option linter.unusedSimpArgs false
set_option linter.unusedVariables false

theorem info41 : (Try.prog.info? 41).map (fun i => (i.zero, i.size, i.bytes)) = some (some (.agg #[.int .i64 0, .int .i64 0, .int .i64 0, .bool false, .bool false, .int .i64 0, .complex .f64 0 0, .bool false, .string ByteArray.empty, .int .i64 0, .int .i64 0, .int .i64 0, .bool false, .string ByteArray.empty, .int .i64 0, .int .i64 0, .int .i64 0]), 17, 152) := by kernel_rfl

theorem size41 : (Try.prog.info? 41).map (·.size) = some 17 := by kernel_rfl
theorem size32 : (Try.prog.info? 32).map (·.size) = some 5 := by kernel_rfl
theorem size46 : (Try.prog.info? 46).map (·.size) = some 6 := by kernel_rfl
theorem size29 : (Try.prog.info? 29).map (·.size) = some 5 := by kernel_rfl
/-- A whole value into the block that was made last. -/
theorem wpList_store_fresh {ops : Array Oper} {rest : List Oper} {o : Oper} {a : Act} {Q : Exit → Act → World → Prop} {w : World} (hg : o.guard = none) (t : TypeId) (x y : Operand) (ho : o.op = .store t x y) (c c' : Array Value) (v : Nat) (hv : w.heap.size = v)
    (hx : a.eval x = .pointer (some ⟨v, 0, none⟩)) (hy : a.eval y = .agg c') (hi : (Try.prog.info? t).map (·.size) = some c'.size) (hs : c.size = c'.size) (h1 : c'.all (·.oneCell') = true)
    (h : wpList Try.prog ops Q rest (a.put o.dst undef) (w.alloc (.cells c' t))) : wpList Try.prog ops Q (o :: rest) a (w.alloc (.cells c t)) := by
  subst hv
  refine wpList_plain hg fun _ hK => ?_
  unfold Oper.wp execOp
  simp only [ho, hx, hy, Sem.run_bind, run_storeAt_new w t c c' hi hs h1, Sem.run_pure, Result.andThen_ok]
  exact hK _ _ h
/-- A whole value out of a row. -/
theorem wpList_load_row {ops : Array Oper} {rest : List Oper} {o : Oper} {a : Act} {Q : Exit → Act → World → Prop} {w : World} (hg : o.guard = none) (t : TypeId) (x : Operand) (ho : o.op = .load t x) (b off : Nat) (hx : a.eval x = .pointer (some ⟨b, off, none⟩)) (cs : List Value) {d : TypeDesc}
    (hc : ∀ j v, cs[j]? = some v → w.cell? ⟨b, off + j, none⟩ = some v) (hu : Try.prog.underlying t = some d) (hd : d.isRow = true) (hi : (Try.prog.info? t).map (·.size) = some cs.length) (c' : Array Value) (hc' : cs.toArray = c')
    (h : wpList Try.prog ops Q rest (a.put o.dst (.agg c')) w) : wpList Try.prog ops Q (o :: rest) a w :=
  wpList_load_mid hg t x ho b off hx cs d hc hu hd hi (by rw [hc']; exact h)
theorem active_nil (side : Int) (w : World) : Calls Try.prog 18 #[.pointer none, .int .i64 side] w fun e w' => e = .returned (.int .i64 0) ∧ Below w.heap.size w w' := by
  go_enter Try.func18, Try.ntmps18
  go_wp2_with fail
  refine (all_nil _).mono ?_
  rintro e w1 ⟨rfl, rfl⟩
  go_wp2_with fail
  go_loopw [5, 11] (fun vv ii wr => vv = .int .i64 0 ∧ ii = .int .i64 0 ∧ Hid (w = wr)) (fun _ ii _ => 0)
  case atStart => exact ⟨rfl, rfl, hide rfl⟩
  case round =>
    obtain ⟨rfl, rfl, HWR⟩ := hrel
    obtain rfl := HWR.out
    go_wp2_with fail
    go_ret
    exact ⟨rfl, Below.refl _ _⟩
theorem st_cplx (w : World) (a : Addr) (x y : Nat) : (store a (.complex .f64 x y) .plain).run Try.prog w = stored Try.prog w a (.complex .f64 x y) .plain := run_store Try.prog w a _ .plain rfl

set_option maxHeartbeats 2000000 in
theorem active_any {M : Int} {l : List Sm} {F : List Nat} {A : Option Addr} {n c : Nat} {am : Option Nat} (g : Nat) (side : Int) (w : World) (hn : n ≤ 1000) (H : Hid (RoI w g M l F A n c am)) :
    Calls Try.prog 18 #[.pointer (some ⟨g, 0, none⟩), .int .i64 side] w fun e w' => e = .returned (.int .i64 (activeL l side : Nat)) ∧ Below w.heap.size w w' := by
  have HL := hide H.out.num
  have HA := hide (all_any g w H)
  go_enter Try.func18, Try.ntmps18
  go_wp2_with fail
  refine HA.out.mono ?_
  rintro e w1 ⟨rfl, rfl⟩
  clear HA
  go_wp2_with fail
  go_loopw [5, 11] (fun vv ii wr => ∃ (k z : Nat), ii = .int .i64 (k : Nat) ∧ vv = .int .i64 (z : Nat) ∧ k ≤ n ∧ z ≤ k ∧ Hid (z = activeL (l.take k) side) ∧ Hid (Below w.heap.size w wr)) (fun _ ii _ => n - (intOf ii).toNat)
  case atStart => exact ⟨0, 0, rfl, rfl, Nat.zero_le _, Nat.zero_le _, hide rfl, hide (Below.refl _ _)⟩
  case round =>
    obtain ⟨k, z, rfl, rfl, hk, hz, HZ, HW⟩ := hrel
    by_cases hlt : k < n
    · have hki : (k : Int) < (n : Int) := by omega
      obtain ⟨m, hm⟩ : ∃ m, l[k]? = some m := ⟨_, List.getElem?_eq_getElem (by have := HL.out; omega)⟩
      have HT := hide (activeL_take hm side)
      obtain ⟨r, rfl, _, _, t⟩ := (H.out.kept HW.out).at hm
      have HTT := hide t
      clear hm t
      have hcs := st_cplx
      obtain ⟨v, hv⟩ : ∃ v, wr.heap.size = v := ⟨_, rfl⟩
      obtain ⟨W1, hW1⟩ : ∃ W1, wr.alloc (.cells #[.int .i64 m.id, .int .i64 m.k, .int .i64 m.o, .bool m.a, .bool m.b, .int .i64 m.y, .complex .f64 m.cx m.cy, .bool false, .string ByteArray.empty, .int .i64 0, .int .i64 0, .int .i64 0, .bool false, .string ByteArray.empty, .int .i64 0, .int .i64 0, .int .i64 0] 41) = W1 := ⟨_, rfl⟩
      have HW1 : Hid (Below w.heap.size w W1) := hide (by rw [← hW1]; exact HW.out.alloc HW.out.size _)
      have HC : Hid (Blk W1 v 41 #[.int .i64 m.id, .int .i64 m.k, .int .i64 m.o, .bool m.a, .bool m.b, .int .i64 m.y, .complex .f64 m.cx m.cy, .bool false, .string ByteArray.empty, .int .i64 0, .int .i64 0, .int .i64 0, .bool false, .string ByteArray.empty, .int .i64 0, .int .i64 0, .int .i64 0]) := hide (by rw [← hW1, ← hv]; exact Blk.born wr 41 _)
      have x1 : W1.cell? ⟨v, 1, none⟩ = some (.int .i64 m.k) := HC.out.cell 1
      have x2 : W1.cell? ⟨v, 2, none⟩ = some (.int .i64 m.o) := HC.out.cell 2
      by_cases h3 : m.k = 3
      · by_cases hs : m.o = side
        · have HE : Hid (activeL (l.take (k + 1)) side = z + 1) := hide (by rw [HT.out, if_pos (by unfold opn; simp [h3, hs]), ← HZ.out])
          have b1 : (m.k == 3) = true := by rw [beq_iff_eq]; exact h3
          have b2 : (m.o == side) = true := by rw [beq_iff_eq]; exact hs
          clear h3 hs HT
          go_wp2_with (first | refine wpList_load_row rfl 41 (.tmp 13) rfl r (k * 17) (by rfl) (row17 m) HTT.out Try.underlying41 rfl size41 #[.int .i64 m.id, .int .i64 m.k, .int .i64 m.o, .bool m.a, .bool m.b, .int .i64 m.y, .complex .f64 m.cx m.cy, .bool false, .string ByteArray.empty, .int .i64 0, .int .i64 0, .int .i64 0, .bool false, .string ByteArray.empty, .int .i64 0, .int .i64 0, .int .i64 0] rfl ?_ | refine wpList_store_fresh rfl 41 (.tmp 7) (.tmp 14) rfl _ #[.int .i64 m.id, .int .i64 m.k, .int .i64 m.o, .bool m.a, .bool m.b, .int .i64 m.y, .complex .f64 m.cx m.cy, .bool false, .string ByteArray.empty, .int .i64 0, .int .i64 0, .int .i64 0, .bool false, .string ByteArray.empty, .int .i64 0, .int .i64 0, .int .i64 0] v hv (by rfl) (by rfl) size41 rfl (all_oneCell_toArray (row17_one m)) ?_; rw [hW1])
          go_roundw
          case rel => exact ⟨k + 1, z + 1, by go_num, by go_num, by omega, by omega, hide HE.out.symm, HW1⟩
          case measure => simp [intOf]; omega
        · have HE : Hid (activeL (l.take (k + 1)) side = z) := hide (by rw [HT.out, if_neg (by unfold opn; simp [h3, hs]), ← HZ.out])
          have b1 : (m.k == 3) = true := by rw [beq_iff_eq]; exact h3
          have b2 : (m.o == side) = false := by rw [beq_eq_false_iff_ne]; exact hs
          clear h3 hs HT
          go_wp2_with (first | refine wpList_load_row rfl 41 (.tmp 13) rfl r (k * 17) (by rfl) (row17 m) HTT.out Try.underlying41 rfl size41 #[.int .i64 m.id, .int .i64 m.k, .int .i64 m.o, .bool m.a, .bool m.b, .int .i64 m.y, .complex .f64 m.cx m.cy, .bool false, .string ByteArray.empty, .int .i64 0, .int .i64 0, .int .i64 0, .bool false, .string ByteArray.empty, .int .i64 0, .int .i64 0, .int .i64 0] rfl ?_ | refine wpList_store_fresh rfl 41 (.tmp 7) (.tmp 14) rfl _ #[.int .i64 m.id, .int .i64 m.k, .int .i64 m.o, .bool m.a, .bool m.b, .int .i64 m.y, .complex .f64 m.cx m.cy, .bool false, .string ByteArray.empty, .int .i64 0, .int .i64 0, .int .i64 0, .bool false, .string ByteArray.empty, .int .i64 0, .int .i64 0, .int .i64 0] v hv (by rfl) (by rfl) size41 rfl (all_oneCell_toArray (row17_one m)) ?_; rw [hW1])
          go_roundw
          case rel => exact ⟨k + 1, z, by go_num, rfl, by omega, by omega, hide HE.out.symm, HW1⟩
          case measure => simp [intOf]; omega
      · have HE : Hid (activeL (l.take (k + 1)) side = z) := hide (by rw [HT.out, if_neg (by unfold opn; simp [h3]), ← HZ.out])
        have b1 : (m.k == 3) = false := by rw [beq_eq_false_iff_ne]; exact h3
        clear h3 HT
        go_wp2_with (first | refine wpList_load_row rfl 41 (.tmp 13) rfl r (k * 17) (by rfl) (row17 m) HTT.out Try.underlying41 rfl size41 #[.int .i64 m.id, .int .i64 m.k, .int .i64 m.o, .bool m.a, .bool m.b, .int .i64 m.y, .complex .f64 m.cx m.cy, .bool false, .string ByteArray.empty, .int .i64 0, .int .i64 0, .int .i64 0, .bool false, .string ByteArray.empty, .int .i64 0, .int .i64 0, .int .i64 0] rfl ?_ | refine wpList_store_fresh rfl 41 (.tmp 7) (.tmp 14) rfl _ #[.int .i64 m.id, .int .i64 m.k, .int .i64 m.o, .bool m.a, .bool m.b, .int .i64 m.y, .complex .f64 m.cx m.cy, .bool false, .string ByteArray.empty, .int .i64 0, .int .i64 0, .int .i64 0, .bool false, .string ByteArray.empty, .int .i64 0, .int .i64 0, .int .i64 0] v hv (by rfl) (by rfl) size41 rfl (all_oneCell_toArray (row17_one m)) ?_; rw [hW1])
        go_roundw
        case rel => exact ⟨k + 1, z, by go_num, rfl, by omega, by omega, hide HE.out.symm, HW1⟩
        case measure => simp [intOf]; omega
    · have HE : Hid (z = activeL l side) := hide (by rw [HZ.out, List.take_of_length_le (by have := HL.out; omega)])
      go_wp2_with fail
      go_ret
      exact ⟨by rw [HE.out]; rfl, HW.out⟩

end Go.Proofs.Ytngligcjcdpnhaa
