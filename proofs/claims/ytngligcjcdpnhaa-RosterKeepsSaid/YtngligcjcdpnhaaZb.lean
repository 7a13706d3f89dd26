/- Does a roster stand as the reference's list? -/
import Derived.Test.YtngligcjcdpnhaaZa
namespace Go.Proofs.Ytngligcjcdpnhaa
open Go.RowKit Go.Maps
set_option linter.unusedSimpArgs false
set_option linter.unusedVariables false

theorem st_neq (k o y k' o' y' : Int) (a b a' b' : Bool) (w : World) :
    (binOp .neq 32 (.agg #[.int .i64 k, .int .i64 o, .bool a, .bool b, .int .i64 y]) (.agg #[.int .i64 k', .int .i64 o', .bool a', .bool b', .int .i64 y'])).run Try.prog w = .ok (.bool (!eqS k o a b y k' o' a' b' y')) w := by
  have h : ∀ d : Nat, (Op.equalIn (d + 3) 32 (.agg #[.int .i64 k, .int .i64 o, .bool a, .bool b, .int .i64 y]) (.agg #[.int .i64 k', .int .i64 o', .bool a', .bool b', .int .i64 y'])).run Try.prog w =
      .ok (eqS k o a b y k' o' a' b' y') w := fun d => by
    rw [run_equalIn_struct w (d + 2) 32 _ _ (by rw [Program.fieldsOf, Try.underlying32]) (by kernel_rfl)]
    rw [Program.fieldsOf, Try.underlying32]
    unfold eqS
    have i1 := fun x y w => int_eq (d + 1) x y w
    have i2 := fun a b c e w => arr_eq d a b c e w
    by_cases h1 : k = k' <;> by_cases h2 : o = o' <;> by_cases h3 : y = y' <;> cases a <;> cases b <;> cases a' <;> cases b' <;> simp [Op.eqFields, part_0, part_1, part_2, part_4, i1, i2, h1, h2, h3]
  simp only [binOp]
  simp [Op.equal, Op.maxDepth, h 9997]
theorem eqS_self (k o : Int) (a b : Bool) (y : Int) : eqS k o a b y k o a b y = true := by unfold eqS; cases a <;> cases b <;> simp
theorem st_neq_self (k o y : Int) (a b : Bool) (w : World) : (binOp .neq 32 (.agg #[.int .i64 k, .int .i64 o, .bool a, .bool b, .int .i64 y]) (.agg #[.int .i64 k, .int .i64 o, .bool a, .bool b, .int .i64 y])).run Try.prog w = .ok (.bool false) w := by
  rw [st_neq, eqS_self]; rfl

set_option maxRecDepth 100000 in
set_option maxHeartbeats 4000000 in
theorem alike_any {M : Int} {l : List Sm} {F : List Nat} (g : Nat) (id : Int) (K : Nat → Prop) (A : Option Addr) (n c : Nat) (w : World) (hn : n ≤ 100) (HR : Hid (Ro w g M l F)) (HF : Hid (Rf w K A n c l)) (hx : Hid ((Lit.int .i64 id).wf = true)) (hok : Hid (Ok l)) :
    Calls Try.prog 13 #[.pointer (some ⟨g, 0, none⟩), .slice A n c, .int .i64 id] w fun e w' => e = .returned (.bool true) ∧ Below w.heap.size w w' := by
  have HLN := hide HF.out.len
  have hn1 : Hid (l.length ≤ 1000) := hide (by rw [HLN.out]; omega)
  have hn2 : n ≤ 1000 := by omega
  have ht : Hid (∀ m ∈ l, -9223372036854775808 ≤ m.id ∧ m.id ≤ 9223372036854775807) := hide (fun m hm => wf_i64 (wf_may (hok.out.may m hm)))
  have hk : Hid (ownK id = false → posI (ids l) id = none) := hide (fun h => posI_none.2 (fun hm => by rw [hok.out.own hm] at h; cases h))
  obtain ⟨s, hs⟩ : ∃ s, stateL l id = s := ⟨_, rfl⟩
  have HS := hide hs
  have hneq := st_neq_self
  clear hs
  go_enter Try.func13, Try.ntmps13
  go_wp2_with fail
  refine (all_op g n w hn1 HR HLN.out).mono ?_
  rintro e w1 ⟨B, c', rfl, ho, hb⟩
  have HO := hide ho
  have HW1 := hide hb
  clear ho hb
  go_wp2_with fail
  refine (state_op g id w1 hn1 (hide (HR.out.kept HW1.out)) hx s HS).mono ?_
  rintro e w2 ⟨rfl, hb⟩
  have HW2 : Hid (Below w.heap.size w w2) := hide (below_nextB HW1.out HW1.out.size hb)
  have HV2 := hide hb
  clear hb
  go_wp2_with fail
  refine (rstate_any id K A n c l w2 hn2 (hide (HF.out.kept HW2.out)) ht hk s HS).mono ?_
  rintro e w3 ⟨rfl, hb⟩
  have HW3 : Hid (Below w.heap.size w w3) := hide (below_nextB HW2.out HW2.out.size hb)
  have HV3 : Hid (Below w1.heap.size w1 w3) := hide (below_nextB HV2.out HV2.out.size hb)
  clear hb
  go_wp2_with fail
  refine (own_any s.k s.o s.a s.b s.y w3).mono ?_
  rintro e w4 ⟨rfl, hb⟩
  have HW4 : Hid (Below w.heap.size w w4) := hide (below_nextB HW3.out HW3.out.size hb)
  have HV4 : Hid (Below w1.heap.size w1 w4) := hide (below_nextB HV3.out HV3.out.size hb)
  clear hb HW2 HW3 HV2 HV3
  go_wp2_with fail
  have HO4 := hide (own_kept HO.out HV4.out)
  clear HO HV4
  go_loopw [8] (fun ii wr => ∃ (k : Nat), ii = .int .i64 (k : Nat) ∧ k ≤ n ∧ Hid (Below w4.heap.size w4 wr)) (fun ii _ => n - (intOf ii).toNat)
  case atStart => exact ⟨0, rfl, Nat.zero_le _, hide (Below.refl _ _)⟩
  case round =>
    obtain ⟨k, rfl, hk, HW⟩ := hrel
    have HW_wr : Hid (Below w.heap.size w wr) := hide (below_nextB HW4.out HW4.out.size HW.out)
    by_cases hlt : k < n
    · have hki : (k : Int) < (n : Int) := by omega
      obtain ⟨x, hm⟩ : ∃ x, l[k]? = some x := ⟨_, List.getElem?_eq_getElem (by have := HLN.out; omega)⟩
      have HST : Hid (stateL l x.id = x.st) := hide (stateL_some (hok.out.pos hm) hm)
      have HX : Hid (Hid ((Lit.int .i64 x.id).wf = true)) := hide (hide (wf_may (hok.out.may x (List.mem_of_getElem? hm))))
      have HOr := hide (own_kept HO4.out HW.out)
      obtain ⟨r, C9, hBB⟩ := own_some (n := n) HOr.out (by omega)
      injection hBB with hBB _ hcc
      subst hBB hcc
      obtain ⟨bb, ob, rfl, t⟩ := (HF.out.kept HW_wr.out).at hm
      have u : ∀ j v, (row17 x)[j]? = some v → wr.cell? ⟨r, k * 17 + j, none⟩ = some v := fun j v hv => own_cell HOr.out ((flat_get row17_len hm j (List.getElem?_eq_some_iff.1 hv).1).trans hv)
      have a0 : wr.cell? ⟨r, k * 17, none⟩ = some (.int .i64 x.id) := by have := u 0 _ rfl; simpa using this
      have a1 : wr.cell? ⟨r, k * 17 + 1, none⟩ = some (.int .i64 x.k) := u 1 _ rfl
      have a2 : wr.cell? ⟨r, k * 17 + 2, none⟩ = some (.int .i64 x.o) := u 2 _ rfl
      have a3 : wr.cell? ⟨r, k * 17 + 3, none⟩ = some (.bool x.a) := u 3 _ rfl
      have a4 : wr.cell? ⟨r, k * 17 + 4, none⟩ = some (.bool x.b) := u 4 _ rfl
      have a5 : wr.cell? ⟨r, k * 17 + 5, none⟩ = some (.int .i64 x.y) := u 5 _ rfl
      have b0 : wr.cell? ⟨bb, ob + k * 6, none⟩ = some (.int .i64 x.id) := by have := t 0 _ rfl; simpa using this
      have b1 : wr.cell? ⟨bb, ob + k * 6 + 1, none⟩ = some (.int .i64 x.k) := by rw [Nat.add_assoc]; exact t 1 _ rfl
      have b2 : wr.cell? ⟨bb, ob + k * 6 + 2, none⟩ = some (.int .i64 x.o) := by rw [Nat.add_assoc]; exact t 2 _ rfl
      have b3 : wr.cell? ⟨bb, ob + k * 6 + 3, none⟩ = some (.bool x.a) := by rw [Nat.add_assoc]; exact t 3 _ rfl
      have b4 : wr.cell? ⟨bb, ob + k * 6 + 4, none⟩ = some (.bool x.b) := by rw [Nat.add_assoc]; exact t 4 _ rfl
      have b5 : wr.cell? ⟨bb, ob + k * 6 + 5, none⟩ = some (.int .i64 x.y) := by rw [Nat.add_assoc]; exact t 5 _ rfl
      have hrl : r < wr.heap.size := World.block_lt_of_cell? wr _ a0
      have hbl : bb < wr.heap.size := World.block_lt_of_cell? wr _ b0
      clear hm t u
      go_wp2_with fail
      refine wp_region_held_drew (S := fun w' => w'.cell? ⟨r, k * 17, none⟩ = some (.int .i64 x.id) ∧ w'.cell? ⟨r, k * 17 + 1, none⟩ = some (.int .i64 x.k) ∧ w'.cell? ⟨r, k * 17 + 2, none⟩ = some (.int .i64 x.o) ∧ w'.cell? ⟨r, k * 17 + 3, none⟩ = some (.bool x.a) ∧ w'.cell? ⟨r, k * 17 + 4, none⟩ = some (.bool x.b) ∧ w'.cell? ⟨r, k * 17 + 5, none⟩ = some (.int .i64 x.y) ∧ w'.cell? ⟨bb, ob + k * 6, none⟩ = some (.int .i64 x.id) ∧ w'.cell? ⟨bb, ob + k * 6 + 1, none⟩ = some (.int .i64 x.k) ∧ w'.cell? ⟨bb, ob + k * 6 + 2, none⟩ = some (.int .i64 x.o) ∧ w'.cell? ⟨bb, ob + k * 6 + 3, none⟩ = some (.bool x.a) ∧ w'.cell? ⟨bb, ob + k * 6 + 4, none⟩ = some (.bool x.b) ∧ w'.cell? ⟨bb, ob + k * 6 + 5, none⟩ = some (.int .i64 x.y)) (by kernel_rfl) (⟨a0, a1, a2, a3, a4, a5, b0, b1, b2, b3, b4, b5⟩) (fun hHeld => ?_)
      refine wpAnyH_take (i := 0) (v := ?_) rfl (by kernel_rfl) (by kernel_rfl) (by kernel_rfl) (fun _ _ _ h => h) (Or.inl ⟨by rfl, ?hy⟩) (by assumption) ?_
      case hy => intro w hSw; obtain ⟨hS0, hS1, hS2, hS3, hS4, hS5, hS6, hS7, hS8, hS9, hS10, hS11⟩ := hSw; (try dsimp only at *); go_simp; (try with_reducible rfl)
      (try dsimp only [List.getElem_toArray, List.getElem_cons_zero, List.getElem_cons_succ])
      try simp only [Act.put, List.setIfInBounds_toArray, List.set_cons_zero, List.set_cons_succ]
      refine wpAnyH_take (i := 1) (v := ?_) rfl (by kernel_rfl) (by kernel_rfl) (by kernel_rfl) (fun _ _ _ h => h) (Or.inl ⟨by rfl, ?hy⟩) (by assumption) ?_
      case hy => intro w hSw; obtain ⟨hS0, hS1, hS2, hS3, hS4, hS5, hS6, hS7, hS8, hS9, hS10, hS11⟩ := hSw; (try dsimp only at *); go_simp; (try with_reducible rfl)
      (try dsimp only [List.getElem_toArray, List.getElem_cons_zero, List.getElem_cons_succ])
      try simp only [Act.put, List.setIfInBounds_toArray, List.set_cons_zero, List.set_cons_succ]
      refine wpAnyH_take (i := 2) (v := ?_) rfl (by kernel_rfl) (by kernel_rfl) (by kernel_rfl) (fun _ _ _ h => h) (Or.inl ⟨by rfl, ?hy⟩) (by assumption) ?_
      case hy => intro w hSw; obtain ⟨hS0, hS1, hS2, hS3, hS4, hS5, hS6, hS7, hS8, hS9, hS10, hS11⟩ := hSw; (try dsimp only at *); go_simp; (try with_reducible rfl)
      (try dsimp only [List.getElem_toArray, List.getElem_cons_zero, List.getElem_cons_succ])
      try simp only [Act.put, List.setIfInBounds_toArray, List.set_cons_zero, List.set_cons_succ]
      refine wpAnyH_take (i := 3) (v := ?_) rfl (by kernel_rfl) (by kernel_rfl) (by kernel_rfl) (fun _ _ _ h => h) (Or.inl ⟨by rfl, ?hy⟩) (by assumption) ?_
      case hy => intro w hSw; obtain ⟨hS0, hS1, hS2, hS3, hS4, hS5, hS6, hS7, hS8, hS9, hS10, hS11⟩ := hSw; (try dsimp only at *); go_simp; (try with_reducible rfl)
      (try dsimp only [List.getElem_toArray, List.getElem_cons_zero, List.getElem_cons_succ])
      try simp only [Act.put, List.setIfInBounds_toArray, List.set_cons_zero, List.set_cons_succ]
      refine wpAnyH_take (i := 4) (v := ?_) rfl (by kernel_rfl) (by kernel_rfl) (by kernel_rfl) (fun _ _ _ h => h) (Or.inl ⟨by rfl, ?hy⟩) (by assumption) ?_
      case hy => intro w hSw; obtain ⟨hS0, hS1, hS2, hS3, hS4, hS5, hS6, hS7, hS8, hS9, hS10, hS11⟩ := hSw; (try dsimp only at *); go_simp; (try with_reducible rfl)
      (try dsimp only [List.getElem_toArray, List.getElem_cons_zero, List.getElem_cons_succ])
      try simp only [Act.put, List.setIfInBounds_toArray, List.set_cons_zero, List.set_cons_succ]
      refine wpAnyH_take (i := 5) (v := ?_) rfl (by kernel_rfl) (by kernel_rfl) (by kernel_rfl) (fun _ _ _ h => h) (Or.inl ⟨by rfl, ?hy⟩) (by assumption) ?_
      case hy => intro w hSw; obtain ⟨hS0, hS1, hS2, hS3, hS4, hS5, hS6, hS7, hS8, hS9, hS10, hS11⟩ := hSw; (try dsimp only at *); go_simp; (try with_reducible rfl)
      (try dsimp only [List.getElem_toArray, List.getElem_cons_zero, List.getElem_cons_succ])
      try simp only [Act.put, List.setIfInBounds_toArray, List.set_cons_zero, List.set_cons_succ]
      refine wpAnyH_take (i := 6) (v := ?_) rfl (by kernel_rfl) (by kernel_rfl) (by kernel_rfl) (fun _ _ _ h => h) (Or.inl ⟨by rfl, ?hy⟩) (by assumption) ?_
      case hy => intro w hSw; obtain ⟨hS0, hS1, hS2, hS3, hS4, hS5, hS6, hS7, hS8, hS9, hS10, hS11⟩ := hSw; (try dsimp only at *); go_simp; (try with_reducible rfl)
      (try dsimp only [List.getElem_toArray, List.getElem_cons_zero, List.getElem_cons_succ])
      try simp only [Act.put, List.setIfInBounds_toArray, List.set_cons_zero, List.set_cons_succ]
      refine wpAnyH_take (i := 7) (v := ?_) rfl (by kernel_rfl) (by kernel_rfl) (by kernel_rfl) (fun _ _ _ h => h) (Or.inl ⟨by rfl, ?hy⟩) (by assumption) ?_
      case hy => intro w hSw; obtain ⟨hS0, hS1, hS2, hS3, hS4, hS5, hS6, hS7, hS8, hS9, hS10, hS11⟩ := hSw; (try dsimp only at *); go_simp; (try with_reducible rfl)
      (try dsimp only [List.getElem_toArray, List.getElem_cons_zero, List.getElem_cons_succ])
      try simp only [Act.put, List.setIfInBounds_toArray, List.set_cons_zero, List.set_cons_succ]
      refine wpAnyH_take (i := 8) (v := ?_) rfl (by kernel_rfl) (by kernel_rfl) (by kernel_rfl) (fun _ _ _ h => h) (Or.inl ⟨by rfl, ?hy⟩) (by assumption) ?_
      case hy => intro w hSw; obtain ⟨hS0, hS1, hS2, hS3, hS4, hS5, hS6, hS7, hS8, hS9, hS10, hS11⟩ := hSw; (try dsimp only at *); go_simp; (try with_reducible rfl)
      (try dsimp only [List.getElem_toArray, List.getElem_cons_zero, List.getElem_cons_succ])
      try simp only [Act.put, List.setIfInBounds_toArray, List.set_cons_zero, List.set_cons_succ]
      refine wpAnyH_take (i := 9) (v := ?_) rfl (by kernel_rfl) (by kernel_rfl) (by kernel_rfl) (fun _ _ _ h => h) (Or.inl ⟨by rfl, ?hy⟩) (by assumption) ?_
      case hy => intro w hSw; obtain ⟨hS0, hS1, hS2, hS3, hS4, hS5, hS6, hS7, hS8, hS9, hS10, hS11⟩ := hSw; (try dsimp only at *); go_simp; (try with_reducible rfl)
      (try dsimp only [List.getElem_toArray, List.getElem_cons_zero, List.getElem_cons_succ])
      try simp only [Act.put, List.setIfInBounds_toArray, List.set_cons_zero, List.set_cons_succ]
      refine wpAnyH_take (i := 10) (v := ?_) rfl (by kernel_rfl) (by kernel_rfl) (by kernel_rfl) (fun _ _ _ h => h) (Or.inl ⟨by rfl, ?hy⟩) (by assumption) ?_
      case hy => intro w hSw; obtain ⟨hS0, hS1, hS2, hS3, hS4, hS5, hS6, hS7, hS8, hS9, hS10, hS11⟩ := hSw; (try dsimp only at *); go_simp; (try with_reducible rfl)
      (try dsimp only [List.getElem_toArray, List.getElem_cons_zero, List.getElem_cons_succ])
      try simp only [Act.put, List.setIfInBounds_toArray, List.set_cons_zero, List.set_cons_succ]
      refine wpAnyH_take (i := 11) (v := ?_) rfl (by kernel_rfl) (by kernel_rfl) (by kernel_rfl) (fun _ _ _ h => h) (Or.inl ⟨by rfl, ?hy⟩) (by assumption) ?_
      case hy => intro w hSw; obtain ⟨hS0, hS1, hS2, hS3, hS4, hS5, hS6, hS7, hS8, hS9, hS10, hS11⟩ := hSw; (try dsimp only at *); go_simp; (try with_reducible rfl)
      (try dsimp only [List.getElem_toArray, List.getElem_cons_zero, List.getElem_cons_succ])
      try simp only [Act.put, List.setIfInBounds_toArray, List.set_cons_zero, List.set_cons_succ]
      refine wpAnyH_take (i := 12) (v := ?_) rfl (by kernel_rfl) (by kernel_rfl) (by kernel_rfl) (fun _ _ _ h => h) (Or.inl ⟨by rfl, ?hy⟩) (by assumption) ?_
      case hy => intro w hSw; obtain ⟨hS0, hS1, hS2, hS3, hS4, hS5, hS6, hS7, hS8, hS9, hS10, hS11⟩ := hSw; (try dsimp only at *); go_simp; (try with_reducible rfl)
      (try dsimp only [List.getElem_toArray, List.getElem_cons_zero, List.getElem_cons_succ])
      try simp only [Act.put, List.setIfInBounds_toArray, List.set_cons_zero, List.set_cons_succ]
      refine wpAnyH_take (i := 13) (v := ?_) rfl (by kernel_rfl) (by kernel_rfl) (by kernel_rfl) (fun _ _ _ h => h) (Or.inl ⟨by rfl, ?hy⟩) (by assumption) ?_
      case hy => intro w hSw; obtain ⟨hS0, hS1, hS2, hS3, hS4, hS5, hS6, hS7, hS8, hS9, hS10, hS11⟩ := hSw; (try dsimp only at *); go_simp; (try with_reducible rfl)
      (try dsimp only [List.getElem_toArray, List.getElem_cons_zero, List.getElem_cons_succ])
      try simp only [Act.put, List.setIfInBounds_toArray, List.set_cons_zero, List.set_cons_succ]
      refine wpAnyH_take (i := 14) (v := ?_) rfl (by kernel_rfl) (by kernel_rfl) (by kernel_rfl) (fun _ _ _ h => h) (Or.inl ⟨by rfl, ?hy⟩) (by assumption) ?_
      case hy => intro w hSw; obtain ⟨hS0, hS1, hS2, hS3, hS4, hS5, hS6, hS7, hS8, hS9, hS10, hS11⟩ := hSw; (try dsimp only at *); go_simp; (try with_reducible rfl)
      (try dsimp only [List.getElem_toArray, List.getElem_cons_zero, List.getElem_cons_succ])
      try simp only [Act.put, List.setIfInBounds_toArray, List.set_cons_zero, List.set_cons_succ]
      refine wpAnyH_take (i := 15) (v := ?_) rfl (by kernel_rfl) (by kernel_rfl) (by kernel_rfl) (fun _ _ _ h => h) (Or.inl ⟨by rfl, ?hy⟩) (by assumption) ?_
      case hy => intro w hSw; obtain ⟨hS0, hS1, hS2, hS3, hS4, hS5, hS6, hS7, hS8, hS9, hS10, hS11⟩ := hSw; (try dsimp only at *); go_simp; (try with_reducible rfl)
      (try dsimp only [List.getElem_toArray, List.getElem_cons_zero, List.getElem_cons_succ])
      try simp only [Act.put, List.setIfInBounds_toArray, List.set_cons_zero, List.set_cons_succ]
      refine wpAnyH_take (i := 16) (v := ?_) rfl (by kernel_rfl) (by kernel_rfl) (by kernel_rfl) (fun _ _ _ h => h) (Or.inl ⟨by rfl, ?hy⟩) (by assumption) ?_
      case hy => intro w hSw; obtain ⟨hS0, hS1, hS2, hS3, hS4, hS5, hS6, hS7, hS8, hS9, hS10, hS11⟩ := hSw; (try dsimp only at *); go_simp; (try with_reducible rfl)
      (try dsimp only [List.getElem_toArray, List.getElem_cons_zero, List.getElem_cons_succ])
      try simp only [Act.put, List.setIfInBounds_toArray, List.set_cons_zero, List.set_cons_succ]
      refine wpAnyH_take (i := 17) (v := ?_) rfl (by kernel_rfl) (by kernel_rfl) (by kernel_rfl) (fun _ _ _ h => h) (Or.inl ⟨by rfl, ?hy⟩) (by assumption) ?_
      case hy => intro w hSw; obtain ⟨hS0, hS1, hS2, hS3, hS4, hS5, hS6, hS7, hS8, hS9, hS10, hS11⟩ := hSw; (try dsimp only at *); go_simp; (try with_reducible rfl)
      (try dsimp only [List.getElem_toArray, List.getElem_cons_zero, List.getElem_cons_succ])
      try simp only [Act.put, List.setIfInBounds_toArray, List.set_cons_zero, List.set_cons_succ]
      refine wpAnyH_take (i := 18) (v := ?_) rfl (by kernel_rfl) (by kernel_rfl) (by kernel_rfl) (fun _ _ _ h => h) (Or.inl ⟨by rfl, ?hy⟩) (by assumption) ?_
      case hy => intro w hSw; obtain ⟨hS0, hS1, hS2, hS3, hS4, hS5, hS6, hS7, hS8, hS9, hS10, hS11⟩ := hSw; (try dsimp only at *); go_simp; (try with_reducible rfl)
      (try dsimp only [List.getElem_toArray, List.getElem_cons_zero, List.getElem_cons_succ])
      try simp only [Act.put, List.setIfInBounds_toArray, List.set_cons_zero, List.set_cons_succ]
      refine wpAnyH_take (i := 19) (v := ?_) rfl (by kernel_rfl) (by kernel_rfl) (by kernel_rfl) (fun _ _ _ h => h) (Or.inl ⟨by rfl, ?hy⟩) (by assumption) ?_
      case hy => intro w hSw; obtain ⟨hS0, hS1, hS2, hS3, hS4, hS5, hS6, hS7, hS8, hS9, hS10, hS11⟩ := hSw; (try dsimp only at *); go_simp; (try with_reducible rfl)
      (try dsimp only [List.getElem_toArray, List.getElem_cons_zero, List.getElem_cons_succ])
      try simp only [Act.put, List.setIfInBounds_toArray, List.set_cons_zero, List.set_cons_succ]
      refine wpAnyH_take (i := 20) (v := ?_) rfl (by kernel_rfl) (by kernel_rfl) (by kernel_rfl) (fun _ _ _ h => h) (Or.inl ⟨by rfl, ?hy⟩) (by assumption) ?_
      case hy => intro w hSw; obtain ⟨hS0, hS1, hS2, hS3, hS4, hS5, hS6, hS7, hS8, hS9, hS10, hS11⟩ := hSw; (try dsimp only at *); go_simp; (try with_reducible rfl)
      (try dsimp only [List.getElem_toArray, List.getElem_cons_zero, List.getElem_cons_succ])
      try simp only [Act.put, List.setIfInBounds_toArray, List.set_cons_zero, List.set_cons_succ]
      refine wpAnyH_take (i := 21) (v := ?_) rfl (by kernel_rfl) (by kernel_rfl) (by kernel_rfl) (fun _ _ _ h => h) (Or.inl ⟨by rfl, ?hy⟩) (by assumption) ?_
      case hy => intro w hSw; obtain ⟨hS0, hS1, hS2, hS3, hS4, hS5, hS6, hS7, hS8, hS9, hS10, hS11⟩ := hSw; (try dsimp only at *); go_simp; (try with_reducible rfl)
      (try dsimp only [List.getElem_toArray, List.getElem_cons_zero, List.getElem_cons_succ])
      try simp only [Act.put, List.setIfInBounds_toArray, List.set_cons_zero, List.set_cons_succ]
      refine wpAnyH_ready (rs := [22]) (by kernel_rfl) (by simp) ?_
      refine AllReadyH.cons rfl (fun K' hK => ?_) AllReadyH.nil
      go_simp
      go_at_call 8
      refine (own_any x.k x.o x.a x.b x.y _).mono ?_
      rintro e wa ⟨rfl, hb⟩
      have HW_wa : Hid (Below w.heap.size w wa) := hide (below_nextB (below_drewN HW_wr.out 1) (by exact HW_wr.out.size) hb)
      have HV_wa : Below wr.heap.size wr wa := below_undrew hb
      have waa0 : wa.cell? ⟨r, k * 17, none⟩ = some (.int .i64 x.id) := (HV_wa.cell (p := ⟨r, k * 17, none⟩) hrl).trans a0
      have waa1 : wa.cell? ⟨r, k * 17 + 1, none⟩ = some (.int .i64 x.k) := (HV_wa.cell (p := ⟨r, k * 17 + 1, none⟩) hrl).trans a1
      have waa2 : wa.cell? ⟨r, k * 17 + 2, none⟩ = some (.int .i64 x.o) := (HV_wa.cell (p := ⟨r, k * 17 + 2, none⟩) hrl).trans a2
      have waa3 : wa.cell? ⟨r, k * 17 + 3, none⟩ = some (.bool x.a) := (HV_wa.cell (p := ⟨r, k * 17 + 3, none⟩) hrl).trans a3
      have waa4 : wa.cell? ⟨r, k * 17 + 4, none⟩ = some (.bool x.b) := (HV_wa.cell (p := ⟨r, k * 17 + 4, none⟩) hrl).trans a4
      have waa5 : wa.cell? ⟨r, k * 17 + 5, none⟩ = some (.int .i64 x.y) := (HV_wa.cell (p := ⟨r, k * 17 + 5, none⟩) hrl).trans a5
      have wab0 : wa.cell? ⟨bb, ob + k * 6, none⟩ = some (.int .i64 x.id) := (HV_wa.cell (p := ⟨bb, ob + k * 6, none⟩) hbl).trans b0
      have wab1 : wa.cell? ⟨bb, ob + k * 6 + 1, none⟩ = some (.int .i64 x.k) := (HV_wa.cell (p := ⟨bb, ob + k * 6 + 1, none⟩) hbl).trans b1
      have wab2 : wa.cell? ⟨bb, ob + k * 6 + 2, none⟩ = some (.int .i64 x.o) := (HV_wa.cell (p := ⟨bb, ob + k * 6 + 2, none⟩) hbl).trans b2
      have wab3 : wa.cell? ⟨bb, ob + k * 6 + 3, none⟩ = some (.bool x.a) := (HV_wa.cell (p := ⟨bb, ob + k * 6 + 3, none⟩) hbl).trans b3
      have wab4 : wa.cell? ⟨bb, ob + k * 6 + 4, none⟩ = some (.bool x.b) := (HV_wa.cell (p := ⟨bb, ob + k * 6 + 4, none⟩) hbl).trans b4
      have wab5 : wa.cell? ⟨bb, ob + k * 6 + 5, none⟩ = some (.int .i64 x.y) := (HV_wa.cell (p := ⟨bb, ob + k * 6 + 5, none⟩) hbl).trans b5
      clear hb
      go_wp2_with fail
      refine hK.out _ _ ⟨waa0, waa1, waa2, waa3, waa4, waa5, wab0, wab1, wab2, wab3, wab4, wab5⟩ (fun hHeld => ?_)
      clear hK
      (try dsimp only [List.getElem_toArray, List.getElem_cons_zero, List.getElem_cons_succ])
      try simp only [Act.put, List.setIfInBounds_toArray, List.set_cons_zero, List.set_cons_succ]
      refine wpAnyH_take (i := 23) (v := ?_) rfl (by kernel_rfl) (by kernel_rfl) (by kernel_rfl) (fun _ _ _ h => h) (Or.inl ⟨by rfl, ?hy⟩) (by assumption) ?_
      case hy => intro w hSw; obtain ⟨hS0, hS1, hS2, hS3, hS4, hS5, hS6, hS7, hS8, hS9, hS10, hS11⟩ := hSw; (try dsimp only at *); go_simp; (try with_reducible rfl)
      (try dsimp only [List.getElem_toArray, List.getElem_cons_zero, List.getElem_cons_succ])
      try simp only [Act.put, List.setIfInBounds_toArray, List.set_cons_zero, List.set_cons_succ]
      refine wpAnyH_take (i := 24) (v := ?_) rfl (by kernel_rfl) (by kernel_rfl) (by kernel_rfl) (fun _ _ _ h => h) (Or.inl ⟨by rfl, ?hy⟩) (by assumption) ?_
      case hy => intro w hSw; obtain ⟨hS0, hS1, hS2, hS3, hS4, hS5, hS6, hS7, hS8, hS9, hS10, hS11⟩ := hSw; (try dsimp only at *); go_simp; (try with_reducible rfl)
      (try dsimp only [List.getElem_toArray, List.getElem_cons_zero, List.getElem_cons_succ])
      try simp only [Act.put, List.setIfInBounds_toArray, List.set_cons_zero, List.set_cons_succ]
      refine wpAnyH_take (i := 25) (v := ?_) rfl (by kernel_rfl) (by kernel_rfl) (by kernel_rfl) (fun _ _ _ h => h) (Or.inl ⟨by rfl, ?hy⟩) (by assumption) ?_
      case hy => intro w hSw; obtain ⟨hS0, hS1, hS2, hS3, hS4, hS5, hS6, hS7, hS8, hS9, hS10, hS11⟩ := hSw; (try dsimp only at *); go_simp; (try with_reducible rfl)
      (try dsimp only [List.getElem_toArray, List.getElem_cons_zero, List.getElem_cons_succ])
      try simp only [Act.put, List.setIfInBounds_toArray, List.set_cons_zero, List.set_cons_succ]
      refine wpAnyH_take (i := 26) (v := ?_) rfl (by kernel_rfl) (by kernel_rfl) (by kernel_rfl) (fun _ _ _ h => h) (Or.inl ⟨by rfl, ?hy⟩) (by assumption) ?_
      case hy => intro w hSw; obtain ⟨hS0, hS1, hS2, hS3, hS4, hS5, hS6, hS7, hS8, hS9, hS10, hS11⟩ := hSw; (try dsimp only at *); go_simp; (try with_reducible rfl)
      (try dsimp only [List.getElem_toArray, List.getElem_cons_zero, List.getElem_cons_succ])
      try simp only [Act.put, List.setIfInBounds_toArray, List.set_cons_zero, List.set_cons_succ]
      refine wpAnyH_take (i := 27) (v := ?_) rfl (by kernel_rfl) (by kernel_rfl) (by kernel_rfl) (fun _ _ _ h => h) (Or.inl ⟨by rfl, ?hy⟩) (by assumption) ?_
      case hy => intro w hSw; obtain ⟨hS0, hS1, hS2, hS3, hS4, hS5, hS6, hS7, hS8, hS9, hS10, hS11⟩ := hSw; (try dsimp only at *); go_simp; (try with_reducible rfl)
      (try dsimp only [List.getElem_toArray, List.getElem_cons_zero, List.getElem_cons_succ])
      try simp only [Act.put, List.setIfInBounds_toArray, List.set_cons_zero, List.set_cons_succ]
      refine wpAnyH_take (i := 28) (v := ?_) rfl (by kernel_rfl) (by kernel_rfl) (by kernel_rfl) (fun _ _ _ h => h) (Or.inl ⟨by rfl, ?hy⟩) (by assumption) ?_
      case hy => intro w hSw; obtain ⟨hS0, hS1, hS2, hS3, hS4, hS5, hS6, hS7, hS8, hS9, hS10, hS11⟩ := hSw; (try dsimp only at *); go_simp; (try with_reducible rfl)
      (try dsimp only [List.getElem_toArray, List.getElem_cons_zero, List.getElem_cons_succ])
      try simp only [Act.put, List.setIfInBounds_toArray, List.set_cons_zero, List.set_cons_succ]
      refine wpAnyH_take (i := 29) (v := ?_) rfl (by kernel_rfl) (by kernel_rfl) (by kernel_rfl) (fun _ _ _ h => h) (Or.inl ⟨by rfl, ?hy⟩) (by assumption) ?_
      case hy => intro w hSw; obtain ⟨hS0, hS1, hS2, hS3, hS4, hS5, hS6, hS7, hS8, hS9, hS10, hS11⟩ := hSw; (try dsimp only at *); go_simp; (try with_reducible rfl)
      (try dsimp only [List.getElem_toArray, List.getElem_cons_zero, List.getElem_cons_succ])
      try simp only [Act.put, List.setIfInBounds_toArray, List.set_cons_zero, List.set_cons_succ]
      refine wpAnyH_take (i := 30) (v := ?_) rfl (by kernel_rfl) (by kernel_rfl) (by kernel_rfl) (fun _ _ _ h => h) (Or.inl ⟨by rfl, ?hy⟩) (by assumption) ?_
      case hy => intro w hSw; obtain ⟨hS0, hS1, hS2, hS3, hS4, hS5, hS6, hS7, hS8, hS9, hS10, hS11⟩ := hSw; (try dsimp only at *); go_simp; (try with_reducible rfl)
      (try dsimp only [List.getElem_toArray, List.getElem_cons_zero, List.getElem_cons_succ])
      try simp only [Act.put, List.setIfInBounds_toArray, List.set_cons_zero, List.set_cons_succ]
      refine wpAnyH_take (i := 31) (v := ?_) rfl (by kernel_rfl) (by kernel_rfl) (by kernel_rfl) (fun _ _ _ h => h) (Or.inl ⟨by rfl, ?hy⟩) (by assumption) ?_
      case hy => intro w hSw; obtain ⟨hS0, hS1, hS2, hS3, hS4, hS5, hS6, hS7, hS8, hS9, hS10, hS11⟩ := hSw; (try dsimp only at *); go_simp; (try with_reducible rfl)
      (try dsimp only [List.getElem_toArray, List.getElem_cons_zero, List.getElem_cons_succ])
      try simp only [Act.put, List.setIfInBounds_toArray, List.set_cons_zero, List.set_cons_succ]
      refine wpAnyH_take (i := 33) (v := ?_) rfl (by kernel_rfl) (by kernel_rfl) (by kernel_rfl) (fun _ _ _ h => h) (Or.inl ⟨by rfl, ?hy⟩) (by assumption) ?_
      case hy => intro w hSw; obtain ⟨hS0, hS1, hS2, hS3, hS4, hS5, hS6, hS7, hS8, hS9, hS10, hS11⟩ := hSw; (try dsimp only at *); go_simp; (try with_reducible rfl)
      (try dsimp only [List.getElem_toArray, List.getElem_cons_zero, List.getElem_cons_succ])
      try simp only [Act.put, List.setIfInBounds_toArray, List.set_cons_zero, List.set_cons_succ]
      refine wpAnyH_take (i := 34) (v := ?_) rfl (by kernel_rfl) (by kernel_rfl) (by kernel_rfl) (fun _ _ _ h => h) (Or.inl ⟨by rfl, ?hy⟩) (by assumption) ?_
      case hy => intro w hSw; obtain ⟨hS0, hS1, hS2, hS3, hS4, hS5, hS6, hS7, hS8, hS9, hS10, hS11⟩ := hSw; (try dsimp only at *); go_simp; (try with_reducible rfl)
      (try dsimp only [List.getElem_toArray, List.getElem_cons_zero, List.getElem_cons_succ])
      try simp only [Act.put, List.setIfInBounds_toArray, List.set_cons_zero, List.set_cons_succ]
      refine wpAnyH_take (i := 35) (v := ?_) rfl (by kernel_rfl) (by kernel_rfl) (by kernel_rfl) (fun _ _ _ h => h) (Or.inl ⟨by rfl, ?hy⟩) (by assumption) ?_
      case hy => intro w hSw; obtain ⟨hS0, hS1, hS2, hS3, hS4, hS5, hS6, hS7, hS8, hS9, hS10, hS11⟩ := hSw; (try dsimp only at *); go_simp; (try with_reducible rfl)
      (try dsimp only [List.getElem_toArray, List.getElem_cons_zero, List.getElem_cons_succ])
      try simp only [Act.put, List.setIfInBounds_toArray, List.set_cons_zero, List.set_cons_succ]
      refine wpAnyH_take (i := 36) (v := ?_) rfl (by kernel_rfl) (by kernel_rfl) (by kernel_rfl) (fun _ _ _ h => h) (Or.inl ⟨by rfl, ?hy⟩) (by assumption) ?_
      case hy => intro w hSw; obtain ⟨hS0, hS1, hS2, hS3, hS4, hS5, hS6, hS7, hS8, hS9, hS10, hS11⟩ := hSw; (try dsimp only at *); go_simp; (try with_reducible rfl)
      (try dsimp only [List.getElem_toArray, List.getElem_cons_zero, List.getElem_cons_succ])
      try simp only [Act.put, List.setIfInBounds_toArray, List.set_cons_zero, List.set_cons_succ]
      refine wpAnyH_take (i := 37) (v := ?_) rfl (by kernel_rfl) (by kernel_rfl) (by kernel_rfl) (fun _ _ _ h => h) (Or.inl ⟨by rfl, ?hy⟩) (by assumption) ?_
      case hy => intro w hSw; obtain ⟨hS0, hS1, hS2, hS3, hS4, hS5, hS6, hS7, hS8, hS9, hS10, hS11⟩ := hSw; (try dsimp only at *); go_simp; (try with_reducible rfl)
      (try dsimp only [List.getElem_toArray, List.getElem_cons_zero, List.getElem_cons_succ])
      try simp only [Act.put, List.setIfInBounds_toArray, List.set_cons_zero, List.set_cons_succ]
      refine wpAnyH_ready (rs := [32]) (by kernel_rfl) (by simp) ?_
      refine AllReadyH.cons rfl (fun K' hK => ?_) AllReadyH.nil
      go_simp
      go_at_call 20
      refine (show Calls Try.prog 20 #[.pointer (some ⟨g, 0, none⟩), .int .i64 x.id] wa (fun e w' => e = .returned (.agg #[.int .i64 x.k, .int .i64 x.o, .bool x.a, .bool x.b, .int .i64 x.y]) ∧ Below wa.heap.size wa w') from state_op g x.id wa hn1 (hide (HR.out.kept HW_wa.out)) HX.out x.st HST).mono ?_
      rintro e wb ⟨rfl, hb⟩
      have HW_wb : Hid (Below w.heap.size w wb) := hide (below_nextB HW_wa.out HW_wa.out.size hb)
      have HV_wb : Below wr.heap.size wr wb := below_nextB HV_wa HV_wa.size hb
      have wba0 : wb.cell? ⟨r, k * 17, none⟩ = some (.int .i64 x.id) := (HV_wb.cell (p := ⟨r, k * 17, none⟩) hrl).trans a0
      have wba1 : wb.cell? ⟨r, k * 17 + 1, none⟩ = some (.int .i64 x.k) := (HV_wb.cell (p := ⟨r, k * 17 + 1, none⟩) hrl).trans a1
      have wba2 : wb.cell? ⟨r, k * 17 + 2, none⟩ = some (.int .i64 x.o) := (HV_wb.cell (p := ⟨r, k * 17 + 2, none⟩) hrl).trans a2
      have wba3 : wb.cell? ⟨r, k * 17 + 3, none⟩ = some (.bool x.a) := (HV_wb.cell (p := ⟨r, k * 17 + 3, none⟩) hrl).trans a3
      have wba4 : wb.cell? ⟨r, k * 17 + 4, none⟩ = some (.bool x.b) := (HV_wb.cell (p := ⟨r, k * 17 + 4, none⟩) hrl).trans a4
      have wba5 : wb.cell? ⟨r, k * 17 + 5, none⟩ = some (.int .i64 x.y) := (HV_wb.cell (p := ⟨r, k * 17 + 5, none⟩) hrl).trans a5
      have wbb0 : wb.cell? ⟨bb, ob + k * 6, none⟩ = some (.int .i64 x.id) := (HV_wb.cell (p := ⟨bb, ob + k * 6, none⟩) hbl).trans b0
      have wbb1 : wb.cell? ⟨bb, ob + k * 6 + 1, none⟩ = some (.int .i64 x.k) := (HV_wb.cell (p := ⟨bb, ob + k * 6 + 1, none⟩) hbl).trans b1
      have wbb2 : wb.cell? ⟨bb, ob + k * 6 + 2, none⟩ = some (.int .i64 x.o) := (HV_wb.cell (p := ⟨bb, ob + k * 6 + 2, none⟩) hbl).trans b2
      have wbb3 : wb.cell? ⟨bb, ob + k * 6 + 3, none⟩ = some (.bool x.a) := (HV_wb.cell (p := ⟨bb, ob + k * 6 + 3, none⟩) hbl).trans b3
      have wbb4 : wb.cell? ⟨bb, ob + k * 6 + 4, none⟩ = some (.bool x.b) := (HV_wb.cell (p := ⟨bb, ob + k * 6 + 4, none⟩) hbl).trans b4
      have wbb5 : wb.cell? ⟨bb, ob + k * 6 + 5, none⟩ = some (.int .i64 x.y) := (HV_wb.cell (p := ⟨bb, ob + k * 6 + 5, none⟩) hbl).trans b5
      clear hb
      go_wp2_with fail
      refine hK.out _ _ ⟨wba0, wba1, wba2, wba3, wba4, wba5, wbb0, wbb1, wbb2, wbb3, wbb4, wbb5⟩ (fun hHeld => ?_)
      clear hK
      (try dsimp only [List.getElem_toArray, List.getElem_cons_zero, List.getElem_cons_succ])
      try simp only [Act.put, List.setIfInBounds_toArray, List.set_cons_zero, List.set_cons_succ]
      refine wpAnyH_ready (rs := [38]) (by kernel_rfl) (by simp) ?_
      refine AllReadyH.cons rfl (fun K' hK => ?_) AllReadyH.nil
      go_simp
      go_at_call 8
      refine (own_any x.k x.o x.a x.b x.y _).mono ?_
      rintro e wc ⟨rfl, hb⟩
      have HW_wc : Hid (Below w.heap.size w wc) := hide (below_nextB HW_wb.out HW_wb.out.size hb)
      have HV_wc : Below wr.heap.size wr wc := below_nextB HV_wb HV_wb.size hb
      have wca0 : wc.cell? ⟨r, k * 17, none⟩ = some (.int .i64 x.id) := (HV_wc.cell (p := ⟨r, k * 17, none⟩) hrl).trans a0
      have wca1 : wc.cell? ⟨r, k * 17 + 1, none⟩ = some (.int .i64 x.k) := (HV_wc.cell (p := ⟨r, k * 17 + 1, none⟩) hrl).trans a1
      have wca2 : wc.cell? ⟨r, k * 17 + 2, none⟩ = some (.int .i64 x.o) := (HV_wc.cell (p := ⟨r, k * 17 + 2, none⟩) hrl).trans a2
      have wca3 : wc.cell? ⟨r, k * 17 + 3, none⟩ = some (.bool x.a) := (HV_wc.cell (p := ⟨r, k * 17 + 3, none⟩) hrl).trans a3
      have wca4 : wc.cell? ⟨r, k * 17 + 4, none⟩ = some (.bool x.b) := (HV_wc.cell (p := ⟨r, k * 17 + 4, none⟩) hrl).trans a4
      have wca5 : wc.cell? ⟨r, k * 17 + 5, none⟩ = some (.int .i64 x.y) := (HV_wc.cell (p := ⟨r, k * 17 + 5, none⟩) hrl).trans a5
      have wcb0 : wc.cell? ⟨bb, ob + k * 6, none⟩ = some (.int .i64 x.id) := (HV_wc.cell (p := ⟨bb, ob + k * 6, none⟩) hbl).trans b0
      have wcb1 : wc.cell? ⟨bb, ob + k * 6 + 1, none⟩ = some (.int .i64 x.k) := (HV_wc.cell (p := ⟨bb, ob + k * 6 + 1, none⟩) hbl).trans b1
      have wcb2 : wc.cell? ⟨bb, ob + k * 6 + 2, none⟩ = some (.int .i64 x.o) := (HV_wc.cell (p := ⟨bb, ob + k * 6 + 2, none⟩) hbl).trans b2
      have wcb3 : wc.cell? ⟨bb, ob + k * 6 + 3, none⟩ = some (.bool x.a) := (HV_wc.cell (p := ⟨bb, ob + k * 6 + 3, none⟩) hbl).trans b3
      have wcb4 : wc.cell? ⟨bb, ob + k * 6 + 4, none⟩ = some (.bool x.b) := (HV_wc.cell (p := ⟨bb, ob + k * 6 + 4, none⟩) hbl).trans b4
      have wcb5 : wc.cell? ⟨bb, ob + k * 6 + 5, none⟩ = some (.int .i64 x.y) := (HV_wc.cell (p := ⟨bb, ob + k * 6 + 5, none⟩) hbl).trans b5
      clear hb
      go_wp2_with fail
      refine hK.out _ _ ⟨wca0, wca1, wca2, wca3, wca4, wca5, wcb0, wcb1, wcb2, wcb3, wcb4, wcb5⟩ (fun hHeld => ?_)
      clear hK
      (try dsimp only [List.getElem_toArray, List.getElem_cons_zero, List.getElem_cons_succ])
      try simp only [Act.put, List.setIfInBounds_toArray, List.set_cons_zero, List.set_cons_succ]
      refine wpAnyH_take (i := 39) (v := ?_) rfl (by kernel_rfl) (by kernel_rfl) (by kernel_rfl) (fun _ _ _ h => h) (Or.inl ⟨by rfl, ?hy⟩) (by assumption) ?_
      case hy => intro w hSw; obtain ⟨hS0, hS1, hS2, hS3, hS4, hS5, hS6, hS7, hS8, hS9, hS10, hS11⟩ := hSw; (try dsimp only at *); go_simp; (try with_reducible rfl)
      (try dsimp only [List.getElem_toArray, List.getElem_cons_zero, List.getElem_cons_succ])
      try simp only [Act.put, List.setIfInBounds_toArray, List.set_cons_zero, List.set_cons_succ]
      refine wpAnyH_take (i := 40) (v := ?_) rfl (by kernel_rfl) (by kernel_rfl) (by kernel_rfl) (fun _ _ _ h => h) (Or.inl ⟨by rfl, ?hy⟩) (by assumption) ?_
      case hy => intro w hSw; obtain ⟨hS0, hS1, hS2, hS3, hS4, hS5, hS6, hS7, hS8, hS9, hS10, hS11⟩ := hSw; (try dsimp only at *); go_simp; (try with_reducible rfl)
      (try dsimp only [List.getElem_toArray, List.getElem_cons_zero, List.getElem_cons_succ])
      try simp only [Act.put, List.setIfInBounds_toArray, List.set_cons_zero, List.set_cons_succ]
      refine wpAnyH_done (by kernel_rfl) ?_ _
      try refine NoPanic.normal ?_
      go_wp2_with fail
      go_roundw
      case rel => exact ⟨k + 1, by go_num, by omega, hide (below_nextB HW.out HW.out.size HV_wc)⟩
      case measure => simp [intOf]; omega
    · go_wp2_with fail
      go_loopw [9] (fun ii wq => ∃ (z : Int), ii = .int .i64 z ∧ -1 ≤ z ∧ z ≤ 3 ∧ Hid (Below w.heap.size w wq)) (fun ii _ => (3 - intOf ii).toNat)
      case atStart => exact ⟨-1, rfl, by omega, by omega, HW_wr⟩
      case round =>
        obtain ⟨z, rfl, hz1, hz3, HQ⟩ := hrel
        by_cases hz2 : z ≤ 2
        · obtain ⟨y, hy⟩ : ∃ y, lastL l z = y := ⟨_, rfl⟩
          obtain ⟨t, ht2⟩ : ∃ t : Nat, activeL l z = t := ⟨_, rfl⟩
          have HLA := fun w H => hide (last_op (M := M) (F := F) (l := l) g z w H)
          have HLB := fun w H => hide (rlast_any z K A n c l w hn2 H ht)
          have HAA := fun w H => hide (active_op (M := M) (F := F) (l := l) g z w hn1 H)
          have HAB := fun w H => hide (ractive_any z K A n c l w hn2 H)
          rw [hy] at HLA HLB
          rw [ht2] at HAA HAB
          clear hy ht2
          go_wp2_with fail
          refine (HLA _ (hide (HR.out.kept HQ.out))).out.mono ?_
          rintro e w5 ⟨rfl, rfl⟩
          go_wp2_with fail
          refine (HLB _ (hide (HF.out.kept HQ.out))).out.mono ?_
          rintro e w5 ⟨rfl, rfl⟩
          go_wp2_with fail
          refine (HAA _ (hide (HR.out.kept HQ.out))).out.mono ?_
          rintro e w5 ⟨rfl, hb⟩
          have HQ5 : Hid (Below w.heap.size w w5) := hide (below_nextB HQ.out HQ.out.size hb)
          clear hb
          go_wp2_with fail
          refine (HAB _ (hide (HF.out.kept HQ5.out))).out.mono ?_
          rintro e w6 ⟨rfl, rfl⟩
          go_wp2_with fail
          go_roundw
          case rel => exact ⟨z + 1, by go_num, by omega, by omega, HQ5⟩
          case measure => simp [intOf]; omega
        · go_wp2_with fail
          go_ret
          exact ⟨rfl, HQ.out⟩

end Go.Proofs.Ytngligcjcdpnhaa
