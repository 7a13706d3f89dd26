/- RosterPlays: the walk. -/
import Derived.Test.YtngligcjcdpnhaaZc
namespace Go.Proofs.Ytngligcjcdpnhaa
open Go.RowKit Go.Maps
set_option linter.unusedSimpArgs false
set_option linter.unusedVariables false

/-- A deed: a stream that is put in its place (set), or begun. -/
structure Dd where
  set : Bool
  id : Int
  k : Int
  o : Int
  a : Bool
  b : Bool
  y : Int
def Dd.sm (d : Dd) : Sm := ⟨d.id, d.k, d.o, d.a, d.b, d.y, 0, 0⟩
def row7 (d : Dd) : List Value := [.bool d.set, .int .i64 d.id, .int .i64 d.k, .int .i64 d.o, .bool d.a, .bool d.b, .int .i64 d.y]
def cells7 (l : List Dd) : List Value := l.flatMap row7
theorem cells7_get : ∀ {l : List Dd} {i : Nat} {d : Dd}, l[i]? = some d → ∀ j, j < 7 → (cells7 l)[i * 7 + j]? = (row7 d)[j]?
  | [], i, d, h, j, hj => by simp at h
  | z :: l, 0, d, h, j, hj => by
    simp at h; subst h
    unfold cells7
    rw [List.flatMap_cons, Nat.zero_mul, Nat.zero_add, List.getElem?_append_left (by exact hj)]
  | z :: l, i + 1, d, h, j, hj => by
    have := cells7_get (l := l) (i := i) (d := d) (by simpa using h) j hj
    unfold cells7 at this ⊢
    have hl : (row7 z).length = 7 := rfl
    rw [List.flatMap_cons, List.getElem?_append_right (by rw [hl]; omega), hl, show (i + 1) * 7 + j - 7 = i * 7 + j by omega]
    exact this
theorem sees7 {w : World} {A : Option Addr} {l : List Dd} (h : Sees w A (cells7 l)) {i : Nat} {d : Dd} (hi : l[i]? = some d) : ∃ g o, A = some ⟨g, o, none⟩ ∧ ∀ j v, (row7 d)[j]? = some v → w.cell? ⟨g, o + i * 7 + j, none⟩ = some v := by
  have h0 : (cells7 l)[i * 7 + 0]? = some (.bool d.set) := (cells7_get hi 0 (by omega)).trans rfl
  obtain ⟨g, o, hA, _⟩ := h _ _ h0
  refine ⟨g, o, hA, fun j v hv => ?_⟩
  have hj : j < 7 := (List.getElem?_eq_some_iff.1 hv).1
  obtain ⟨g', o', e', hc⟩ := h (i * 7 + j) v ((cells7_get hi j hj).trans hv)
  rw [hA] at e'
  injection e' with e'
  injection e' with e1 e2
  subst e1 e2
  rw [Nat.add_assoc]
  exact hc
theorem begE_max {l : List Sm} {m : Sm} {most M : Int} (h : M = if most < 0 then 0 else most) : begE l m M = begE l m most := by
  unfold begE
  have : ((l.length : Int) < M) ↔ ((l.length : Int) < most) := by subst h; split <;> omega
  simp only [this]
theorem begL_max {l : List Sm} {m : Sm} {most M : Int} (h : M = if most < 0 then 0 else most) : begL l m M = begL l m most := by
  unfold begL
  have : ((l.length : Int) < M) ↔ ((l.length : Int) < most) := by subst h; split <;> omega
  simp only [this]
/-- The roster and the reference's list, after the same deeds. -/
structure Both (w wr : World) (g : Nat) (M : Int) (F : List Nat) (ls : List Sm) (A : Option Addr) (n c : Nat) : Prop where
  ro : Ro wr g M ls F
  rf : Rf wr (fun b => b ∉ F) A n c ls
  ok : Ok ls
  bel : Below w.heap.size w wr
  fr : ∀ b ∈ F, w.heap.size ≤ b
section
variable {w wr w' : World} {g : Nat} {M : Int} {F F' : List Nat} {ls ls' : List Sm} {A A' : Option Addr} {n c n' c' : Nat}
theorem Both.kept (h : Both w wr g M F ls A n c) (hb : Below wr.heap.size wr w') : Both w w' g M F ls A n c := ⟨h.ro.kept hb, h.rf.kept hb, h.ok, below_nextB h.bel h.bel.size hb, h.fr⟩
/-- The roster moves on. -/
theorem both_ro (h : Both w wr g M F ls A n c) (ho : Only F wr w') (hF : ∀ b ∈ F', b ∈ F ∨ wr.heap.size ≤ b) : Rf w' (fun b => b ∉ F' ∧ b < w'.heap.size) A n c ls ∧ Below w.heap.size w w' ∧ ∀ b ∈ F', w.heap.size ≤ b := by
  refine ⟨?_, h.bel.trans (ho.below h.bel.size h.fr), fun b hb => ?_⟩
  · have h1 : Rf wr (fun b => b ∉ F ∧ b < wr.heap.size) A n c ls := h.rf.mono (fun b hb hk => ⟨hk, hb⟩)
    have h2 := h1.only ho (fun b hk => hk.1)
    refine h2.mono (fun b _ hk => ⟨fun hm => ?_, Nat.lt_of_lt_of_le hk.2 ho.size⟩)
    rcases hF b hm with h3 | h3
    · exact hk.1 h3
    · have := hk.2; omega
  · rcases hF b hb with h3 | h3
    · exact h.fr b h3
    · exact Nat.le_trans h.bel.size h3
/-- .. and so does the list. -/
theorem both_next (hr : Ro wr g M ls' F') (hok : Ok ls') (hbl : Below w.heap.size w wr) (hfr : ∀ b ∈ F', w.heap.size ≤ b) (hf : Rf w' (fun b => (b ∉ F' ∧ b < wr.heap.size) ∨ wr.heap.size ≤ b) A' n' c' ls') (hb : Below wr.heap.size wr w') : Both w w' g M F' ls' A' n' c' :=
  ⟨hr.kept hb, hf.mono (fun b _ hk => by
    rcases hk with h | h
    · exact h.1
    · exact fun hm => by have := hr.lt b hm; omega), hok, below_nextB hbl hbl.size hb, hfr⟩
end

set_option maxRecDepth 100000 in
theorem plays_far (most id : Int) (A : Option Addr) (n c : Nat) (w : World) (h : 40 < n) (hn : n ≤ maxLen) : Calls Try.prog 3 #[.int .i64 most, .slice A n c, .int .i64 id] w fun e w' => e = .returned (.bool true) ∧ Below w.heap.size w w' := by
  go_enter Try.func3, Try.ntmps3
  go_wp2_with fail
  refine (alive_any _).mono ?_
  rintro e w1 ⟨rfl, hb⟩
  go_wp2_with fail
  go_ret
  exact ⟨rfl, hb⟩

set_option maxRecDepth 100000 in
set_option maxHeartbeats 8000000 in
theorem plays_near (most id : Int) (A : Option Addr) (n c : Nat) (ds : List Dd) (w : World) (h : n ≤ 40) (HL : Hid (ds.length = n)) (HS : Hid (Sees w A (cells7 ds))) (HW : Hid (∀ d ∈ ds, (Lit.int .i64 d.id).wf = true)) (HX0 : Hid ((Lit.int .i64 id).wf = true)) : Calls Try.prog 3 #[.int .i64 most, .slice A n c, .int .i64 id] w fun e w' => e = .returned (.bool true) ∧ Below w.heap.size w w' := by
  obtain ⟨M, hM⟩ : ∃ M : Int, M = if most < 0 then 0 else most := ⟨_, rfl⟩
  have HMM := hide hM
  clear hM
  go_enter Try.func3, Try.ntmps3
  go_wp2_with fail
  refine (new_any most M w HMM).mono ?_
  rintro e w1 ⟨rfl, hR, hb⟩
  have HB1 : Hid (Both w w1 w.heap.size M [w.heap.size] [] none 0 0) := hide ⟨hR, Rf.nil _ _, Ok.nil, hb, fun b hb => by rw [List.mem_singleton.1 hb]; exact Nat.le_refl _⟩
  obtain ⟨g, hg⟩ : ∃ g, w.heap.size = g := ⟨_, rfl⟩
  have HG := hide hg
  rw [hg] at HB1
  rw [hg]
  clear hR hb hg
  go_wp2_with fail
  go_loopw [8, 32] (fun mm ii wr => ∃ (k : Nat) (A1 : Option Addr) (n1 c1 : Nat) (ls : List Sm) (F : List Nat), ii = .int .i64 (k : Nat) ∧ mm = .slice A1 n1 c1 ∧ k ≤ n ∧ n1 ≤ k ∧ Hid (Both w wr g M F ls A1 n1 c1)) (fun _ ii _ => n - (intOf ii).toNat)
  case atStart => exact ⟨0, none, 0, 0, [], [g], rfl, rfl, Nat.zero_le _, Nat.le_refl _, HB1⟩
  case round =>
    clear HB1
    obtain ⟨k, A1, n1, c1, ls, F, rfl, rfl, hk, hn1, HB⟩ := hrel
    by_cases hlt : k < n
    · have hki : (k : Int) < (n : Int) := by omega
      obtain ⟨d, hd⟩ : ∃ d, ds[k]? = some d := ⟨_, List.getElem?_eq_getElem (by have := HL.out; omega)⟩
      have HWF : Hid ((Lit.int .i64 d.sm.id).wf = true) := hide (HW.out d (List.mem_of_getElem? hd))
      have HLS := hide HB.out.rf.len
      have hls : ls.length ≤ 1000 := by rw [HLS.out]; omega
      have HOK := hide HB.out.ok
      have HT : Hid (∀ m ∈ ls, -9223372036854775808 ≤ m.id ∧ m.id ≤ 9223372036854775807) := hide (fun m hm => wf_i64 (wf_may (HOK.out.may m hm)))
      have HFL := hide HB.out.ro.lt
      obtain ⟨bb, oo, rfl, t⟩ := sees7 HS.out hd
      have hbb : bb < w.heap.size := World.block_lt_of_cell? w _ (t 0 _ rfl)
      have u : ∀ j v, (row7 d)[j]? = some v → wr.cell? ⟨bb, oo + k * 7 + j, none⟩ = some v := fun j v hv => (HB.out.bel.cell (p := ⟨bb, oo + k * 7 + j, none⟩) hbb).trans (t j v hv)
      have s0 : wr.cell? ⟨bb, oo + k * 7, none⟩ = some (.bool d.set) := by have := u 0 _ rfl; simpa using this
      have s1 : wr.cell? ⟨bb, oo + k * 7 + 1, none⟩ = some (.int .i64 d.id) := u 1 _ rfl
      have s2 : wr.cell? ⟨bb, oo + k * 7 + 2, none⟩ = some (.int .i64 d.k) := u 2 _ rfl
      have s3 : wr.cell? ⟨bb, oo + k * 7 + 3, none⟩ = some (.int .i64 d.o) := u 3 _ rfl
      have s4 : wr.cell? ⟨bb, oo + k * 7 + 4, none⟩ = some (.bool d.a) := u 4 _ rfl
      have s5 : wr.cell? ⟨bb, oo + k * 7 + 5, none⟩ = some (.bool d.b) := u 5 _ rfl
      have s6 : wr.cell? ⟨bb, oo + k * 7 + 6, none⟩ = some (.int .i64 d.y) := u 6 _ rfl
      clear t u hd
      obtain ⟨v, hv⟩ : ∃ v, wr.heap.size = v := ⟨_, rfl⟩
      obtain ⟨w5, hw5⟩ : ∃ w5, wr.alloc (.cells #[.bool d.set, .int .i64 d.id, .int .i64 d.k, .int .i64 d.o, .bool d.a, .bool d.b, .int .i64 d.y] 31) = w5 := ⟨_, rfl⟩
      have HW5 : Hid (Below wr.heap.size wr w5) := hide (by rw [← hw5]; exact st_alloc1 wr _)
      have HX : Hid (Blk w5 v 31 #[.bool d.set, .int .i64 d.id, .int .i64 d.k, .int .i64 d.o, .bool d.a, .bool d.b, .int .i64 d.y]) := hide (by rw [← hw5, ← hv]; exact Blk.born wr 31 _)
      have x0 : w5.cell? ⟨v, 0, none⟩ = some (.bool d.set) := HX.out.cell 0
      have x1 : w5.cell? ⟨v, 1, none⟩ = some (.int .i64 d.id) := HX.out.cell 1
      have x2 : w5.cell? ⟨v, 2, none⟩ = some (.int .i64 d.k) := HX.out.cell 2
      have x3 : w5.cell? ⟨v, 3, none⟩ = some (.int .i64 d.o) := HX.out.cell 3
      have x4 : w5.cell? ⟨v, 4, none⟩ = some (.bool d.a) := HX.out.cell 4
      have x5 : w5.cell? ⟨v, 5, none⟩ = some (.bool d.b) := HX.out.cell 5
      have x6 : w5.cell? ⟨v, 6, none⟩ = some (.int .i64 d.y) := HX.out.cell 6
      have HWV := hide hv
      clear hls
      have hls : ls.length ≤ 1000 := by rw [HLS.out]; omega
      have size31 : (Try.prog.info? 31).map (·.size) = some 7 := by kernel_rfl
      cases hds : d.set
      all_goals
        have HDS := hide hds
        clear hds
      · go_wp2_with (refine wpList_store_fresh rfl 31 (.tmp 10) (.tmp 35) rfl _ #[.bool d.set, .int .i64 d.id, .int .i64 d.k, .int .i64 d.o, .bool d.a, .bool d.b, .int .i64 d.y] v hv (by rfl) (by rfl) size31 rfl (by simp [Value.oneCell']) ?_; rw [hw5])
        clear s0 s1 s2 s3 s4 s5 s6 hw5 hv
        refine wp_region_held_drew (S := fun w' => w'.cell? ⟨v, 1, none⟩ = some (.int .i64 d.id) ∧ w'.cell? ⟨v, 2, none⟩ = some (.int .i64 d.k) ∧ w'.cell? ⟨v, 3, none⟩ = some (.int .i64 d.o) ∧ w'.cell? ⟨v, 4, none⟩ = some (.bool d.a) ∧ w'.cell? ⟨v, 5, none⟩ = some (.bool d.b) ∧ w'.cell? ⟨v, 6, none⟩ = some (.int .i64 d.y)) (by kernel_rfl) (⟨x1, x2, x3, x4, x5, x6⟩) (fun hHeld => ?_)
        refine wpAnyH_take (i := 0) (v := ?_) rfl (by kernel_rfl) (by kernel_rfl) (by kernel_rfl) (fun _ _ _ h => h) (Or.inl ⟨by rfl, ?hy⟩) (by assumption) ?_
        case hy => intro w hSw; obtain ⟨hS1, hS2, hS3, hS4, hS5, hS6⟩ := hSw; (try dsimp only at *); go_simp; (try with_reducible rfl)
        (try dsimp only [List.getElem_toArray, List.getElem_cons_zero, List.getElem_cons_succ])
        try simp only [Act.put, List.setIfInBounds_toArray, List.set_cons_zero, List.set_cons_succ]
        refine wpAnyH_take (i := 1) (v := ?_) rfl (by kernel_rfl) (by kernel_rfl) (by kernel_rfl) (fun _ _ _ h => h) (Or.inl ⟨by rfl, ?hy⟩) (by assumption) ?_
        case hy => intro w hSw; obtain ⟨hS1, hS2, hS3, hS4, hS5, hS6⟩ := hSw; (try dsimp only at *); go_simp; (try with_reducible rfl)
        (try dsimp only [List.getElem_toArray, List.getElem_cons_zero, List.getElem_cons_succ])
        try simp only [Act.put, List.setIfInBounds_toArray, List.set_cons_zero, List.set_cons_succ]
        refine wpAnyH_take (i := 2) (v := ?_) rfl (by kernel_rfl) (by kernel_rfl) (by kernel_rfl) (fun _ _ _ h => h) (Or.inl ⟨by rfl, ?hy⟩) (by assumption) ?_
        case hy => intro w hSw; obtain ⟨hS1, hS2, hS3, hS4, hS5, hS6⟩ := hSw; (try dsimp only at *); go_simp; (try with_reducible rfl)
        (try dsimp only [List.getElem_toArray, List.getElem_cons_zero, List.getElem_cons_succ])
        try simp only [Act.put, List.setIfInBounds_toArray, List.set_cons_zero, List.set_cons_succ]
        refine wpAnyH_take (i := 3) (v := ?_) rfl (by kernel_rfl) (by kernel_rfl) (by kernel_rfl) (fun _ _ _ h => h) (Or.inl ⟨by rfl, ?hy⟩) (by assumption) ?_
        case hy => intro w hSw; obtain ⟨hS1, hS2, hS3, hS4, hS5, hS6⟩ := hSw; (try dsimp only at *); go_simp; (try with_reducible rfl)
        (try dsimp only [List.getElem_toArray, List.getElem_cons_zero, List.getElem_cons_succ])
        try simp only [Act.put, List.setIfInBounds_toArray, List.set_cons_zero, List.set_cons_succ]
        refine wpAnyH_ready (rs := [4, 6]) (by kernel_rfl) (by simp) ?_
        refine AllReadyH.cons rfl (fun K' hK => ?_) (AllReadyH.cons rfl (fun K' hK => ?_) AllReadyH.nil)
        · go_simp
          go_at_call 8
          refine (own_any d.k d.o d.a d.b d.y _).mono ?_
          rintro e wa ⟨rfl, hb⟩
          have HV_wa : Hid (Below w5.heap.size w5 wa) := hide (below_undrew hb)
          have HX_wa := hide (HX.out.kept HV_wa.out)

          have wa_1 : wa.cell? ⟨v, 1, none⟩ = some (.int .i64 d.id) := HX_wa.out.cell 1
          have wa_2 : wa.cell? ⟨v, 2, none⟩ = some (.int .i64 d.k) := HX_wa.out.cell 2
          have wa_3 : wa.cell? ⟨v, 3, none⟩ = some (.int .i64 d.o) := HX_wa.out.cell 3
          have wa_4 : wa.cell? ⟨v, 4, none⟩ = some (.bool d.a) := HX_wa.out.cell 4
          have wa_5 : wa.cell? ⟨v, 5, none⟩ = some (.bool d.b) := HX_wa.out.cell 5
          have wa_6 : wa.cell? ⟨v, 6, none⟩ = some (.int .i64 d.y) := HX_wa.out.cell 6
          clear hb
          go_wp2_with fail
          refine hK.out _ _ ⟨wa_1, wa_2, wa_3, wa_4, wa_5, wa_6⟩ (fun hHeld => ?_)
          clear hK
          (try dsimp only [List.getElem_toArray, List.getElem_cons_zero, List.getElem_cons_succ])
          try simp only [Act.put, List.setIfInBounds_toArray, List.set_cons_zero, List.set_cons_succ]
          refine wpAnyH_take (i := 5) (v := ?_) rfl (by kernel_rfl) (by kernel_rfl) (by kernel_rfl) (fun _ _ _ h => h) (Or.inl ⟨by rfl, ?hy⟩) (by assumption) ?_
          case hy => intro w hSw; obtain ⟨hS1, hS2, hS3, hS4, hS5, hS6⟩ := hSw; (try dsimp only at *); go_simp; (try with_reducible rfl)
          (try dsimp only [List.getElem_toArray, List.getElem_cons_zero, List.getElem_cons_succ])
          try simp only [Act.put, List.setIfInBounds_toArray, List.set_cons_zero, List.set_cons_succ]
          refine wpAnyH_ready (rs := [6]) (by kernel_rfl) (by simp) ?_
          refine AllReadyH.cons rfl (fun K' hK => ?_) AllReadyH.nil
          obtain ⟨v2, hv2⟩ : ∃ v2, wa.heap.size = v2 := ⟨_, rfl⟩
          have HZ_wb : Hid (Blk (wa.alloc (.cells #[.int .i64 0, .int .i64 0, .int .i64 0, .bool false, .bool false, .int .i64 0, .complex .f64 0 0, .bool false, .string ⟨#[]⟩, .int .i64 0, .int .i64 0, .int .i64 0, .bool false, .string ⟨#[]⟩, .int .i64 0, .int .i64 0, .int .i64 0] 41)) v2 41 #[.int .i64 0, .int .i64 0, .int .i64 0, .bool false, .bool false, .int .i64 0, .complex .f64 0 0, .bool false, .string ⟨#[]⟩, .int .i64 0, .int .i64 0, .int .i64 0, .bool false, .string ⟨#[]⟩, .int .i64 0, .int .i64 0, .int .i64 0]) := hide (by rw [← hv2]; exact (Blk.born wa 41 _))
          have HV_wb : Hid (Below w5.heap.size w5 (wa.alloc (.cells #[.int .i64 0, .int .i64 0, .int .i64 0, .bool false, .bool false, .int .i64 0, .complex .f64 0 0, .bool false, .string ⟨#[]⟩, .int .i64 0, .int .i64 0, .int .i64 0, .bool false, .string ⟨#[]⟩, .int .i64 0, .int .i64 0, .int .i64 0] 41))) := hide (HV_wa.out.alloc HV_wa.out.size _)
          have HX_wb := hide (HX.out.kept HV_wb.out)
          have wb_1 : (wa.alloc (.cells #[.int .i64 0, .int .i64 0, .int .i64 0, .bool false, .bool false, .int .i64 0, .complex .f64 0 0, .bool false, .string ⟨#[]⟩, .int .i64 0, .int .i64 0, .int .i64 0, .bool false, .string ⟨#[]⟩, .int .i64 0, .int .i64 0, .int .i64 0] 41)).cell? ⟨v, 1, none⟩ = some (.int .i64 d.id) := HX_wb.out.cell 1
          have wb_2 : (wa.alloc (.cells #[.int .i64 0, .int .i64 0, .int .i64 0, .bool false, .bool false, .int .i64 0, .complex .f64 0 0, .bool false, .string ⟨#[]⟩, .int .i64 0, .int .i64 0, .int .i64 0, .bool false, .string ⟨#[]⟩, .int .i64 0, .int .i64 0, .int .i64 0] 41)).cell? ⟨v, 2, none⟩ = some (.int .i64 d.k) := HX_wb.out.cell 2
          have wb_3 : (wa.alloc (.cells #[.int .i64 0, .int .i64 0, .int .i64 0, .bool false, .bool false, .int .i64 0, .complex .f64 0 0, .bool false, .string ⟨#[]⟩, .int .i64 0, .int .i64 0, .int .i64 0, .bool false, .string ⟨#[]⟩, .int .i64 0, .int .i64 0, .int .i64 0] 41)).cell? ⟨v, 3, none⟩ = some (.int .i64 d.o) := HX_wb.out.cell 3
          have wb_4 : (wa.alloc (.cells #[.int .i64 0, .int .i64 0, .int .i64 0, .bool false, .bool false, .int .i64 0, .complex .f64 0 0, .bool false, .string ⟨#[]⟩, .int .i64 0, .int .i64 0, .int .i64 0, .bool false, .string ⟨#[]⟩, .int .i64 0, .int .i64 0, .int .i64 0] 41)).cell? ⟨v, 4, none⟩ = some (.bool d.a) := HX_wb.out.cell 4
          have wb_5 : (wa.alloc (.cells #[.int .i64 0, .int .i64 0, .int .i64 0, .bool false, .bool false, .int .i64 0, .complex .f64 0 0, .bool false, .string ⟨#[]⟩, .int .i64 0, .int .i64 0, .int .i64 0, .bool false, .string ⟨#[]⟩, .int .i64 0, .int .i64 0, .int .i64 0] 41)).cell? ⟨v, 5, none⟩ = some (.bool d.b) := HX_wb.out.cell 5
          have wb_6 : (wa.alloc (.cells #[.int .i64 0, .int .i64 0, .int .i64 0, .bool false, .bool false, .int .i64 0, .complex .f64 0 0, .bool false, .string ⟨#[]⟩, .int .i64 0, .int .i64 0, .int .i64 0, .bool false, .string ⟨#[]⟩, .int .i64 0, .int .i64 0, .int .i64 0] 41)).cell? ⟨v, 6, none⟩ = some (.int .i64 d.y) := HX_wb.out.cell 6
          go_simp
          refine hK.out _ _ ⟨wb_1, wb_2, wb_3, wb_4, wb_5, wb_6⟩ (fun hHeld => ?_)
          clear hK hHeld
          (try dsimp only [List.getElem_toArray, List.getElem_cons_zero, List.getElem_cons_succ])
          try simp only [Act.put, List.setIfInBounds_toArray, List.set_cons_zero, List.set_cons_succ]
          obtain ⟨wb, hwb⟩ : ∃ wb, wa.alloc (.cells #[.int .i64 0, .int .i64 0, .int .i64 0, .bool false, .bool false, .int .i64 0, .complex .f64 0 0, .bool false, .string ⟨#[]⟩, .int .i64 0, .int .i64 0, .int .i64 0, .bool false, .string ⟨#[]⟩, .int .i64 0, .int .i64 0, .int .i64 0] 41) = wb := ⟨_, rfl⟩
          rw [hwb] at HZ_wb HV_wb HX_wb wb_1 wb_2 wb_3 wb_4 wb_5 wb_6
          (try rw [hwb])
          clear hwb
          (try rw [hv2])
          have HV2N : Hid (w5.heap.size ≤ v2) := hide (by have := HV_wa.out.size; omega)
          refine wpAnyH_ready (rs := [7]) (by kernel_rfl) (by simp) ?_
          refine AllReadyH.cons rfl (fun K' hK => ?_) AllReadyH.nil
          obtain ⟨w6, hw6⟩ : ∃ w6, wb.setCells v2 0 (#[.int .i64 d.id, .int .i64 d.k, .int .i64 d.o, .bool d.a, .bool d.b, .int .i64 d.y, .complex .f64 0 0, .bool false, .string ⟨#[]⟩, .int .i64 0, .int .i64 0, .int .i64 0, .bool false, .string ⟨#[]⟩, .int .i64 0, .int .i64 0, .int .i64 0] : Array Value).toList = w6 := ⟨_, rfl⟩
          have HV : Hid (Below w5.heap.size w5 w6) := hide (by rw [← hw6]; exact below_cells HV_wb.out HV2N.out _ _)
          have HS2 : Hid (Blk w6 v2 41 #[.int .i64 d.id, .int .i64 d.k, .int .i64 d.o, .bool d.a, .bool d.b, .int .i64 d.y, .complex .f64 0 0, .bool false, .string ByteArray.empty, .int .i64 0, .int .i64 0, .int .i64 0, .bool false, .string ByteArray.empty, .int .i64 0, .int .i64 0, .int .i64 0]) := hide (by rw [← hw6]; exact Blk.setAll HZ_wb.out _ rfl)
          have HTH : Hid (wb.there v2 0 17) := hide (st_there HZ_wb.out)
          have HX6 := hide (HX.out.kept HV.out)
          have w6_1 : w6.cell? ⟨v, 1, none⟩ = some (.int .i64 d.id) := HX6.out.cell 1
          have w6_2 : w6.cell? ⟨v, 2, none⟩ = some (.int .i64 d.k) := HX6.out.cell 2
          have w6_3 : w6.cell? ⟨v, 3, none⟩ = some (.int .i64 d.o) := HX6.out.cell 3
          have w6_4 : w6.cell? ⟨v, 4, none⟩ = some (.bool d.a) := HX6.out.cell 4
          have w6_5 : w6.cell? ⟨v, 5, none⟩ = some (.bool d.b) := HX6.out.cell 5
          have w6_6 : w6.cell? ⟨v, 6, none⟩ = some (.int .i64 d.y) := HX6.out.cell 6
          refine step_store rfl 41 (.tmp 11) (.tmp 41) rfl v2 0 #[.int .i64 d.id, .int .i64 d.k, .int .i64 d.o, .bool d.a, .bool d.b, .int .i64 d.y, .complex .f64 0 0, .bool false, .string ⟨#[]⟩, .int .i64 0, .int .i64 0, .int .i64 0, .bool false, .string ⟨#[]⟩, .int .i64 0, .int .i64 0, .int .i64 0] (by rfl) (by rfl) HTH.out size41 (by simp [Value.oneCell']) ?_
          rw [hw6]
          refine hK.out _ _ ⟨w6_1, w6_2, w6_3, w6_4, w6_5, w6_6⟩ (fun hHeld => ?_)
          clear hK hHeld hw6
          (try dsimp only [List.getElem_toArray, List.getElem_cons_zero, List.getElem_cons_succ])
          try simp only [Act.put, List.setIfInBounds_toArray, List.set_cons_zero, List.set_cons_succ]
          refine wpAnyH_done (by kernel_rfl) ?_ _
          try refine NoPanic.normal ?_
          have HVV : Hid (Below wr.heap.size wr w6) := hide (below_nextB HW5.out HW5.out.size HV.out)
          have HBS := hide (HB.out.kept HVV.out)
          have HLD : Hid (∀ j u, (row17 d.sm)[j]? = some u → w6.cell? ⟨v2, 0 + j, none⟩ = some u) := hide (row_cells HS2.out)
          have z0 : w6.cell? ⟨v, 0, none⟩ = some (.bool d.set) := HX6.out.cell 0
          have hds : d.set = false := HDS.out
          rw [hds] at z0
          clear hds
          go_wp2_with (refine wpList_load_w (by rfl) 41 (.tmp 11) rfl v2 0 (by rfl) (row17 d.sm) HLD.out Try.underlying41 rfl size41 #[.int .i64 d.id, .int .i64 d.k, .int .i64 d.o, .bool d.a, .bool d.b, .int .i64 d.y, .complex .f64 0 0, .bool false, .string ByteArray.empty, .int .i64 0, .int .i64 0, .int .i64 0, .bool false, .string ByteArray.empty, .int .i64 0, .int .i64 0, .int .i64 0] rfl ?_)
          refine (show Calls Try.prog 11 #[.pointer (some ⟨g, 0, none⟩), .agg #[.int .i64 d.id, .int .i64 d.k, .int .i64 d.o, .bool d.a, .bool d.b, .int .i64 d.y, .complex .f64 0 0, .bool false, .string ByteArray.empty, .int .i64 0, .int .i64 0, .int .i64 0, .bool false, .string ByteArray.empty, .int .i64 0, .int .i64 0, .int .i64 0]] w6 (fun e w' => e = .returned (.int .i64 (begE ls d.sm M)) ∧ ∃ F', Ro w' g M (begL ls d.sm M) F' ∧ Only F w6 w' ∧ ∀ b ∈ F', b ∈ F ∨ w6.heap.size ≤ b) from beg_op g d.sm w6 (hide (by omega)) (hide HBS.out.ro) HWF).mono ?_
          rintro e w7 ⟨rfl, F', h1, h2, h3⟩
          have h4 := both_ro HBS.out h2 h3
          have HOK7 : Ok (begL ls d.sm M) := HOK.out.beg d.sm M
          rw [begL_max HMM.out] at h1 HOK7
          rw [begE_max HMM.out]
          have HRO7 := hide h1
          have HOK8 := hide HOK7
          have HRF7 := hide h4.1
          have HBL7 := hide h4.2.1
          have HFR7 := hide h4.2.2
          have hvF : v ∉ F := fun hm => by have := HFL.out v hm; have := HWV.out; omega
          have HX7 := hide (Blk.only HX6.out h2 hvF)
          have u0 : w7.cell? ⟨v, 0, none⟩ = some (.bool d.set) := HX7.out.cell 0
          have u1 : w7.cell? ⟨v, 1, none⟩ = some (.int .i64 d.id) := HX7.out.cell 1
          have u2 : w7.cell? ⟨v, 2, none⟩ = some (.int .i64 d.k) := HX7.out.cell 2
          have u3 : w7.cell? ⟨v, 3, none⟩ = some (.int .i64 d.o) := HX7.out.cell 3
          have u4 : w7.cell? ⟨v, 4, none⟩ = some (.bool d.a) := HX7.out.cell 4
          have u5 : w7.cell? ⟨v, 5, none⟩ = some (.bool d.b) := HX7.out.cell 5
          have u6 : w7.cell? ⟨v, 6, none⟩ = some (.int .i64 d.y) := HX7.out.cell 6
          clear h1 h2 h3 h4 HOK7 z0 w6_1 w6_2 w6_3 w6_4 w6_5 w6_6 hvF
          go_wp2_with fail
          refine (show Calls Try.prog 12 #[.slice A1 n1 c1, .agg #[.int .i64 d.id, .int .i64 d.k, .int .i64 d.o, .bool d.a, .bool d.b, .int .i64 d.y], .int .i64 most] w7 (RPost (fun b => b ∉ F' ∧ b < w7.heap.size) (begL ls d.sm most) (.int .i64 (begE ls d.sm most)) w7) from rbeg_op d.sm most (fun b => b ∉ F' ∧ b < w7.heap.size) A1 n1 c1 ls w7 (by omega) HRF7 HT).mono ?_
          rintro e w8 ⟨A8, n8, c8, rfl, h1, hb⟩
          have HB8 : Hid (Both w w8 g M F' (begL ls d.sm most) A8 n8 c8) := hide (both_next HRO7.out HOK8.out HBL7.out HFR7.out h1 hb)
          have HX8 := hide (HX7.out.kept hb)
          have HL8 := HB8.out.rf.len
          obtain ⟨q, hq⟩ : ∃ q, (begE ls d.sm most) = q := ⟨_, rfl⟩
          rw [hq]
          have hqq : (q != q) = false := by simp
          obtain ⟨l8, hl8⟩ : ∃ l8, begL ls d.sm most = l8 := ⟨_, rfl⟩
          have hn8 : n8 ≤ k + 1 := by have h9 := HLS.out; have := begL_length ls d.sm most; omega
          rw [hl8] at HB8
          have t1 : w8.cell? ⟨v, 1, none⟩ = some (.int .i64 d.id) := HX8.out.cell 1
          clear h1 hb hq HL8 hl8 u0 u1 u2 u3 u4 u5 u6
          go_wp2_with fail
          refine (alike_any g d.id (fun b => b ∉ F') A8 n8 c8 w8 (by omega) (hide HB8.out.ro) (hide HB8.out.rf) HWF (hide HB8.out.ok)).mono ?_
          rintro e w9 ⟨rfl, hb⟩
          have HB9 := hide (HB8.out.kept hb)
          clear hb
          go_wp2_with fail
          refine (alike_any g id (fun b => b ∉ F') A8 n8 c8 w9 (by omega) (hide HB9.out.ro) (hide HB9.out.rf) HX0 (hide HB9.out.ok)).mono ?_
          rintro e wz ⟨rfl, hb⟩
          have HBz := hide (HB9.out.kept hb)
          clear hb
          go_wp2_with fail
          go_roundw
          case rel => exact ⟨k + 1, A8, n8, c8, l8, F', by go_num, rfl, by omega, hn8, HBz⟩
          case measure => simp [intOf]; omega
        · obtain ⟨v2, hv2⟩ : ∃ v2, w5.heap.size = v2 := ⟨_, rfl⟩
          have HZ_wa : Hid (Blk ((w5.alloc (.cells #[.int .i64 0, .int .i64 0, .int .i64 0, .bool false, .bool false, .int .i64 0, .complex .f64 0 0, .bool false, .string ⟨#[]⟩, .int .i64 0, .int .i64 0, .int .i64 0, .bool false, .string ⟨#[]⟩, .int .i64 0, .int .i64 0, .int .i64 0] 41)).drew) v2 41 #[.int .i64 0, .int .i64 0, .int .i64 0, .bool false, .bool false, .int .i64 0, .complex .f64 0 0, .bool false, .string ⟨#[]⟩, .int .i64 0, .int .i64 0, .int .i64 0, .bool false, .string ⟨#[]⟩, .int .i64 0, .int .i64 0, .int .i64 0]) := hide (by rw [← hv2]; exact (Blk.born w5 41 _).drewN 1)
          have HV_wa : Hid (Below w5.heap.size w5 ((w5.alloc (.cells #[.int .i64 0, .int .i64 0, .int .i64 0, .bool false, .bool false, .int .i64 0, .complex .f64 0 0, .bool false, .string ⟨#[]⟩, .int .i64 0, .int .i64 0, .int .i64 0, .bool false, .string ⟨#[]⟩, .int .i64 0, .int .i64 0, .int .i64 0] 41)).drew)) := hide (below_drewN (st_alloc1 w5 _) 1)
          have HX_wa := hide (HX.out.kept HV_wa.out)
          have wa_1 : ((w5.alloc (.cells #[.int .i64 0, .int .i64 0, .int .i64 0, .bool false, .bool false, .int .i64 0, .complex .f64 0 0, .bool false, .string ⟨#[]⟩, .int .i64 0, .int .i64 0, .int .i64 0, .bool false, .string ⟨#[]⟩, .int .i64 0, .int .i64 0, .int .i64 0] 41)).drew).cell? ⟨v, 1, none⟩ = some (.int .i64 d.id) := HX_wa.out.cell 1
          have wa_2 : ((w5.alloc (.cells #[.int .i64 0, .int .i64 0, .int .i64 0, .bool false, .bool false, .int .i64 0, .complex .f64 0 0, .bool false, .string ⟨#[]⟩, .int .i64 0, .int .i64 0, .int .i64 0, .bool false, .string ⟨#[]⟩, .int .i64 0, .int .i64 0, .int .i64 0] 41)).drew).cell? ⟨v, 2, none⟩ = some (.int .i64 d.k) := HX_wa.out.cell 2
          have wa_3 : ((w5.alloc (.cells #[.int .i64 0, .int .i64 0, .int .i64 0, .bool false, .bool false, .int .i64 0, .complex .f64 0 0, .bool false, .string ⟨#[]⟩, .int .i64 0, .int .i64 0, .int .i64 0, .bool false, .string ⟨#[]⟩, .int .i64 0, .int .i64 0, .int .i64 0] 41)).drew).cell? ⟨v, 3, none⟩ = some (.int .i64 d.o) := HX_wa.out.cell 3
          have wa_4 : ((w5.alloc (.cells #[.int .i64 0, .int .i64 0, .int .i64 0, .bool false, .bool false, .int .i64 0, .complex .f64 0 0, .bool false, .string ⟨#[]⟩, .int .i64 0, .int .i64 0, .int .i64 0, .bool false, .string ⟨#[]⟩, .int .i64 0, .int .i64 0, .int .i64 0] 41)).drew).cell? ⟨v, 4, none⟩ = some (.bool d.a) := HX_wa.out.cell 4
          have wa_5 : ((w5.alloc (.cells #[.int .i64 0, .int .i64 0, .int .i64 0, .bool false, .bool false, .int .i64 0, .complex .f64 0 0, .bool false, .string ⟨#[]⟩, .int .i64 0, .int .i64 0, .int .i64 0, .bool false, .string ⟨#[]⟩, .int .i64 0, .int .i64 0, .int .i64 0] 41)).drew).cell? ⟨v, 5, none⟩ = some (.bool d.b) := HX_wa.out.cell 5
          have wa_6 : ((w5.alloc (.cells #[.int .i64 0, .int .i64 0, .int .i64 0, .bool false, .bool false, .int .i64 0, .complex .f64 0 0, .bool false, .string ⟨#[]⟩, .int .i64 0, .int .i64 0, .int .i64 0, .bool false, .string ⟨#[]⟩, .int .i64 0, .int .i64 0, .int .i64 0] 41)).drew).cell? ⟨v, 6, none⟩ = some (.int .i64 d.y) := HX_wa.out.cell 6
          go_simp
          refine hK.out _ _ ⟨wa_1, wa_2, wa_3, wa_4, wa_5, wa_6⟩ (fun hHeld => ?_)
          clear hK hHeld
          (try dsimp only [List.getElem_toArray, List.getElem_cons_zero, List.getElem_cons_succ])
          try simp only [Act.put, List.setIfInBounds_toArray, List.set_cons_zero, List.set_cons_succ]
          obtain ⟨wa, hwa⟩ : ∃ wa, (w5.alloc (.cells #[.int .i64 0, .int .i64 0, .int .i64 0, .bool false, .bool false, .int .i64 0, .complex .f64 0 0, .bool false, .string ⟨#[]⟩, .int .i64 0, .int .i64 0, .int .i64 0, .bool false, .string ⟨#[]⟩, .int .i64 0, .int .i64 0, .int .i64 0] 41)).drew = wa := ⟨_, rfl⟩
          rw [hwa] at HZ_wa HV_wa HX_wa wa_1 wa_2 wa_3 wa_4 wa_5 wa_6
          (try rw [hwa])
          clear hwa
          (try rw [hv2])
          have HV2N : Hid (w5.heap.size ≤ v2) := hide (by omega)
          refine wpAnyH_ready (rs := [4]) (by kernel_rfl) (by simp) ?_
          refine AllReadyH.cons rfl (fun K' hK => ?_) AllReadyH.nil
          go_simp
          go_at_call 8
          refine (own_any d.k d.o d.a d.b d.y _).mono ?_
          rintro e wb ⟨rfl, hb⟩
          have HV_wb : Hid (Below w5.heap.size w5 wb) := hide (below_nextB HV_wa.out HV_wa.out.size hb)
          have HX_wb := hide (HX.out.kept HV_wb.out)
          have HZ_wb := hide (Blk.kept HZ_wa.out hb)
          have wb_1 : wb.cell? ⟨v, 1, none⟩ = some (.int .i64 d.id) := HX_wb.out.cell 1
          have wb_2 : wb.cell? ⟨v, 2, none⟩ = some (.int .i64 d.k) := HX_wb.out.cell 2
          have wb_3 : wb.cell? ⟨v, 3, none⟩ = some (.int .i64 d.o) := HX_wb.out.cell 3
          have wb_4 : wb.cell? ⟨v, 4, none⟩ = some (.bool d.a) := HX_wb.out.cell 4
          have wb_5 : wb.cell? ⟨v, 5, none⟩ = some (.bool d.b) := HX_wb.out.cell 5
          have wb_6 : wb.cell? ⟨v, 6, none⟩ = some (.int .i64 d.y) := HX_wb.out.cell 6
          clear hb
          go_wp2_with fail
          refine hK.out _ _ ⟨wb_1, wb_2, wb_3, wb_4, wb_5, wb_6⟩ (fun hHeld => ?_)
          clear hK
          (try dsimp only [List.getElem_toArray, List.getElem_cons_zero, List.getElem_cons_succ])
          try simp only [Act.put, List.setIfInBounds_toArray, List.set_cons_zero, List.set_cons_succ]
          refine wpAnyH_take (i := 5) (v := ?_) rfl (by kernel_rfl) (by kernel_rfl) (by kernel_rfl) (fun _ _ _ h => h) (Or.inl ⟨by rfl, ?hy⟩) (by assumption) ?_
          case hy => intro w hSw; obtain ⟨hS1, hS2, hS3, hS4, hS5, hS6⟩ := hSw; (try dsimp only at *); go_simp; (try with_reducible rfl)
          (try dsimp only [List.getElem_toArray, List.getElem_cons_zero, List.getElem_cons_succ])
          try simp only [Act.put, List.setIfInBounds_toArray, List.set_cons_zero, List.set_cons_succ]
          refine wpAnyH_ready (rs := [7]) (by kernel_rfl) (by simp) ?_
          refine AllReadyH.cons rfl (fun K' hK => ?_) AllReadyH.nil
          obtain ⟨w6, hw6⟩ : ∃ w6, wb.setCells v2 0 (#[.int .i64 d.id, .int .i64 d.k, .int .i64 d.o, .bool d.a, .bool d.b, .int .i64 d.y, .complex .f64 0 0, .bool false, .string ⟨#[]⟩, .int .i64 0, .int .i64 0, .int .i64 0, .bool false, .string ⟨#[]⟩, .int .i64 0, .int .i64 0, .int .i64 0] : Array Value).toList = w6 := ⟨_, rfl⟩
          have HV : Hid (Below w5.heap.size w5 w6) := hide (by rw [← hw6]; exact below_cells HV_wb.out HV2N.out _ _)
          have HS2 : Hid (Blk w6 v2 41 #[.int .i64 d.id, .int .i64 d.k, .int .i64 d.o, .bool d.a, .bool d.b, .int .i64 d.y, .complex .f64 0 0, .bool false, .string ByteArray.empty, .int .i64 0, .int .i64 0, .int .i64 0, .bool false, .string ByteArray.empty, .int .i64 0, .int .i64 0, .int .i64 0]) := hide (by rw [← hw6]; exact Blk.setAll HZ_wb.out _ rfl)
          have HTH : Hid (wb.there v2 0 17) := hide (st_there HZ_wb.out)
          have HX6 := hide (HX.out.kept HV.out)
          have w6_1 : w6.cell? ⟨v, 1, none⟩ = some (.int .i64 d.id) := HX6.out.cell 1
          have w6_2 : w6.cell? ⟨v, 2, none⟩ = some (.int .i64 d.k) := HX6.out.cell 2
          have w6_3 : w6.cell? ⟨v, 3, none⟩ = some (.int .i64 d.o) := HX6.out.cell 3
          have w6_4 : w6.cell? ⟨v, 4, none⟩ = some (.bool d.a) := HX6.out.cell 4
          have w6_5 : w6.cell? ⟨v, 5, none⟩ = some (.bool d.b) := HX6.out.cell 5
          have w6_6 : w6.cell? ⟨v, 6, none⟩ = some (.int .i64 d.y) := HX6.out.cell 6
          refine step_store rfl 41 (.tmp 11) (.tmp 41) rfl v2 0 #[.int .i64 d.id, .int .i64 d.k, .int .i64 d.o, .bool d.a, .bool d.b, .int .i64 d.y, .complex .f64 0 0, .bool false, .string ⟨#[]⟩, .int .i64 0, .int .i64 0, .int .i64 0, .bool false, .string ⟨#[]⟩, .int .i64 0, .int .i64 0, .int .i64 0] (by rfl) (by rfl) HTH.out size41 (by simp [Value.oneCell']) ?_
          rw [hw6]
          refine hK.out _ _ ⟨w6_1, w6_2, w6_3, w6_4, w6_5, w6_6⟩ (fun hHeld => ?_)
          clear hK hHeld hw6
          (try dsimp only [List.getElem_toArray, List.getElem_cons_zero, List.getElem_cons_succ])
          try simp only [Act.put, List.setIfInBounds_toArray, List.set_cons_zero, List.set_cons_succ]
          refine wpAnyH_done (by kernel_rfl) ?_ _
          try refine NoPanic.normal ?_
          have HVV : Hid (Below wr.heap.size wr w6) := hide (below_nextB HW5.out HW5.out.size HV.out)
          have HBS := hide (HB.out.kept HVV.out)
          have HLD : Hid (∀ j u, (row17 d.sm)[j]? = some u → w6.cell? ⟨v2, 0 + j, none⟩ = some u) := hide (row_cells HS2.out)
          have z0 : w6.cell? ⟨v, 0, none⟩ = some (.bool d.set) := HX6.out.cell 0
          have hds : d.set = false := HDS.out
          rw [hds] at z0
          clear hds
          go_wp2_with (refine wpList_load_w (by rfl) 41 (.tmp 11) rfl v2 0 (by rfl) (row17 d.sm) HLD.out Try.underlying41 rfl size41 #[.int .i64 d.id, .int .i64 d.k, .int .i64 d.o, .bool d.a, .bool d.b, .int .i64 d.y, .complex .f64 0 0, .bool false, .string ByteArray.empty, .int .i64 0, .int .i64 0, .int .i64 0, .bool false, .string ByteArray.empty, .int .i64 0, .int .i64 0, .int .i64 0] rfl ?_)
          refine (show Calls Try.prog 11 #[.pointer (some ⟨g, 0, none⟩), .agg #[.int .i64 d.id, .int .i64 d.k, .int .i64 d.o, .bool d.a, .bool d.b, .int .i64 d.y, .complex .f64 0 0, .bool false, .string ByteArray.empty, .int .i64 0, .int .i64 0, .int .i64 0, .bool false, .string ByteArray.empty, .int .i64 0, .int .i64 0, .int .i64 0]] w6 (fun e w' => e = .returned (.int .i64 (begE ls d.sm M)) ∧ ∃ F', Ro w' g M (begL ls d.sm M) F' ∧ Only F w6 w' ∧ ∀ b ∈ F', b ∈ F ∨ w6.heap.size ≤ b) from beg_op g d.sm w6 (hide (by omega)) (hide HBS.out.ro) HWF).mono ?_
          rintro e w7 ⟨rfl, F', h1, h2, h3⟩
          have h4 := both_ro HBS.out h2 h3
          have HOK7 : Ok (begL ls d.sm M) := HOK.out.beg d.sm M
          rw [begL_max HMM.out] at h1 HOK7
          rw [begE_max HMM.out]
          have HRO7 := hide h1
          have HOK8 := hide HOK7
          have HRF7 := hide h4.1
          have HBL7 := hide h4.2.1
          have HFR7 := hide h4.2.2
          have hvF : v ∉ F := fun hm => by have := HFL.out v hm; have := HWV.out; omega
          have HX7 := hide (Blk.only HX6.out h2 hvF)
          have u0 : w7.cell? ⟨v, 0, none⟩ = some (.bool d.set) := HX7.out.cell 0
          have u1 : w7.cell? ⟨v, 1, none⟩ = some (.int .i64 d.id) := HX7.out.cell 1
          have u2 : w7.cell? ⟨v, 2, none⟩ = some (.int .i64 d.k) := HX7.out.cell 2
          have u3 : w7.cell? ⟨v, 3, none⟩ = some (.int .i64 d.o) := HX7.out.cell 3
          have u4 : w7.cell? ⟨v, 4, none⟩ = some (.bool d.a) := HX7.out.cell 4
          have u5 : w7.cell? ⟨v, 5, none⟩ = some (.bool d.b) := HX7.out.cell 5
          have u6 : w7.cell? ⟨v, 6, none⟩ = some (.int .i64 d.y) := HX7.out.cell 6
          clear h1 h2 h3 h4 HOK7 z0 w6_1 w6_2 w6_3 w6_4 w6_5 w6_6 hvF
          go_wp2_with fail
          refine (show Calls Try.prog 12 #[.slice A1 n1 c1, .agg #[.int .i64 d.id, .int .i64 d.k, .int .i64 d.o, .bool d.a, .bool d.b, .int .i64 d.y], .int .i64 most] w7 (RPost (fun b => b ∉ F' ∧ b < w7.heap.size) (begL ls d.sm most) (.int .i64 (begE ls d.sm most)) w7) from rbeg_op d.sm most (fun b => b ∉ F' ∧ b < w7.heap.size) A1 n1 c1 ls w7 (by omega) HRF7 HT).mono ?_
          rintro e w8 ⟨A8, n8, c8, rfl, h1, hb⟩
          have HB8 : Hid (Both w w8 g M F' (begL ls d.sm most) A8 n8 c8) := hide (both_next HRO7.out HOK8.out HBL7.out HFR7.out h1 hb)
          have HX8 := hide (HX7.out.kept hb)
          have HL8 := HB8.out.rf.len
          obtain ⟨q, hq⟩ : ∃ q, (begE ls d.sm most) = q := ⟨_, rfl⟩
          rw [hq]
          have hqq : (q != q) = false := by simp
          obtain ⟨l8, hl8⟩ : ∃ l8, begL ls d.sm most = l8 := ⟨_, rfl⟩
          have hn8 : n8 ≤ k + 1 := by have h9 := HLS.out; have := begL_length ls d.sm most; omega
          rw [hl8] at HB8
          have t1 : w8.cell? ⟨v, 1, none⟩ = some (.int .i64 d.id) := HX8.out.cell 1
          clear h1 hb hq HL8 hl8 u0 u1 u2 u3 u4 u5 u6
          go_wp2_with fail
          refine (alike_any g d.id (fun b => b ∉ F') A8 n8 c8 w8 (by omega) (hide HB8.out.ro) (hide HB8.out.rf) HWF (hide HB8.out.ok)).mono ?_
          rintro e w9 ⟨rfl, hb⟩
          have HB9 := hide (HB8.out.kept hb)
          clear hb
          go_wp2_with fail
          refine (alike_any g id (fun b => b ∉ F') A8 n8 c8 w9 (by omega) (hide HB9.out.ro) (hide HB9.out.rf) HX0 (hide HB9.out.ok)).mono ?_
          rintro e wz ⟨rfl, hb⟩
          have HBz := hide (HB9.out.kept hb)
          clear hb
          go_wp2_with fail
          go_roundw
          case rel => exact ⟨k + 1, A8, n8, c8, l8, F', by go_num, rfl, by omega, hn8, HBz⟩
          case measure => simp [intOf]; omega
      · go_wp2_with (refine wpList_store_fresh rfl 31 (.tmp 10) (.tmp 35) rfl _ #[.bool d.set, .int .i64 d.id, .int .i64 d.k, .int .i64 d.o, .bool d.a, .bool d.b, .int .i64 d.y] v hv (by rfl) (by rfl) size31 rfl (by simp [Value.oneCell']) ?_; rw [hw5])
        clear s0 s1 s2 s3 s4 s5 s6 hw5 hv
        refine wp_region_held_drew (S := fun w' => w'.cell? ⟨v, 1, none⟩ = some (.int .i64 d.id) ∧ w'.cell? ⟨v, 2, none⟩ = some (.int .i64 d.k) ∧ w'.cell? ⟨v, 3, none⟩ = some (.int .i64 d.o) ∧ w'.cell? ⟨v, 4, none⟩ = some (.bool d.a) ∧ w'.cell? ⟨v, 5, none⟩ = some (.bool d.b) ∧ w'.cell? ⟨v, 6, none⟩ = some (.int .i64 d.y)) (by kernel_rfl) (⟨x1, x2, x3, x4, x5, x6⟩) (fun hHeld => ?_)
        refine wpAnyH_take (i := 0) (v := ?_) rfl (by kernel_rfl) (by kernel_rfl) (by kernel_rfl) (fun _ _ _ h => h) (Or.inl ⟨by rfl, ?hy⟩) (by assumption) ?_
        case hy => intro w hSw; obtain ⟨hS1, hS2, hS3, hS4, hS5, hS6⟩ := hSw; (try dsimp only at *); go_simp; (try with_reducible rfl)
        (try dsimp only [List.getElem_toArray, List.getElem_cons_zero, List.getElem_cons_succ])
        try simp only [Act.put, List.setIfInBounds_toArray, List.set_cons_zero, List.set_cons_succ]
        refine wpAnyH_take (i := 1) (v := ?_) rfl (by kernel_rfl) (by kernel_rfl) (by kernel_rfl) (fun _ _ _ h => h) (Or.inl ⟨by rfl, ?hy⟩) (by assumption) ?_
        case hy => intro w hSw; obtain ⟨hS1, hS2, hS3, hS4, hS5, hS6⟩ := hSw; (try dsimp only at *); go_simp; (try with_reducible rfl)
        (try dsimp only [List.getElem_toArray, List.getElem_cons_zero, List.getElem_cons_succ])
        try simp only [Act.put, List.setIfInBounds_toArray, List.set_cons_zero, List.set_cons_succ]
        refine wpAnyH_take (i := 2) (v := ?_) rfl (by kernel_rfl) (by kernel_rfl) (by kernel_rfl) (fun _ _ _ h => h) (Or.inl ⟨by rfl, ?hy⟩) (by assumption) ?_
        case hy => intro w hSw; obtain ⟨hS1, hS2, hS3, hS4, hS5, hS6⟩ := hSw; (try dsimp only at *); go_simp; (try with_reducible rfl)
        (try dsimp only [List.getElem_toArray, List.getElem_cons_zero, List.getElem_cons_succ])
        try simp only [Act.put, List.setIfInBounds_toArray, List.set_cons_zero, List.set_cons_succ]
        refine wpAnyH_take (i := 3) (v := ?_) rfl (by kernel_rfl) (by kernel_rfl) (by kernel_rfl) (fun _ _ _ h => h) (Or.inl ⟨by rfl, ?hy⟩) (by assumption) ?_
        case hy => intro w hSw; obtain ⟨hS1, hS2, hS3, hS4, hS5, hS6⟩ := hSw; (try dsimp only at *); go_simp; (try with_reducible rfl)
        (try dsimp only [List.getElem_toArray, List.getElem_cons_zero, List.getElem_cons_succ])
        try simp only [Act.put, List.setIfInBounds_toArray, List.set_cons_zero, List.set_cons_succ]
        refine wpAnyH_ready (rs := [4, 6]) (by kernel_rfl) (by simp) ?_
        refine AllReadyH.cons rfl (fun K' hK => ?_) (AllReadyH.cons rfl (fun K' hK => ?_) AllReadyH.nil)
        · go_simp
          go_at_call 8
          refine (own_any d.k d.o d.a d.b d.y _).mono ?_
          rintro e wa ⟨rfl, hb⟩
          have HV_wa : Hid (Below w5.heap.size w5 wa) := hide (below_undrew hb)
          have HX_wa := hide (HX.out.kept HV_wa.out)

          have wa_1 : wa.cell? ⟨v, 1, none⟩ = some (.int .i64 d.id) := HX_wa.out.cell 1
          have wa_2 : wa.cell? ⟨v, 2, none⟩ = some (.int .i64 d.k) := HX_wa.out.cell 2
          have wa_3 : wa.cell? ⟨v, 3, none⟩ = some (.int .i64 d.o) := HX_wa.out.cell 3
          have wa_4 : wa.cell? ⟨v, 4, none⟩ = some (.bool d.a) := HX_wa.out.cell 4
          have wa_5 : wa.cell? ⟨v, 5, none⟩ = some (.bool d.b) := HX_wa.out.cell 5
          have wa_6 : wa.cell? ⟨v, 6, none⟩ = some (.int .i64 d.y) := HX_wa.out.cell 6
          clear hb
          go_wp2_with fail
          refine hK.out _ _ ⟨wa_1, wa_2, wa_3, wa_4, wa_5, wa_6⟩ (fun hHeld => ?_)
          clear hK
          (try dsimp only [List.getElem_toArray, List.getElem_cons_zero, List.getElem_cons_succ])
          try simp only [Act.put, List.setIfInBounds_toArray, List.set_cons_zero, List.set_cons_succ]
          refine wpAnyH_take (i := 5) (v := ?_) rfl (by kernel_rfl) (by kernel_rfl) (by kernel_rfl) (fun _ _ _ h => h) (Or.inl ⟨by rfl, ?hy⟩) (by assumption) ?_
          case hy => intro w hSw; obtain ⟨hS1, hS2, hS3, hS4, hS5, hS6⟩ := hSw; (try dsimp only at *); go_simp; (try with_reducible rfl)
          (try dsimp only [List.getElem_toArray, List.getElem_cons_zero, List.getElem_cons_succ])
          try simp only [Act.put, List.setIfInBounds_toArray, List.set_cons_zero, List.set_cons_succ]
          refine wpAnyH_ready (rs := [6]) (by kernel_rfl) (by simp) ?_
          refine AllReadyH.cons rfl (fun K' hK => ?_) AllReadyH.nil
          obtain ⟨v2, hv2⟩ : ∃ v2, wa.heap.size = v2 := ⟨_, rfl⟩
          have HZ_wb : Hid (Blk (wa.alloc (.cells #[.int .i64 0, .int .i64 0, .int .i64 0, .bool false, .bool false, .int .i64 0, .complex .f64 0 0, .bool false, .string ⟨#[]⟩, .int .i64 0, .int .i64 0, .int .i64 0, .bool false, .string ⟨#[]⟩, .int .i64 0, .int .i64 0, .int .i64 0] 41)) v2 41 #[.int .i64 0, .int .i64 0, .int .i64 0, .bool false, .bool false, .int .i64 0, .complex .f64 0 0, .bool false, .string ⟨#[]⟩, .int .i64 0, .int .i64 0, .int .i64 0, .bool false, .string ⟨#[]⟩, .int .i64 0, .int .i64 0, .int .i64 0]) := hide (by rw [← hv2]; exact (Blk.born wa 41 _))
          have HV_wb : Hid (Below w5.heap.size w5 (wa.alloc (.cells #[.int .i64 0, .int .i64 0, .int .i64 0, .bool false, .bool false, .int .i64 0, .complex .f64 0 0, .bool false, .string ⟨#[]⟩, .int .i64 0, .int .i64 0, .int .i64 0, .bool false, .string ⟨#[]⟩, .int .i64 0, .int .i64 0, .int .i64 0] 41))) := hide (HV_wa.out.alloc HV_wa.out.size _)
          have HX_wb := hide (HX.out.kept HV_wb.out)
          have wb_1 : (wa.alloc (.cells #[.int .i64 0, .int .i64 0, .int .i64 0, .bool false, .bool false, .int .i64 0, .complex .f64 0 0, .bool false, .string ⟨#[]⟩, .int .i64 0, .int .i64 0, .int .i64 0, .bool false, .string ⟨#[]⟩, .int .i64 0, .int .i64 0, .int .i64 0] 41)).cell? ⟨v, 1, none⟩ = some (.int .i64 d.id) := HX_wb.out.cell 1
          have wb_2 : (wa.alloc (.cells #[.int .i64 0, .int .i64 0, .int .i64 0, .bool false, .bool false, .int .i64 0, .complex .f64 0 0, .bool false, .string ⟨#[]⟩, .int .i64 0, .int .i64 0, .int .i64 0, .bool false, .string ⟨#[]⟩, .int .i64 0, .int .i64 0, .int .i64 0] 41)).cell? ⟨v, 2, none⟩ = some (.int .i64 d.k) := HX_wb.out.cell 2
          have wb_3 : (wa.alloc (.cells #[.int .i64 0, .int .i64 0, .int .i64 0, .bool false, .bool false, .int .i64 0, .complex .f64 0 0, .bool false, .string ⟨#[]⟩, .int .i64 0, .int .i64 0, .int .i64 0, .bool false, .string ⟨#[]⟩, .int .i64 0, .int .i64 0, .int .i64 0] 41)).cell? ⟨v, 3, none⟩ = some (.int .i64 d.o) := HX_wb.out.cell 3
          have wb_4 : (wa.alloc (.cells #[.int .i64 0, .int .i64 0, .int .i64 0, .bool false, .bool false, .int .i64 0, .complex .f64 0 0, .bool false, .string ⟨#[]⟩, .int .i64 0, .int .i64 0, .int .i64 0, .bool false, .string ⟨#[]⟩, .int .i64 0, .int .i64 0, .int .i64 0] 41)).cell? ⟨v, 4, none⟩ = some (.bool d.a) := HX_wb.out.cell 4
          have wb_5 : (wa.alloc (.cells #[.int .i64 0, .int .i64 0, .int .i64 0, .bool false, .bool false, .int .i64 0, .complex .f64 0 0, .bool false, .string ⟨#[]⟩, .int .i64 0, .int .i64 0, .int .i64 0, .bool false, .string ⟨#[]⟩, .int .i64 0, .int .i64 0, .int .i64 0] 41)).cell? ⟨v, 5, none⟩ = some (.bool d.b) := HX_wb.out.cell 5
          have wb_6 : (wa.alloc (.cells #[.int .i64 0, .int .i64 0, .int .i64 0, .bool false, .bool false, .int .i64 0, .complex .f64 0 0, .bool false, .string ⟨#[]⟩, .int .i64 0, .int .i64 0, .int .i64 0, .bool false, .string ⟨#[]⟩, .int .i64 0, .int .i64 0, .int .i64 0] 41)).cell? ⟨v, 6, none⟩ = some (.int .i64 d.y) := HX_wb.out.cell 6
          go_simp
          refine hK.out _ _ ⟨wb_1, wb_2, wb_3, wb_4, wb_5, wb_6⟩ (fun hHeld => ?_)
          clear hK hHeld
          (try dsimp only [List.getElem_toArray, List.getElem_cons_zero, List.getElem_cons_succ])
          try simp only [Act.put, List.setIfInBounds_toArray, List.set_cons_zero, List.set_cons_succ]
          obtain ⟨wb, hwb⟩ : ∃ wb, wa.alloc (.cells #[.int .i64 0, .int .i64 0, .int .i64 0, .bool false, .bool false, .int .i64 0, .complex .f64 0 0, .bool false, .string ⟨#[]⟩, .int .i64 0, .int .i64 0, .int .i64 0, .bool false, .string ⟨#[]⟩, .int .i64 0, .int .i64 0, .int .i64 0] 41) = wb := ⟨_, rfl⟩
          rw [hwb] at HZ_wb HV_wb HX_wb wb_1 wb_2 wb_3 wb_4 wb_5 wb_6
          (try rw [hwb])
          clear hwb
          (try rw [hv2])
          have HV2N : Hid (w5.heap.size ≤ v2) := hide (by have := HV_wa.out.size; omega)
          refine wpAnyH_ready (rs := [7]) (by kernel_rfl) (by simp) ?_
          refine AllReadyH.cons rfl (fun K' hK => ?_) AllReadyH.nil
          obtain ⟨w6, hw6⟩ : ∃ w6, wb.setCells v2 0 (#[.int .i64 d.id, .int .i64 d.k, .int .i64 d.o, .bool d.a, .bool d.b, .int .i64 d.y, .complex .f64 0 0, .bool false, .string ⟨#[]⟩, .int .i64 0, .int .i64 0, .int .i64 0, .bool false, .string ⟨#[]⟩, .int .i64 0, .int .i64 0, .int .i64 0] : Array Value).toList = w6 := ⟨_, rfl⟩
          have HV : Hid (Below w5.heap.size w5 w6) := hide (by rw [← hw6]; exact below_cells HV_wb.out HV2N.out _ _)
          have HS2 : Hid (Blk w6 v2 41 #[.int .i64 d.id, .int .i64 d.k, .int .i64 d.o, .bool d.a, .bool d.b, .int .i64 d.y, .complex .f64 0 0, .bool false, .string ByteArray.empty, .int .i64 0, .int .i64 0, .int .i64 0, .bool false, .string ByteArray.empty, .int .i64 0, .int .i64 0, .int .i64 0]) := hide (by rw [← hw6]; exact Blk.setAll HZ_wb.out _ rfl)
          have HTH : Hid (wb.there v2 0 17) := hide (st_there HZ_wb.out)
          have HX6 := hide (HX.out.kept HV.out)
          have w6_1 : w6.cell? ⟨v, 1, none⟩ = some (.int .i64 d.id) := HX6.out.cell 1
          have w6_2 : w6.cell? ⟨v, 2, none⟩ = some (.int .i64 d.k) := HX6.out.cell 2
          have w6_3 : w6.cell? ⟨v, 3, none⟩ = some (.int .i64 d.o) := HX6.out.cell 3
          have w6_4 : w6.cell? ⟨v, 4, none⟩ = some (.bool d.a) := HX6.out.cell 4
          have w6_5 : w6.cell? ⟨v, 5, none⟩ = some (.bool d.b) := HX6.out.cell 5
          have w6_6 : w6.cell? ⟨v, 6, none⟩ = some (.int .i64 d.y) := HX6.out.cell 6
          refine step_store rfl 41 (.tmp 11) (.tmp 41) rfl v2 0 #[.int .i64 d.id, .int .i64 d.k, .int .i64 d.o, .bool d.a, .bool d.b, .int .i64 d.y, .complex .f64 0 0, .bool false, .string ⟨#[]⟩, .int .i64 0, .int .i64 0, .int .i64 0, .bool false, .string ⟨#[]⟩, .int .i64 0, .int .i64 0, .int .i64 0] (by rfl) (by rfl) HTH.out size41 (by simp [Value.oneCell']) ?_
          rw [hw6]
          refine hK.out _ _ ⟨w6_1, w6_2, w6_3, w6_4, w6_5, w6_6⟩ (fun hHeld => ?_)
          clear hK hHeld hw6
          (try dsimp only [List.getElem_toArray, List.getElem_cons_zero, List.getElem_cons_succ])
          try simp only [Act.put, List.setIfInBounds_toArray, List.set_cons_zero, List.set_cons_succ]
          refine wpAnyH_done (by kernel_rfl) ?_ _
          try refine NoPanic.normal ?_
          have HVV : Hid (Below wr.heap.size wr w6) := hide (below_nextB HW5.out HW5.out.size HV.out)
          have HBS := hide (HB.out.kept HVV.out)
          have HLD : Hid (∀ j u, (row17 d.sm)[j]? = some u → w6.cell? ⟨v2, 0 + j, none⟩ = some u) := hide (row_cells HS2.out)
          have z0 : w6.cell? ⟨v, 0, none⟩ = some (.bool d.set) := HX6.out.cell 0
          have hds : d.set = true := HDS.out
          rw [hds] at z0
          clear hds
          go_wp2_with (refine wpList_load_w (by rfl) 41 (.tmp 11) rfl v2 0 (by rfl) (row17 d.sm) HLD.out Try.underlying41 rfl size41 #[.int .i64 d.id, .int .i64 d.k, .int .i64 d.o, .bool d.a, .bool d.b, .int .i64 d.y, .complex .f64 0 0, .bool false, .string ByteArray.empty, .int .i64 0, .int .i64 0, .int .i64 0, .bool false, .string ByteArray.empty, .int .i64 0, .int .i64 0, .int .i64 0] rfl ?_)
          refine (show Calls Try.prog 9 #[.pointer (some ⟨g, 0, none⟩), .agg #[.int .i64 d.id, .int .i64 d.k, .int .i64 d.o, .bool d.a, .bool d.b, .int .i64 d.y, .complex .f64 0 0, .bool false, .string ByteArray.empty, .int .i64 0, .int .i64 0, .int .i64 0, .bool false, .string ByteArray.empty, .int .i64 0, .int .i64 0, .int .i64 0]] w6 (fun e w' => e = .returned (.bool (setB ls d.sm)) ∧ ∃ F', Ro w' g M (setL ls d.sm) F' ∧ Only F w6 w' ∧ ∀ b ∈ F', b ∈ F ∨ w6.heap.size ≤ b) from set_op g d.sm w6 (hide (by omega)) (hide HBS.out.ro) HWF).mono ?_
          rintro e w7 ⟨rfl, F', h1, h2, h3⟩
          have h4 := both_ro HBS.out h2 h3
          have HOK7 : Ok (setL ls d.sm) := HOK.out.setL d.sm

          have HRO7 := hide h1
          have HOK8 := hide HOK7
          have HRF7 := hide h4.1
          have HBL7 := hide h4.2.1
          have HFR7 := hide h4.2.2
          have hvF : v ∉ F := fun hm => by have := HFL.out v hm; have := HWV.out; omega
          have HX7 := hide (Blk.only HX6.out h2 hvF)
          have u0 : w7.cell? ⟨v, 0, none⟩ = some (.bool d.set) := HX7.out.cell 0
          have u1 : w7.cell? ⟨v, 1, none⟩ = some (.int .i64 d.id) := HX7.out.cell 1
          have u2 : w7.cell? ⟨v, 2, none⟩ = some (.int .i64 d.k) := HX7.out.cell 2
          have u3 : w7.cell? ⟨v, 3, none⟩ = some (.int .i64 d.o) := HX7.out.cell 3
          have u4 : w7.cell? ⟨v, 4, none⟩ = some (.bool d.a) := HX7.out.cell 4
          have u5 : w7.cell? ⟨v, 5, none⟩ = some (.bool d.b) := HX7.out.cell 5
          have u6 : w7.cell? ⟨v, 6, none⟩ = some (.int .i64 d.y) := HX7.out.cell 6
          clear h1 h2 h3 h4 HOK7 z0 w6_1 w6_2 w6_3 w6_4 w6_5 w6_6 hvF
          go_wp2_with fail
          refine (show Calls Try.prog 10 #[.slice A1 n1 c1, .agg #[.int .i64 d.id, .int .i64 d.k, .int .i64 d.o, .bool d.a, .bool d.b, .int .i64 d.y]] w7 (RPost (fun b => b ∉ F' ∧ b < w7.heap.size) (setL ls d.sm) (.bool (setB ls d.sm)) w7) from rset_op d.sm (fun b => b ∉ F' ∧ b < w7.heap.size) A1 n1 c1 ls w7 (by omega) HRF7).mono ?_
          rintro e w8 ⟨A8, n8, c8, rfl, h1, hb⟩
          have HB8 : Hid (Both w w8 g M F' (setL ls d.sm) A8 n8 c8) := hide (both_next HRO7.out HOK8.out HBL7.out HFR7.out h1 hb)
          have HX8 := hide (HX7.out.kept hb)
          have HL8 := HB8.out.rf.len
          obtain ⟨q, hq⟩ : ∃ q, (setB ls d.sm) = q := ⟨_, rfl⟩
          rw [hq]
          have hqq : (q != q) = false := by cases q <;> rfl
          obtain ⟨l8, hl8⟩ : ∃ l8, setL ls d.sm = l8 := ⟨_, rfl⟩
          have hn8 : n8 ≤ k + 1 := by have h9 := HLS.out; rw [setL_length] at HL8; omega
          rw [hl8] at HB8
          have t1 : w8.cell? ⟨v, 1, none⟩ = some (.int .i64 d.id) := HX8.out.cell 1
          clear h1 hb hq HL8 hl8 u0 u1 u2 u3 u4 u5 u6
          go_wp2_with fail
          refine (alike_any g d.id (fun b => b ∉ F') A8 n8 c8 w8 (by omega) (hide HB8.out.ro) (hide HB8.out.rf) HWF (hide HB8.out.ok)).mono ?_
          rintro e w9 ⟨rfl, hb⟩
          have HB9 := hide (HB8.out.kept hb)
          clear hb
          go_wp2_with fail
          refine (alike_any g id (fun b => b ∉ F') A8 n8 c8 w9 (by omega) (hide HB9.out.ro) (hide HB9.out.rf) HX0 (hide HB9.out.ok)).mono ?_
          rintro e wz ⟨rfl, hb⟩
          have HBz := hide (HB9.out.kept hb)
          clear hb
          go_wp2_with fail
          go_roundw
          case rel => exact ⟨k + 1, A8, n8, c8, l8, F', by go_num, rfl, by omega, hn8, HBz⟩
          case measure => simp [intOf]; omega
        · obtain ⟨v2, hv2⟩ : ∃ v2, w5.heap.size = v2 := ⟨_, rfl⟩
          have HZ_wa : Hid (Blk ((w5.alloc (.cells #[.int .i64 0, .int .i64 0, .int .i64 0, .bool false, .bool false, .int .i64 0, .complex .f64 0 0, .bool false, .string ⟨#[]⟩, .int .i64 0, .int .i64 0, .int .i64 0, .bool false, .string ⟨#[]⟩, .int .i64 0, .int .i64 0, .int .i64 0] 41)).drew) v2 41 #[.int .i64 0, .int .i64 0, .int .i64 0, .bool false, .bool false, .int .i64 0, .complex .f64 0 0, .bool false, .string ⟨#[]⟩, .int .i64 0, .int .i64 0, .int .i64 0, .bool false, .string ⟨#[]⟩, .int .i64 0, .int .i64 0, .int .i64 0]) := hide (by rw [← hv2]; exact (Blk.born w5 41 _).drewN 1)
          have HV_wa : Hid (Below w5.heap.size w5 ((w5.alloc (.cells #[.int .i64 0, .int .i64 0, .int .i64 0, .bool false, .bool false, .int .i64 0, .complex .f64 0 0, .bool false, .string ⟨#[]⟩, .int .i64 0, .int .i64 0, .int .i64 0, .bool false, .string ⟨#[]⟩, .int .i64 0, .int .i64 0, .int .i64 0] 41)).drew)) := hide (below_drewN (st_alloc1 w5 _) 1)
          have HX_wa := hide (HX.out.kept HV_wa.out)
          have wa_1 : ((w5.alloc (.cells #[.int .i64 0, .int .i64 0, .int .i64 0, .bool false, .bool false, .int .i64 0, .complex .f64 0 0, .bool false, .string ⟨#[]⟩, .int .i64 0, .int .i64 0, .int .i64 0, .bool false, .string ⟨#[]⟩, .int .i64 0, .int .i64 0, .int .i64 0] 41)).drew).cell? ⟨v, 1, none⟩ = some (.int .i64 d.id) := HX_wa.out.cell 1
          have wa_2 : ((w5.alloc (.cells #[.int .i64 0, .int .i64 0, .int .i64 0, .bool false, .bool false, .int .i64 0, .complex .f64 0 0, .bool false, .string ⟨#[]⟩, .int .i64 0, .int .i64 0, .int .i64 0, .bool false, .string ⟨#[]⟩, .int .i64 0, .int .i64 0, .int .i64 0] 41)).drew).cell? ⟨v, 2, none⟩ = some (.int .i64 d.k) := HX_wa.out.cell 2
          have wa_3 : ((w5.alloc (.cells #[.int .i64 0, .int .i64 0, .int .i64 0, .bool false, .bool false, .int .i64 0, .complex .f64 0 0, .bool false, .string ⟨#[]⟩, .int .i64 0, .int .i64 0, .int .i64 0, .bool false, .string ⟨#[]⟩, .int .i64 0, .int .i64 0, .int .i64 0] 41)).drew).cell? ⟨v, 3, none⟩ = some (.int .i64 d.o) := HX_wa.out.cell 3
          have wa_4 : ((w5.alloc (.cells #[.int .i64 0, .int .i64 0, .int .i64 0, .bool false, .bool false, .int .i64 0, .complex .f64 0 0, .bool false, .string ⟨#[]⟩, .int .i64 0, .int .i64 0, .int .i64 0, .bool false, .string ⟨#[]⟩, .int .i64 0, .int .i64 0, .int .i64 0] 41)).drew).cell? ⟨v, 4, none⟩ = some (.bool d.a) := HX_wa.out.cell 4
          have wa_5 : ((w5.alloc (.cells #[.int .i64 0, .int .i64 0, .int .i64 0, .bool false, .bool false, .int .i64 0, .complex .f64 0 0, .bool false, .string ⟨#[]⟩, .int .i64 0, .int .i64 0, .int .i64 0, .bool false, .string ⟨#[]⟩, .int .i64 0, .int .i64 0, .int .i64 0] 41)).drew).cell? ⟨v, 5, none⟩ = some (.bool d.b) := HX_wa.out.cell 5
          have wa_6 : ((w5.alloc (.cells #[.int .i64 0, .int .i64 0, .int .i64 0, .bool false, .bool false, .int .i64 0, .complex .f64 0 0, .bool false, .string ⟨#[]⟩, .int .i64 0, .int .i64 0, .int .i64 0, .bool false, .string ⟨#[]⟩, .int .i64 0, .int .i64 0, .int .i64 0] 41)).drew).cell? ⟨v, 6, none⟩ = some (.int .i64 d.y) := HX_wa.out.cell 6
          go_simp
          refine hK.out _ _ ⟨wa_1, wa_2, wa_3, wa_4, wa_5, wa_6⟩ (fun hHeld => ?_)
          clear hK hHeld
          (try dsimp only [List.getElem_toArray, List.getElem_cons_zero, List.getElem_cons_succ])
          try simp only [Act.put, List.setIfInBounds_toArray, List.set_cons_zero, List.set_cons_succ]
          obtain ⟨wa, hwa⟩ : ∃ wa, (w5.alloc (.cells #[.int .i64 0, .int .i64 0, .int .i64 0, .bool false, .bool false, .int .i64 0, .complex .f64 0 0, .bool false, .string ⟨#[]⟩, .int .i64 0, .int .i64 0, .int .i64 0, .bool false, .string ⟨#[]⟩, .int .i64 0, .int .i64 0, .int .i64 0] 41)).drew = wa := ⟨_, rfl⟩
          rw [hwa] at HZ_wa HV_wa HX_wa wa_1 wa_2 wa_3 wa_4 wa_5 wa_6
          (try rw [hwa])
          clear hwa
          (try rw [hv2])
          have HV2N : Hid (w5.heap.size ≤ v2) := hide (by omega)
          refine wpAnyH_ready (rs := [4]) (by kernel_rfl) (by simp) ?_
          refine AllReadyH.cons rfl (fun K' hK => ?_) AllReadyH.nil
          go_simp
          go_at_call 8
          refine (own_any d.k d.o d.a d.b d.y _).mono ?_
          rintro e wb ⟨rfl, hb⟩
          have HV_wb : Hid (Below w5.heap.size w5 wb) := hide (below_nextB HV_wa.out HV_wa.out.size hb)
          have HX_wb := hide (HX.out.kept HV_wb.out)
          have HZ_wb := hide (Blk.kept HZ_wa.out hb)
          have wb_1 : wb.cell? ⟨v, 1, none⟩ = some (.int .i64 d.id) := HX_wb.out.cell 1
          have wb_2 : wb.cell? ⟨v, 2, none⟩ = some (.int .i64 d.k) := HX_wb.out.cell 2
          have wb_3 : wb.cell? ⟨v, 3, none⟩ = some (.int .i64 d.o) := HX_wb.out.cell 3
          have wb_4 : wb.cell? ⟨v, 4, none⟩ = some (.bool d.a) := HX_wb.out.cell 4
          have wb_5 : wb.cell? ⟨v, 5, none⟩ = some (.bool d.b) := HX_wb.out.cell 5
          have wb_6 : wb.cell? ⟨v, 6, none⟩ = some (.int .i64 d.y) := HX_wb.out.cell 6
          clear hb
          go_wp2_with fail
          refine hK.out _ _ ⟨wb_1, wb_2, wb_3, wb_4, wb_5, wb_6⟩ (fun hHeld => ?_)
          clear hK
          (try dsimp only [List.getElem_toArray, List.getElem_cons_zero, List.getElem_cons_succ])
          try simp only [Act.put, List.setIfInBounds_toArray, List.set_cons_zero, List.set_cons_succ]
          refine wpAnyH_take (i := 5) (v := ?_) rfl (by kernel_rfl) (by kernel_rfl) (by kernel_rfl) (fun _ _ _ h => h) (Or.inl ⟨by rfl, ?hy⟩) (by assumption) ?_
          case hy => intro w hSw; obtain ⟨hS1, hS2, hS3, hS4, hS5, hS6⟩ := hSw; (try dsimp only at *); go_simp; (try with_reducible rfl)
          (try dsimp only [List.getElem_toArray, List.getElem_cons_zero, List.getElem_cons_succ])
          try simp only [Act.put, List.setIfInBounds_toArray, List.set_cons_zero, List.set_cons_succ]
          refine wpAnyH_ready (rs := [7]) (by kernel_rfl) (by simp) ?_
          refine AllReadyH.cons rfl (fun K' hK => ?_) AllReadyH.nil
          obtain ⟨w6, hw6⟩ : ∃ w6, wb.setCells v2 0 (#[.int .i64 d.id, .int .i64 d.k, .int .i64 d.o, .bool d.a, .bool d.b, .int .i64 d.y, .complex .f64 0 0, .bool false, .string ⟨#[]⟩, .int .i64 0, .int .i64 0, .int .i64 0, .bool false, .string ⟨#[]⟩, .int .i64 0, .int .i64 0, .int .i64 0] : Array Value).toList = w6 := ⟨_, rfl⟩
          have HV : Hid (Below w5.heap.size w5 w6) := hide (by rw [← hw6]; exact below_cells HV_wb.out HV2N.out _ _)
          have HS2 : Hid (Blk w6 v2 41 #[.int .i64 d.id, .int .i64 d.k, .int .i64 d.o, .bool d.a, .bool d.b, .int .i64 d.y, .complex .f64 0 0, .bool false, .string ByteArray.empty, .int .i64 0, .int .i64 0, .int .i64 0, .bool false, .string ByteArray.empty, .int .i64 0, .int .i64 0, .int .i64 0]) := hide (by rw [← hw6]; exact Blk.setAll HZ_wb.out _ rfl)
          have HTH : Hid (wb.there v2 0 17) := hide (st_there HZ_wb.out)
          have HX6 := hide (HX.out.kept HV.out)
          have w6_1 : w6.cell? ⟨v, 1, none⟩ = some (.int .i64 d.id) := HX6.out.cell 1
          have w6_2 : w6.cell? ⟨v, 2, none⟩ = some (.int .i64 d.k) := HX6.out.cell 2
          have w6_3 : w6.cell? ⟨v, 3, none⟩ = some (.int .i64 d.o) := HX6.out.cell 3
          have w6_4 : w6.cell? ⟨v, 4, none⟩ = some (.bool d.a) := HX6.out.cell 4
          have w6_5 : w6.cell? ⟨v, 5, none⟩ = some (.bool d.b) := HX6.out.cell 5
          have w6_6 : w6.cell? ⟨v, 6, none⟩ = some (.int .i64 d.y) := HX6.out.cell 6
          refine step_store rfl 41 (.tmp 11) (.tmp 41) rfl v2 0 #[.int .i64 d.id, .int .i64 d.k, .int .i64 d.o, .bool d.a, .bool d.b, .int .i64 d.y, .complex .f64 0 0, .bool false, .string ⟨#[]⟩, .int .i64 0, .int .i64 0, .int .i64 0, .bool false, .string ⟨#[]⟩, .int .i64 0, .int .i64 0, .int .i64 0] (by rfl) (by rfl) HTH.out size41 (by simp [Value.oneCell']) ?_
          rw [hw6]
          refine hK.out _ _ ⟨w6_1, w6_2, w6_3, w6_4, w6_5, w6_6⟩ (fun hHeld => ?_)
          clear hK hHeld hw6
          (try dsimp only [List.getElem_toArray, List.getElem_cons_zero, List.getElem_cons_succ])
          try simp only [Act.put, List.setIfInBounds_toArray, List.set_cons_zero, List.set_cons_succ]
          refine wpAnyH_done (by kernel_rfl) ?_ _
          try refine NoPanic.normal ?_
          have HVV : Hid (Below wr.heap.size wr w6) := hide (below_nextB HW5.out HW5.out.size HV.out)
          have HBS := hide (HB.out.kept HVV.out)
          have HLD : Hid (∀ j u, (row17 d.sm)[j]? = some u → w6.cell? ⟨v2, 0 + j, none⟩ = some u) := hide (row_cells HS2.out)
          have z0 : w6.cell? ⟨v, 0, none⟩ = some (.bool d.set) := HX6.out.cell 0
          have hds : d.set = true := HDS.out
          rw [hds] at z0
          clear hds
          go_wp2_with (refine wpList_load_w (by rfl) 41 (.tmp 11) rfl v2 0 (by rfl) (row17 d.sm) HLD.out Try.underlying41 rfl size41 #[.int .i64 d.id, .int .i64 d.k, .int .i64 d.o, .bool d.a, .bool d.b, .int .i64 d.y, .complex .f64 0 0, .bool false, .string ByteArray.empty, .int .i64 0, .int .i64 0, .int .i64 0, .bool false, .string ByteArray.empty, .int .i64 0, .int .i64 0, .int .i64 0] rfl ?_)
          refine (show Calls Try.prog 9 #[.pointer (some ⟨g, 0, none⟩), .agg #[.int .i64 d.id, .int .i64 d.k, .int .i64 d.o, .bool d.a, .bool d.b, .int .i64 d.y, .complex .f64 0 0, .bool false, .string ByteArray.empty, .int .i64 0, .int .i64 0, .int .i64 0, .bool false, .string ByteArray.empty, .int .i64 0, .int .i64 0, .int .i64 0]] w6 (fun e w' => e = .returned (.bool (setB ls d.sm)) ∧ ∃ F', Ro w' g M (setL ls d.sm) F' ∧ Only F w6 w' ∧ ∀ b ∈ F', b ∈ F ∨ w6.heap.size ≤ b) from set_op g d.sm w6 (hide (by omega)) (hide HBS.out.ro) HWF).mono ?_
          rintro e w7 ⟨rfl, F', h1, h2, h3⟩
          have h4 := both_ro HBS.out h2 h3
          have HOK7 : Ok (setL ls d.sm) := HOK.out.setL d.sm

          have HRO7 := hide h1
          have HOK8 := hide HOK7
          have HRF7 := hide h4.1
          have HBL7 := hide h4.2.1
          have HFR7 := hide h4.2.2
          have hvF : v ∉ F := fun hm => by have := HFL.out v hm; have := HWV.out; omega
          have HX7 := hide (Blk.only HX6.out h2 hvF)
          have u0 : w7.cell? ⟨v, 0, none⟩ = some (.bool d.set) := HX7.out.cell 0
          have u1 : w7.cell? ⟨v, 1, none⟩ = some (.int .i64 d.id) := HX7.out.cell 1
          have u2 : w7.cell? ⟨v, 2, none⟩ = some (.int .i64 d.k) := HX7.out.cell 2
          have u3 : w7.cell? ⟨v, 3, none⟩ = some (.int .i64 d.o) := HX7.out.cell 3
          have u4 : w7.cell? ⟨v, 4, none⟩ = some (.bool d.a) := HX7.out.cell 4
          have u5 : w7.cell? ⟨v, 5, none⟩ = some (.bool d.b) := HX7.out.cell 5
          have u6 : w7.cell? ⟨v, 6, none⟩ = some (.int .i64 d.y) := HX7.out.cell 6
          clear h1 h2 h3 h4 HOK7 z0 w6_1 w6_2 w6_3 w6_4 w6_5 w6_6 hvF
          go_wp2_with fail
          refine (show Calls Try.prog 10 #[.slice A1 n1 c1, .agg #[.int .i64 d.id, .int .i64 d.k, .int .i64 d.o, .bool d.a, .bool d.b, .int .i64 d.y]] w7 (RPost (fun b => b ∉ F' ∧ b < w7.heap.size) (setL ls d.sm) (.bool (setB ls d.sm)) w7) from rset_op d.sm (fun b => b ∉ F' ∧ b < w7.heap.size) A1 n1 c1 ls w7 (by omega) HRF7).mono ?_
          rintro e w8 ⟨A8, n8, c8, rfl, h1, hb⟩
          have HB8 : Hid (Both w w8 g M F' (setL ls d.sm) A8 n8 c8) := hide (both_next HRO7.out HOK8.out HBL7.out HFR7.out h1 hb)
          have HX8 := hide (HX7.out.kept hb)
          have HL8 := HB8.out.rf.len
          obtain ⟨q, hq⟩ : ∃ q, (setB ls d.sm) = q := ⟨_, rfl⟩
          rw [hq]
          have hqq : (q != q) = false := by cases q <;> rfl
          obtain ⟨l8, hl8⟩ : ∃ l8, setL ls d.sm = l8 := ⟨_, rfl⟩
          have hn8 : n8 ≤ k + 1 := by have h9 := HLS.out; rw [setL_length] at HL8; omega
          rw [hl8] at HB8
          have t1 : w8.cell? ⟨v, 1, none⟩ = some (.int .i64 d.id) := HX8.out.cell 1
          clear h1 hb hq HL8 hl8 u0 u1 u2 u3 u4 u5 u6
          go_wp2_with fail
          refine (alike_any g d.id (fun b => b ∉ F') A8 n8 c8 w8 (by omega) (hide HB8.out.ro) (hide HB8.out.rf) HWF (hide HB8.out.ok)).mono ?_
          rintro e w9 ⟨rfl, hb⟩
          have HB9 := hide (HB8.out.kept hb)
          clear hb
          go_wp2_with fail
          refine (alike_any g id (fun b => b ∉ F') A8 n8 c8 w9 (by omega) (hide HB9.out.ro) (hide HB9.out.rf) HX0 (hide HB9.out.ok)).mono ?_
          rintro e wz ⟨rfl, hb⟩
          have HBz := hide (HB9.out.kept hb)
          clear hb
          go_wp2_with fail
          go_roundw
          case rel => exact ⟨k + 1, A8, n8, c8, l8, F', by go_num, rfl, by omega, hn8, HBz⟩
          case measure => simp [intOf]; omega
    · go_wp2_with fail
      refine (owner_any id _).mono ?_
      rintro e w2 ⟨rfl, rfl⟩
      obtain ⟨oo, hoo⟩ : ∃ oo, ownO id = oo := ⟨_, rfl⟩
      obtain ⟨qq, hqq⟩ : ∃ qq, ownK id = qq := ⟨_, rfl⟩
      have HRO := fun w => hide (rowner_q id oo qq w hoo hqq)
      rw [hoo, hqq]
      clear hoo hqq
      go_wp2_with fail
      refine (HRO _).out.mono ?_
      rintro e w2 ⟨rfl, rfl⟩
      go_wp2_with fail
      refine (alive_any _).mono ?_
      rintro e w3 ⟨rfl, hb⟩
      have HB3 := hide (below_nextB HB.out.bel HB.out.bel.size hb)
      clear hb
      go_wp2_with fail
      go_ret
      exact ⟨rfl, HB3.out⟩

end Go.Proofs.Ytngligcjcdpnhaa
