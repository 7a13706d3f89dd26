/- RosterKeeps: the walk. -/
import Derived.Test.YtngligcjcdpnhaaZg
namespace Go.Proofs.Ytngligcjcdpnhaa
open Go.RowKit Go.Maps
set_option linter.unusedSimpArgs false
set_option linter.unusedVariables false

theorem wf_u16 {n : Int} (h : (Lit.int .u16 n).wf = true) : 0 ≤ n ∧ n ≤ 65535 := by simpa [Lit.wf, IntKind.min, IntKind.max, IntKind.signed, IntKind.bits] using h
/-- A roster whose first stream is m0. -/
structure Keep (w wr : World) (g : Nat) (F : List Nat) (ls : List Sm) (m0 : Sm) : Prop where
  ro : Ro wr g 60 ls F
  ok : Ok ls
  hd : ls[0]? = some m0
  bel : Below w.heap.size w wr
  fr : ∀ b ∈ F, w.heap.size ≤ b
section
variable {w wr w' : World} {g : Nat} {F F' : List Nat} {ls : List Sm} {m0 : Sm}
theorem Keep.kept (h : Keep w wr g F ls m0) (hb : Below wr.heap.size wr w') : Keep w w' g F ls m0 := ⟨h.ro.kept hb, h.ok, h.hd, below_nextB h.bel h.bel.size hb, h.fr⟩
theorem Keep.beg (h : Keep w wr g F ls m0) (m : Sm) (h1 : Ro w' g 60 (begL ls m 60) F') (h2 : Only F wr w') (h3 : ∀ b ∈ F', b ∈ F ∨ wr.heap.size ≤ b) : Keep w w' g F' (begL ls m 60) m0 := by
  refine ⟨h1, h.ok.beg m 60, ?_, h.bel.trans (h2.below h.bel.size h.fr), fun b hb => ?_⟩
  · unfold begL
    split
    · rw [List.getElem?_append_left (by have := (List.getElem?_eq_some_iff.1 h.hd).1; exact this)]; exact h.hd
    · exact h.hd
  · rcases h3 b hb with h4 | h4
    · exact h.fr b h4
    · exact Nat.le_trans h.bel.size h4
end
theorem keep_can {id : Int} (hk : ownK id = true) (cx : Nat) : canB [] ⟨id, 3, ownO id, false, false, 0, cx, 0⟩ = true := by
  have h1 := (ownK_iff id).1 hk
  have h2 : sid (ownO id) = true := by
    rcases ownO_two id with h | h <;> rw [h] <;> rfl
  unfold canB mayS
  rw [lastL_nil]
  simp [hk, rightS, h2]
  omega

set_option maxRecDepth 100000 in
theorem keeps_far (id z : Int) (A : Option Addr) (n c : Nat) (w : World) (h : 40 < n) (hn : n ≤ maxLen) : Calls Try.prog 5 #[.int .i64 id, .int .u16 z, .slice A n c] w fun e w' => e = .returned (.bool true) ∧ Below w.heap.size w w' := by
  go_enter Try.func5, Try.ntmps5
  go_wp2_with fail
  refine (alive_any _).mono ?_
  rintro e w1 ⟨rfl, hb⟩
  go_wp2_with fail
  go_ret
  exact ⟨rfl, hb⟩

set_option maxRecDepth 100000 in
set_option maxHeartbeats 2000000 in
theorem keeps_out (id z : Int) (A : Option Addr) (n c : Nat) (w : World) (h : n ≤ 40) (hk : Hid (ownK id = false)) : Calls Try.prog 5 #[.int .i64 id, .int .u16 z, .slice A n c] w fun e w' => e = .returned (.bool true) ∧ Below w.heap.size w w' := by
  have HO := fun w => hide (rowner_q id _ false w rfl hk.out)
  go_enter Try.func5, Try.ntmps5
  go_wp2_with fail
  refine (HO _).out.mono ?_
  rintro e w0 ⟨rfl, rfl⟩
  go_wp2_with fail
  refine (new_any 60 60 _ (hide (by decide))).mono ?_
  rintro e w1 ⟨rfl, _, hb⟩
  have HB1 := hide hb
  clear hb
  go_wp2_with fail
  refine (alive_any _).mono ?_
  rintro e w2 ⟨rfl, hb⟩
  have HB2 := hide (below_nextB HB1.out HB1.out.size hb)
  clear hb
  go_wp2_with fail
  go_ret
  exact ⟨rfl, HB2.out⟩

set_option maxRecDepth 100000 in
set_option maxHeartbeats 8000000 in
theorem keeps_near (id z : Int) (A : Option Addr) (n c : Nat) (ds : List Dd) (w : World) (h : n ≤ 40) (HL : Hid (ds.length = n)) (HS : Hid (Sees w A (cells7 ds))) (HW : Hid (∀ d ∈ ds, (Lit.int .i64 d.id).wf = true)) (HX0 : Hid ((Lit.int .i64 id).wf = true)) (hz0 : 0 ≤ z) (hz1 : z ≤ 65535) (hk : Hid (ownK id = true)) : Calls Try.prog 5 #[.int .i64 id, .int .u16 z, .slice A n c] w fun e w' => e = .returned (.bool true) ∧ Below w.heap.size w w' := by
  obtain ⟨ow, how⟩ : ∃ ow, ownO id = ow := ⟨_, rfl⟩
  have HOW := hide how
  have HO := fun w => hide (rowner_q id ow true w how hk.out)
  obtain ⟨cx, hcx⟩ : ∃ cx, fw (-z) = cx := ⟨_, rfl⟩
  have HCX := hide hcx
  obtain ⟨m0, hm0⟩ : ∃ m0 : Sm, (⟨id, 3, ow, false, false, 0, cx, 0⟩ : Sm) = m0 := ⟨_, rfl⟩
  have HM0 := hide hm0
  have HCAN : Hid (canB [] m0 = true) := hide (by rw [← hm0, ← how]; exact keep_can hk.out cx)
  have HLB : Hid (begL [] m0 60 = [m0]) := hide (by unfold begL; rw [if_pos ⟨HCAN.out, by decide⟩]; rfl)
  have HLE : Hid (begE [] m0 60 = 0) := hide (by unfold begE; rw [if_pos HCAN.out, if_pos (by decide)])
  have HLB2 : Hid (begL [] ⟨id, 3, ow, false, false, 0, cx, 0⟩ 60 = [m0]) := hide (by rw [hm0]; exact HLB.out)
  have HLE2 : Hid (begE [] ⟨id, 3, ow, false, false, 0, cx, 0⟩ 60 = 0) := hide (by rw [hm0]; exact HLE.out)
  have HTK : Hid (takeS 0 0 0 z 65535 = (-z, 0, true)) := hide (by
    unfold takeS
    have hm : mayW 0 65535 := by unfold mayW; omega
    rw [roomS_yes hm, if_neg (by simp [hm]; omega)]
    unfold moveS
    rw [if_pos rfl, if_pos (by unfold Am; omega)]
    simp)
  have HRM : Hid (roomS (-z) 0 0 65535 = 65535 - z) := hide (by
    rw [roomS_yes (by unfold mayW; omega)]; simp; omega)
  have HAMZ : Hid (Am (-z)) := hide (by unfold Am; omega)
  have hst := st_cplx
  clear how hcx hm0
  go_enter Try.func5, Try.ntmps5
  go_wp2_with fail
  refine (HO _).out.mono ?_
  rintro e w0 ⟨rfl, rfl⟩
  clear HO
  go_wp2_with fail
  refine (new_any 60 60 _ (hide (by decide))).mono ?_
  rintro e w1 ⟨rfl, hR, hb⟩
  have HR1 := hide hR
  have HB1 := hide hb
  obtain ⟨g, hg⟩ : ∃ g, w.heap.size = g := ⟨_, rfl⟩
  have HG := hide hg
  rw [hg] at HR1
  rw [hg]
  clear hR hb hg
  obtain ⟨v10, hv10⟩ : ∃ v10, w1.heap.size = v10 := ⟨_, rfl⟩
  obtain ⟨w2, hw2⟩ : ∃ w2, w1.alloc (.cells #[.complex .f64 0 0] 36) = w2 := ⟨_, rfl⟩
  have HB2 : Hid (Below w1.heap.size w1 w2) := hide (by rw [← hw2]; exact st_alloc1 w1 _)
  have HC2 : Hid (Blk w2 v10 36 #[.complex .f64 0 0]) := hide (by rw [← hw2, ← hv10]; exact Blk.born w1 36 _)
  have c0 : w2.cell? ⟨v10, 0, none⟩ = some (.complex .f64 0 0) := HC2.out.cell 0
  have HV10 := hide hv10
  go_wp2_with fail
  refine (show Calls Try.prog 22 #[.agg #[.complex .f64 0 0], .int .i64 0, .int .i64 z, .int .i64 65535] w2 (WPost (-z) 0 true w2) from (by have := take11 0 0 0 z 65535 (-z) 0 true w2 (hide am0) (hide am0) HTK; rwa [fw_zero] at this)).mono ?_
  rintro e w3 ⟨rfl, hb⟩
  rw [HCX.out, fw_zero]
  have HB3 : Hid (Below w1.heap.size w1 w3) := hide (below_nextB HB2.out HB2.out.size hb)
  have HC3 := hide (Blk.kept HC2.out hb)
  obtain ⟨w4, hw4⟩ : ∃ w4, w3.setCell ⟨v10, 0, none⟩ (.complex .f64 cx 0) = w4 := ⟨_, rfl⟩
  have HB4 : Hid (Below w1.heap.size w1 w4) := hide (by rw [← hw4]; exact HB3.out.setCell (by have := HV10.out; show _ ≤ v10; omega) _)
  have HC4 : Hid (Blk w4 v10 36 #[.complex .f64 cx 0]) := hide (by rw [← hw4]; exact HC3.out.store 0 _)
  have HR4 := hide (HR1.out.kept HB4.out)
  have c3 : w3.cell? ⟨v10, 0, none⟩ = some (.complex .f64 0 0) := HC3.out.cell 0
  have f3 : w3.frozen? ⟨v10, 0, none⟩ = false := HC3.out.free 0
  have c4 : w4.cell? ⟨v10, 0, none⟩ = some (.complex .f64 cx 0) := HC4.out.cell 0
  clear hb c0 hw2 hv10
  go_wp2_with fail
  refine (show Calls Try.prog 11 #[.pointer (some ⟨g, 0, none⟩), .agg #[.int .i64 id, .int .i64 3, .int .i64 ow, .bool false, .bool false, .int .i64 0, .complex .f64 cx 0, .bool false, .string ByteArray.empty, .int .i64 0, .int .i64 0, .int .i64 0, .bool false, .string ByteArray.empty, .int .i64 0, .int .i64 0, .int .i64 0]] w4 (fun e w' => e = .returned (.int .i64 0) ∧ ∃ F', Ro w' g 60 [m0] F' ∧ Only [g] w4 w' ∧ ∀ b ∈ F', b ∈ [g] ∨ w4.heap.size ≤ b) from (by
    have h := beg_op g ⟨id, 3, ow, false, false, 0, cx, 0⟩ w4 (hide (by decide)) HR4 HX0
    rw [HLE2.out, HLB2.out] at h
    exact h)).mono ?_
  rintro e w5 ⟨rfl, F, h1, h2, h3⟩
  have HK5 : Hid (Keep w w5 g F [m0] m0) := hide (by
    have hbb : Below w.heap.size w w4 := below_nextB HB1.out HB1.out.size HB4.out
    have hgg := HG.out
    refine ⟨h1, ?_, rfl, hbb.trans (h2.below hbb.size (fun b hb => by rw [List.mem_singleton.1 hb]; omega)), fun b hb => ?_⟩
    · have := Ok.nil.snoc HCAN.out
      exact this
    · rcases h3 b hb with h4 | h4
      · rw [List.mem_singleton.1 h4]; omega
      · have := hbb.size; omega)
  clear h1 h2 h3 c3 f3 c4 hw4 HB1 HB2 HB3 HB4 HC2 HC3 HC4 HR1 HR4 HV10
  go_wp2_with fail
  go_loopw [49] (fun ii wr => ∃ (k : Nat) (ls : List Sm) (F : List Nat), ii = .int .i64 (k : Nat) ∧ k ≤ n ∧ ls.length ≤ k + 1 ∧ Hid (Keep w wr g F ls m0)) (fun ii _ => n - (intOf ii).toNat)
  case atStart => exact ⟨0, [m0], F, rfl, Nat.zero_le _, Nat.le_refl _, HK5⟩
  case round =>
    clear HK5 F
    obtain ⟨k, ls, F, rfl, hkn, hlk, HK⟩ := hrel
    by_cases hlt : k < n
    · have hki : (k : Int) < (n : Int) := by omega
      obtain ⟨d, hd⟩ : ∃ d, ds[k]? = some d := ⟨_, List.getElem?_eq_getElem (by have := HL.out; omega)⟩
      have HWF : Hid ((Lit.int .i64 d.sm.id).wf = true) := hide (HW.out d (List.mem_of_getElem? hd))
      have hls : ls.length ≤ 1000 := by omega
      obtain ⟨bb, oo, rfl, t⟩ := sees7 HS.out hd
      have hbb : bb < w.heap.size := World.block_lt_of_cell? w _ (t 0 _ rfl)
      have u : ∀ j v, (row7 d)[j]? = some v → wr.cell? ⟨bb, oo + k * 7 + j, none⟩ = some v := fun j v hv => (HK.out.bel.cell (p := ⟨bb, oo + k * 7 + j, none⟩) hbb).trans (t j v hv)
      have s0 : wr.cell? ⟨bb, oo + k * 7, none⟩ = some (.bool d.set) := by have := u 0 _ rfl; simpa using this
      have s1 : wr.cell? ⟨bb, oo + k * 7 + 1, none⟩ = some (.int .i64 d.id) := u 1 _ rfl
      have s2 : wr.cell? ⟨bb, oo + k * 7 + 2, none⟩ = some (.int .i64 d.k) := u 2 _ rfl
      have s3 : wr.cell? ⟨bb, oo + k * 7 + 3, none⟩ = some (.int .i64 d.o) := u 3 _ rfl
      have s4 : wr.cell? ⟨bb, oo + k * 7 + 4, none⟩ = some (.bool d.a) := u 4 _ rfl
      have s5 : wr.cell? ⟨bb, oo + k * 7 + 5, none⟩ = some (.bool d.b) := u 5 _ rfl
      have s6 : wr.cell? ⟨bb, oo + k * 7 + 6, none⟩ = some (.int .i64 d.y) := u 6 _ rfl
      clear t u hd hbb
      obtain ⟨v, hv⟩ : ∃ v, wr.heap.size = v := ⟨_, rfl⟩
      obtain ⟨w5, hw5⟩ : ∃ w5, wr.alloc (.cells #[.bool d.set, .int .i64 d.id, .int .i64 d.k, .int .i64 d.o, .bool d.a, .bool d.b, .int .i64 d.y] 31) = w5 := ⟨_, rfl⟩
      have HW5 : Hid (Below wr.heap.size wr w5) := hide (by rw [← hw5]; exact st_alloc1 wr _)
      have HX : Hid (Blk w5 v 31 #[.bool d.set, .int .i64 d.id, .int .i64 d.k, .int .i64 d.o, .bool d.a, .bool d.b, .int .i64 d.y]) := hide (by rw [← hw5, ← hv]; exact Blk.born wr 31 _)
      have x0 : w5.cell? ⟨v, 0, none⟩ = some (.bool d.set) := HX.out.cell 0
      have x1 : w5.cell? ⟨v, 1, none⟩ = some (.int .i64 d.id) := HX.out.cell 1
      have x2 : w5.cell? ⟨v, 2, none⟩ = some (.int .i64 d.k) := HX.out.cell 2
      have x3 : w5.cell? ⟨v, 3, none⟩ = some (.int .i64 d.o) := HX.out.cell 3
      have x4 : w5.cell? ⟨v, 4, none⟩ = some (.bool d.a) := HX.out.cell 4
      have x5 : w5.cell? ⟨v, 5, none⟩ = some (.bool d.b) := HX.out.cell 5
      have x6 : w5.cell? ⟨v, 6, none⟩ = some (.int .i64 d.y) := HX.out.cell 6
      have HWV := hide hv
      have size31 : (Try.prog.info? 31).map (·.size) = some 7 := by kernel_rfl
      cases hds : d.set
      · have x0' : w5.cell? ⟨v, 0, none⟩ = some (.bool false) := by rw [x0, hds]
        clear x0 hds
        go_wp2_with (refine wpList_store_fresh rfl 31 (.tmp 13) (.tmp 52) rfl _ #[.bool d.set, .int .i64 d.id, .int .i64 d.k, .int .i64 d.o, .bool d.a, .bool d.b, .int .i64 d.y] v hv (by rfl) (by rfl) size31 rfl (by simp [Value.oneCell']) ?_; rw [hw5])
        clear s0 s1 s2 s3 s4 s5 s6 hw5 hv x0'
        refine wp_region_held_drew (S := fun w' => w'.cell? ⟨v, 1, none⟩ = some (.int .i64 d.id) ∧ w'.cell? ⟨v, 2, none⟩ = some (.int .i64 d.k) ∧ w'.cell? ⟨v, 3, none⟩ = some (.int .i64 d.o) ∧ w'.cell? ⟨v, 4, none⟩ = some (.bool d.a) ∧ w'.cell? ⟨v, 5, none⟩ = some (.bool d.b) ∧ w'.cell? ⟨v, 6, none⟩ = some (.int .i64 d.y)) (by kernel_rfl) (⟨x1, x2, x3, x4, x5, x6⟩) (fun hHeld => ?_)
        refine wpAnyH_take (i := 0) (v := ?_) rfl (by kernel_rfl) (by kernel_rfl) (by kernel_rfl) (fun _ _ _ h => h) (Or.inl ⟨by rfl, ?hy⟩) (by assumption) ?_
        case hy => intro w hSw; obtain ⟨hS1, hS2, hS3, hS4, hS5, hS6⟩ := hSw; (try dsimp only at *); go_simp; (try with_reducible rfl)
        (try dsimp only [List.getElem_toArray, List.getElem_cons_zero, List.getElem_cons_succ])
        try simp only [Act.put, List.setIfInBounds_toArray, List.set_cons_zero, List.set_cons_succ]
        refine wpAnyH_take (i := 1) (v := ?_) rfl (by kernel_rfl) (by kernel_rfl) (by kernel_rfl) (fun _ _ _ h => h) (Or.inl ⟨by rfl, ?hy⟩) (by assumption) ?_
        case hy => intro w hSw; obtain ⟨hS1, hS2, hS3, hS4, hS5, hS6⟩ := hSw; (try dsimp only at *); go_simp; (try with_reducible rfl)
        (try dsimp only [List.getElem_toArray, List.getElem_cons_zero, List.getElem_cons_succ])
        try simp only [Act.put, List.setIfInBounds_toArray, List.set_cons_zero, List.set_cons_succ]
        refine wpAnyH_take (i := 2) (v := ?_) rfl (by kernel_rfl) (by kernel_rfl) (by kernel_rfl) (fun _ _ _ h => h) (Or.inl ⟨by rfl, ?hy⟩) (by assumption) ?_
        case hy => intro w hSw; obtain ⟨hS1, hS2, hS3, hS4, hS5, hS6⟩ := hSw; (try dsimp only at *); go_simp; (try with_reducible rfl)
        (try dsimp only [List.getElem_toArray, List.getElem_cons_zero, List.getElem_cons_succ])
        try simp only [Act.put, List.setIfInBounds_toArray, List.set_cons_zero, List.set_cons_succ]
        refine wpAnyH_take (i := 3) (v := ?_) rfl (by kernel_rfl) (by kernel_rfl) (by kernel_rfl) (fun _ _ _ h => h) (Or.inl ⟨by rfl, ?hy⟩) (by assumption) ?_
        case hy => intro w hSw; obtain ⟨hS1, hS2, hS3, hS4, hS5, hS6⟩ := hSw; (try dsimp only at *); go_simp; (try with_reducible rfl)
        (try dsimp only [List.getElem_toArray, List.getElem_cons_zero, List.getElem_cons_succ])
        try simp only [Act.put, List.setIfInBounds_toArray, List.set_cons_zero, List.set_cons_succ]
        refine wpAnyH_take (i := 4) (v := ?_) rfl (by kernel_rfl) (by kernel_rfl) (by kernel_rfl) (fun _ _ _ h => h) (Or.inl ⟨by rfl, ?hy⟩) (by assumption) ?_
        case hy => intro w hSw; obtain ⟨hS1, hS2, hS3, hS4, hS5, hS6⟩ := hSw; (try dsimp only at *); go_simp; (try with_reducible rfl)
        (try dsimp only [List.getElem_toArray, List.getElem_cons_zero, List.getElem_cons_succ])
        try simp only [Act.put, List.setIfInBounds_toArray, List.set_cons_zero, List.set_cons_succ]
        refine wpAnyH_ready (rs := [5]) (by kernel_rfl) (by simp) ?_
        refine AllReadyH.cons rfl (fun K' hK => ?_) AllReadyH.nil
        go_simp
        go_at_call 8
        refine (own_any d.k d.o d.a d.b d.y _).mono ?_
        rintro e wa ⟨rfl, hb⟩
        have HVa : Hid (Below w5.heap.size w5 wa) := hide (below_undrew hb)
        have HXa := hide (HX.out.kept HVa.out)
        have wa_1 : wa.cell? ⟨v, 1, none⟩ = some (.int .i64 d.id) := HXa.out.cell 1
        have wa_2 : wa.cell? ⟨v, 2, none⟩ = some (.int .i64 d.k) := HXa.out.cell 2
        have wa_3 : wa.cell? ⟨v, 3, none⟩ = some (.int .i64 d.o) := HXa.out.cell 3
        have wa_4 : wa.cell? ⟨v, 4, none⟩ = some (.bool d.a) := HXa.out.cell 4
        have wa_5 : wa.cell? ⟨v, 5, none⟩ = some (.bool d.b) := HXa.out.cell 5
        have wa_6 : wa.cell? ⟨v, 6, none⟩ = some (.int .i64 d.y) := HXa.out.cell 6
        clear hb
        go_wp2_with fail
        refine hK.out _ _ ⟨wa_1, wa_2, wa_3, wa_4, wa_5, wa_6⟩ (fun hHeld => ?_)
        clear hK
        (try dsimp only [List.getElem_toArray, List.getElem_cons_zero, List.getElem_cons_succ])
        try simp only [Act.put, List.setIfInBounds_toArray, List.set_cons_zero, List.set_cons_succ]
        refine wpAnyH_take (i := 6) (v := ?_) rfl (by kernel_rfl) (by kernel_rfl) (by kernel_rfl) (fun _ _ _ h => h) (Or.inl ⟨by rfl, ?hy⟩) (by assumption) ?_
        case hy => intro w hSw; obtain ⟨hS1, hS2, hS3, hS4, hS5, hS6⟩ := hSw; (try dsimp only at *); go_simp; (try with_reducible rfl)
        (try dsimp only [List.getElem_toArray, List.getElem_cons_zero, List.getElem_cons_succ])
        try simp only [Act.put, List.setIfInBounds_toArray, List.set_cons_zero, List.set_cons_succ]
        refine wpAnyH_ready (rs := [7]) (by kernel_rfl) (by simp) ?_
        refine AllReadyH.cons rfl (fun K' hK => ?_) AllReadyH.nil
        go_simp
        go_at_call 11
        have HVV : Hid (Below wr.heap.size wr wa) := hide (below_nextB HW5.out HW5.out.size HVa.out)
        have HKa := hide (HK.out.kept HVV.out)
        refine (show Calls Try.prog 11 #[.pointer (some ⟨g, 0, none⟩), .agg #[.int .i64 d.id, .int .i64 d.k, .int .i64 d.o, .bool d.a, .bool d.b, .int .i64 d.y, .complex .f64 0 0, .bool false, .string ByteArray.empty, .int .i64 0, .int .i64 0, .int .i64 0, .bool false, .string ByteArray.empty, .int .i64 0, .int .i64 0, .int .i64 0]] wa (fun e w' => e = .returned (.int .i64 (begE ls d.sm 60)) ∧ ∃ F', Ro w' g 60 (begL ls d.sm 60) F' ∧ Only F wa w' ∧ ∀ b ∈ F', b ∈ F ∨ wa.heap.size ≤ b) from beg_op g d.sm wa (hide hls) (hide HKa.out.ro) HWF).mono ?_
        rintro e wb ⟨rfl, F', h1, h2, h3⟩
        have HKb : Hid (Keep w wb g F' (begL ls d.sm 60) m0) := hide (HKa.out.beg d.sm h1 h2 h3)
        have hlb := begL_length ls d.sm 60
        obtain ⟨l8, hl8⟩ : ∃ l8, begL ls d.sm 60 = l8 := ⟨_, rfl⟩
        obtain ⟨q, hq⟩ : ∃ q, begE ls d.sm 60 = q := ⟨_, rfl⟩
        rw [hl8] at HKb hlb
        rw [hq]
        have hvF : v ∉ F := fun hm => by have := HK.out.ro.lt v hm; have := HWV.out; omega
        have HXb := hide (Blk.only HXa.out h2 hvF)
        have wb_1 : wb.cell? ⟨v, 1, none⟩ = some (.int .i64 d.id) := HXb.out.cell 1
        have wb_2 : wb.cell? ⟨v, 2, none⟩ = some (.int .i64 d.k) := HXb.out.cell 2
        have wb_3 : wb.cell? ⟨v, 3, none⟩ = some (.int .i64 d.o) := HXb.out.cell 3
        have wb_4 : wb.cell? ⟨v, 4, none⟩ = some (.bool d.a) := HXb.out.cell 4
        have wb_5 : wb.cell? ⟨v, 5, none⟩ = some (.bool d.b) := HXb.out.cell 5
        have wb_6 : wb.cell? ⟨v, 6, none⟩ = some (.int .i64 d.y) := HXb.out.cell 6
        clear h1 h2 h3 hl8 hq hvF
        go_wp2_with fail
        refine hK.out _ _ ⟨wb_1, wb_2, wb_3, wb_4, wb_5, wb_6⟩ (fun hHeld => ?_)
        clear hK hHeld
        (try dsimp only [List.getElem_toArray, List.getElem_cons_zero, List.getElem_cons_succ])
        try simp only [Act.put, List.setIfInBounds_toArray, List.set_cons_zero, List.set_cons_succ]
        refine wpAnyH_done (by kernel_rfl) ?_ _
        try refine NoPanic.normal ?_
        go_wp2_with fail
        go_roundw
        case rel => exact ⟨k + 1, l8, F', by go_num, by omega, by omega, HKb⟩
        case measure => simp [intOf]; omega
      · have x0' : w5.cell? ⟨v, 0, none⟩ = some (.bool true) := by rw [x0, hds]
        clear x0 hds
        go_wp2_with (refine wpList_store_fresh rfl 31 (.tmp 13) (.tmp 52) rfl _ #[.bool d.set, .int .i64 d.id, .int .i64 d.k, .int .i64 d.o, .bool d.a, .bool d.b, .int .i64 d.y] v hv (by rfl) (by rfl) size31 rfl (by simp [Value.oneCell']) ?_; rw [hw5])
        go_roundw
        case rel => exact ⟨k + 1, ls, F, by go_num, by omega, by omega, hide (HK.out.kept HW5.out)⟩
        case measure => simp [intOf]; omega
    · obtain ⟨A9, n9, c9, am9, H9⟩ := HK.out.ro
      have HI := hide H9
      have hn9 : n9 ≤ 1000 := by rw [← H9.num]; omega
      have HP : Hid (posI (ids ls) id = some 0) := hide (by have := HK.out.ok.pos HK.out.hd; rw [← HM0.out] at this; exact this)
      clear H9
      go_wp2_with fail
      refine (show Calls Try.prog 16 #[.pointer (some ⟨g, 0, none⟩), .int .i64 id] wr (fun e w' => e = .returned (.tuple #[.agg #[.int .i64 id, .int .i64 3, .int .i64 ow, .bool false, .bool false, .int .i64 0, .complex .f64 cx 0, .bool false, .string ByteArray.empty, .int .i64 0, .int .i64 0, .int .i64 0, .bool false, .string ByteArray.empty, .int .i64 0, .int .i64 0, .int .i64 0], .bool true]) ∧ Below wr.heap.size wr w') from get_found g id wr hn9 HI HX0 0 ⟨id, 3, ow, false, false, 0, cx, 0⟩ HP (hide (by rw [HM0.out]; exact HK.out.hd))).mono ?_
      rintro e w6 ⟨rfl, hb⟩
      have HB6 : Hid (Below w.heap.size w w6) := hide (below_nextB HK.out.bel HK.out.bel.size hb)
      clear hb
      obtain ⟨v, hv⟩ : ∃ v, w6.heap.size = v := ⟨_, rfl⟩
      obtain ⟨w7, hw7⟩ : ∃ w7, w6.alloc (.cells #[.int .i64 id, .int .i64 3, .int .i64 ow, .bool false, .bool false, .int .i64 0, .complex .f64 cx 0, .bool false, .string ByteArray.empty, .int .i64 0, .int .i64 0, .int .i64 0, .bool false, .string ByteArray.empty, .int .i64 0, .int .i64 0, .int .i64 0] 41) = w7 := ⟨_, rfl⟩
      have HB7 : Hid (Below w.heap.size w w7) := hide (by rw [← hw7]; exact HB6.out.alloc HB6.out.size _)
      have HX7 : Hid (Blk w7 v 41 #[.int .i64 id, .int .i64 3, .int .i64 ow, .bool false, .bool false, .int .i64 0, .complex .f64 cx 0, .bool false, .string ByteArray.empty, .int .i64 0, .int .i64 0, .int .i64 0, .bool false, .string ByteArray.empty, .int .i64 0, .int .i64 0, .int .i64 0]) := hide (by rw [← hw7, ← hv]; exact Blk.born w6 41 _)
      have x0 : w7.cell? ⟨v, 0, none⟩ = some (.int .i64 id) := HX7.out.cell 0
      have x6 : w7.cell? ⟨v, 6, none⟩ = some (.complex .f64 cx 0) := HX7.out.cell 6
      have x1 : w7.cell? ⟨v, 1, none⟩ = some (.int .i64 3) := HX7.out.cell 1
      go_wp2_with (refine wpList_store_fresh rfl 41 (.tmp 14) (.tmp 69) rfl _ #[.int .i64 id, .int .i64 3, .int .i64 ow, .bool false, .bool false, .int .i64 0, .complex .f64 cx 0, .bool false, .string ByteArray.empty, .int .i64 0, .int .i64 0, .int .i64 0, .bool false, .string ByteArray.empty, .int .i64 0, .int .i64 0, .int .i64 0] v hv (by rfl) (by rfl) size41 rfl (by simp [Value.oneCell']) ?_; rw [hw7])
      refine (show Calls Try.prog 23 #[.agg #[.complex .f64 cx 0], .int .i64 0, .int .i64 65535] w7 (fun e w' => e = .returned (.int .i64 (65535 - z)) ∧ Below w7.heap.size w7 w') from (by have := room9_q (-z) 0 0 65535 (65535 - z) w7 HAMZ (hide am0) HRM; rwa [HCX.out, fw_zero] at this)).mono ?_
      rintro e w8 ⟨rfl, hb⟩
      have HB8 : Hid (Below w.heap.size w w8) := hide (below_nextB HB7.out HB7.out.size hb)
      have HX8 := hide (Blk.kept HX7.out hb)
      have y1 : w8.cell? ⟨v, 1, none⟩ = some (.int .i64 3) := HX8.out.cell 1
      clear hb x0 x6 x1 hw7 hv
      go_wp2_with fail
      refine (alive_any _).mono ?_
      rintro e w9 ⟨rfl, hb⟩
      have HB9 := hide (below_nextB HB8.out HB8.out.size hb)
      clear hb
      go_wp2_with fail
      go_ret
      exact ⟨rfl, HB9.out⟩
theorem keeps_any (id z : Int) (A : Option Addr) (n c : Nat) (ds : List Dd) (w : World) (hn : n ≤ maxLen) (HL : ds.length = n) (HS : Sees w A (cells7 ds)) (HW : ∀ d ∈ ds, (Lit.int .i64 d.id).wf = true) (HX0 : (Lit.int .i64 id).wf = true) (hz : (Lit.int .u16 z).wf = true) : Calls Try.prog 5 #[.int .i64 id, .int .u16 z, .slice A n c] w fun e w' => e = .returned (.bool true) ∧ Below w.heap.size w w' := by
  by_cases h : n ≤ 40
  · cases hk : ownK id with
    | true => exact keeps_near id z A n c ds w h (hide HL) (hide HS) (hide HW) (hide HX0) (wf_u16 hz).1 (wf_u16 hz).2 (hide hk)
    | false => exact keeps_out id z A n c w h (hide hk)
  · exact keeps_far id z A n c w (by omega) hn
end Go.Proofs.Ytngligcjcdpnhaa
