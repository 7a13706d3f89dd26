/- The reference's Set. -/
import Derived.Test.YtngligcjcdpnhaaY
namespace Go.Proofs.Ytngligcjcdpnhaa
open Go.RowKit Go.Maps
set_option linter.unusedSimpArgs false
set_option linter.unusedVariables false

theorem row_there6 {W : World} {base r n c i : Nat} {l : List Sm} {z : Sm} (h : W.ownsRow base 46 6 (.slice (some ⟨r, 0, none⟩) n c) n (cells6 l)) (hz : l[i]? = some z) : W.there r (i * 6) 6 := fun j hj => by
  refine ⟨?_, h.frozenAt _⟩
  have h1 := flat_get (f := row6) (s := 6) row6_len hz j hj
  rw [List.getElem?_eq_getElem (l := row6 z) (by rw [row6_len]; exact hj)] at h1
  rw [own_cell h h1]; rfl
theorem rset_end {wd : World} {base r n c k : Nat} {l : List Sm} {m : Sm} (h : wd.ownsRow base 46 6 (.slice (some ⟨r, 0, none⟩) n c) n (cells6 l)) (hn : l.length = n) (hk : k < n) : Rf (wd.setCells r (k * 6) (row6 m)) (fun g => base ≤ g) (some ⟨r, 0, none⟩) n c (l.set k m) := by
  have h1 := own_setCells (row6 m) (k * 6) wd _ h
  have h2 := flat_set (f := row6) (s := 6) (by decide) row6_len (m := m) (l := l) (i := k) (by omega)
  unfold cells6 at h1
  rw [h2] at h1
  exact ⟨by rw [List.length_set]; exact hn, own_sl h1⟩

set_option maxHeartbeats 2000000 in
theorem rset_may (m : Sm) (K : Nat → Prop) (A : Option Addr) (n c : Nat) (l : List Sm) (w : World) (hn : n ≤ 1000) (HR : Hid (Rf w K A n c l)) (hm : Hid (mayS m = true)) :
    Calls Try.prog 10 #[.slice A n c, .agg #[.int .i64 m.id, .int .i64 m.k, .int .i64 m.o, .bool m.a, .bool m.b, .int .i64 m.y]] w (RPost K (setL l m) (.bool (setB l m)) w) := by
  have HLN := hide HR.out.len
  have HCL : Hid ((cells6 l).length = n * 6) := hide (by rw [← HR.out.len]; exact flat_length row6_len l)
  have hA := HR.out.sl.nn
  obtain ⟨v, hv⟩ : ∃ v, w.heap.size = v := ⟨_, rfl⟩
  obtain ⟨W1, hW1⟩ : ∃ W1, w.alloc (.cells #[.int .i64 m.id, .int .i64 m.k, .int .i64 m.o, .bool m.a, .bool m.b, .int .i64 m.y] 46) = W1 := ⟨_, rfl⟩
  have HW1 : Hid (Below w.heap.size w W1) := hide (by rw [← hW1]; exact st_alloc1 w _)
  have HC : Hid (Blk W1 v 46 #[.int .i64 m.id, .int .i64 m.k, .int .i64 m.o, .bool m.a, .bool m.b, .int .i64 m.y]) := hide (by rw [← hW1, ← hv]; exact Blk.born w 46 _)
  obtain ⟨E, hE⟩ : ∃ E, W1.heap.size = E := ⟨_, rfl⟩
  obtain ⟨W2, hW2⟩ : ∃ W2, W1.alloc (.cells #[] 46) = W2 := ⟨_, rfl⟩
  have hvE : v + 1 ≤ E := by have := HC.out.lt; omega
  have HW2 : Hid (Below w.heap.size w W2) := hide (by rw [← hW2]; exact HW1.out.alloc HW1.out.size _)
  have HC2 : Hid (Blk W2 v 46 #[.int .i64 m.id, .int .i64 m.k, .int .i64 m.o, .bool m.a, .bool m.b, .int .i64 m.y]) := hide (by rw [← hW2]; exact HC.out.alloc _)
  have HO2 : Hid (W2.ownsRow (v + 1) 46 6 (.slice (some ⟨E, 0, none⟩) 0 0) 0 []) := hide (by rw [← hW2, ← hE]; exact own_none (v + 1) 46 6 (by omega))
  have HR2 := hide (HR.out.kept HW2.out)
  have hv2 : v + 1 ≤ W2.heap.size := by have := HC2.out.lt; omega
  go_enter Try.func10, Try.ntmps10
  go_wp2_with (at_builtin; go_loud (refine wpList_pour rfl (.tmp 8) (.tmp 9) 26 rfl (v + 1) 46 6 info46 rfl (by decide) Try.underlying26 (.slice (some ⟨E, 0, none⟩) 0 0) 0 [] (by rfl) HO2.out A n c (cells6 l) (by rfl) HCL.out hA HR2.out.sl.sees.sees (flat_one row6_one) (by unfold maxLen; omega) (by omega) hv2 ?_))
  intro B c' w3 ho hg
  have HO := hide ho
  have hEv : E ≠ v := by omega
  have HX := hide (HC2.out.grown hg (fun h => hEv (Option.some.inj h).symm))
  have HB : Hid (Below w.heap.size w w3) := hide ⟨hg.os.trans HW2.out.os, hg.tape.trans HW2.out.tape, hg.output.trans HW2.out.output, Nat.le_trans HW2.out.size hg.size, fun i hi => (hg.block i (Nat.lt_of_lt_of_le hi HW2.out.size) (fun h => by have e : i = E := Option.some.inj h; omega)).trans (HW2.out.block i hi)⟩
  have HR3 := hide (HR.out.kept HB.out)
  clear ho hg HC2 HO2 HW2 HR2 hW2 hE
  go_wp2_with fail
  go_loopw [7] (fun ii wr => ∃ (k : Nat), ii = .int .i64 (k : Nat) ∧ k ≤ n ∧ Hid (∀ j, j < k → (ids l)[j]? ≠ some m.id) ∧ Hid (Below w3.heap.size w3 wr)) (fun ii _ => n - (intOf ii).toNat)
  case atStart => exact ⟨0, rfl, Nat.zero_le _, hide (fun j hj => absurd hj (by omega)), hide (Below.refl _ _)⟩
  case round =>
    obtain ⟨k, rfl, hk, HE, HW⟩ := hrel
    by_cases hlt : k < n
    · have hki : (k : Int) < (n : Int) := by omega
      obtain ⟨x, hm'⟩ : ∃ x, l[k]? = some x := ⟨_, List.getElem?_eq_getElem (by have := HLN.out; omega)⟩
      have HM := hide hm'
      have HI := hide (ids_get hm')
      obtain ⟨bb, ob, rfl, t⟩ := (HR3.out.kept HW.out).at hm'
      have k0 : wr.cell? ⟨bb, ob + k * 6, none⟩ = some (.int .i64 x.id) := by have := t 0 _ rfl; simpa using this
      have hbb : bb < wr.heap.size := World.block_lt_of_cell? wr _ k0
      have HXr := hide (HX.out.kept HW.out)
      have HRW : Hid (wr.rangeAt v 0 (row6 m)) := hide (row_cells HXr.out)
      have x0 : wr.cell? ⟨v, 0, none⟩ = some (.int .i64 m.id) := HXr.out.cell 0
      clear hm' t
      by_cases hyx : x.id = m.id
      · have hb : (x.id == m.id) = true := by rw [beq_iff_eq]; exact hyx
        have HPI : Hid (posI (ids l) m.id = some k) := hide (posI_first (by rw [HI.out, hyx]) HE.out)
        clear hyx
        go_wp2_with fail
        refine wp_region_held_drew (S := fun w' => w'.rangeAt v 0 (row6 m) ∧ w'.cell? ⟨v, 0, none⟩ = some (.int .i64 m.id) ∧ w'.cell? ⟨bb, ob + k * 6, none⟩ = some (.int .i64 x.id)) (by kernel_rfl) (⟨HRW.out, x0, k0⟩) (fun hHeld => ?_)
        refine wpAnyH_take (i := 0) (v := ?_) rfl (by kernel_rfl) (by kernel_rfl) (by kernel_rfl) (fun _ _ _ h => h) (Or.inl ⟨by rfl, ?hy⟩) (by assumption) ?_
        case hy => intro w hSw; obtain ⟨hR, hS1, hS2⟩ := hSw; (try clear hR); (try dsimp only at *); go_simp; (try with_reducible rfl)
        (try dsimp only [List.getElem_toArray, List.getElem_cons_zero, List.getElem_cons_succ])
        try simp only [Act.put, List.setIfInBounds_toArray, List.set_cons_zero, List.set_cons_succ]
        refine wpAnyH_take (i := 1) (v := ?_) rfl (by kernel_rfl) (by kernel_rfl) (by kernel_rfl) (fun _ _ _ h => h) (Or.inl ⟨by rfl, ?hy⟩) (by assumption) ?_
        case hy => intro w hSw; obtain ⟨hR, hS1, hS2⟩ := hSw; (try clear hR); (try dsimp only at *); go_simp; (try with_reducible rfl)
        (try dsimp only [List.getElem_toArray, List.getElem_cons_zero, List.getElem_cons_succ])
        try simp only [Act.put, List.setIfInBounds_toArray, List.set_cons_zero, List.set_cons_succ]
        refine wpAnyH_take (i := 2) (v := ?_) rfl (by kernel_rfl) (by kernel_rfl) (by kernel_rfl) (fun _ _ _ h => h) (Or.inl ⟨by rfl, ?hy⟩) (by assumption) ?_
        case hy => intro w hSw; obtain ⟨hR, hS1, hS2⟩ := hSw; (try clear hR); (try dsimp only at *); go_simp; (try with_reducible rfl)
        (try dsimp only [List.getElem_toArray, List.getElem_cons_zero, List.getElem_cons_succ])
        try simp only [Act.put, List.setIfInBounds_toArray, List.set_cons_zero, List.set_cons_succ]
        refine wpAnyH_take (i := 3) (v := ?_) rfl (by kernel_rfl) (by kernel_rfl) (by kernel_rfl) (fun _ _ _ h => h) (Or.inl ⟨by rfl, ?hy⟩) (by assumption) ?_
        case hy => intro w hSw; obtain ⟨hR, hS1, hS2⟩ := hSw; (try clear hR); (try dsimp only at *); go_simp; (try with_reducible rfl)
        (try dsimp only [List.getElem_toArray, List.getElem_cons_zero, List.getElem_cons_succ])
        try simp only [Act.put, List.setIfInBounds_toArray, List.set_cons_zero, List.set_cons_succ]
        refine wpAnyH_take (i := 4) (v := ?_) rfl (by kernel_rfl) (by kernel_rfl) (by kernel_rfl) (fun _ _ _ h => h) (Or.inl ⟨by rfl, ?hy⟩) (by assumption) ?_
        case hy => intro w hSw; obtain ⟨hR, hS1, hS2⟩ := hSw; (try clear hR); (try dsimp only at *); go_simp; (try with_reducible rfl)
        (try dsimp only [List.getElem_toArray, List.getElem_cons_zero, List.getElem_cons_succ])
        try simp only [Act.put, List.setIfInBounds_toArray, List.set_cons_zero, List.set_cons_succ]
        refine wpAnyH_take (i := 5) (v := ?_) rfl (by kernel_rfl) (by kernel_rfl) (by kernel_rfl) (fun _ _ _ h => h) (Or.inl ⟨by rfl, ?hy⟩) (by assumption) ?_
        case hy => intro w hSw; obtain ⟨hR, hS1, hS2⟩ := hSw; (try clear hR); (try dsimp only at *); go_simp; (try with_reducible rfl)
        (try dsimp only [List.getElem_toArray, List.getElem_cons_zero, List.getElem_cons_succ])
        try simp only [Act.put, List.setIfInBounds_toArray, List.set_cons_zero, List.set_cons_succ]
        refine wpAnyH_take (i := 6) (v := ?_) rfl (by kernel_rfl) (by kernel_rfl) (by kernel_rfl) (fun _ _ _ h => h) (Or.inl ⟨by rfl, ?hy⟩) (by assumption) ?_
        case hy => intro w hSw; obtain ⟨hR, hS1, hS2⟩ := hSw; (try clear hR); (try dsimp only at *); go_simp; (try with_reducible rfl)
        (try dsimp only [List.getElem_toArray, List.getElem_cons_zero, List.getElem_cons_succ])
        try simp only [Act.put, List.setIfInBounds_toArray, List.set_cons_zero, List.set_cons_succ]
        refine wpAnyH_take (i := 7) (v := ?_) rfl (by kernel_rfl) (by kernel_rfl) (by kernel_rfl) (fun _ _ _ h => h) (Or.inl ⟨by rfl, ?hy⟩) (by assumption) ?_
        case hy => intro w hSw; obtain ⟨hR, hS1, hS2⟩ := hSw; (try clear hR); (try dsimp only at *); go_simp; (try with_reducible rfl)
        (try dsimp only [List.getElem_toArray, List.getElem_cons_zero, List.getElem_cons_succ])
        try simp only [Act.put, List.setIfInBounds_toArray, List.set_cons_zero, List.set_cons_succ]
        refine wpAnyH_take (i := 8) (v := ?_) rfl (by kernel_rfl) (by kernel_rfl) (by kernel_rfl) (fun _ _ _ h => h) (Or.inl ⟨by rfl, ?hy⟩) (by assumption) ?_
        case hy => intro w hSw; obtain ⟨hR, hS1, hS2⟩ := hSw; (try clear hR); (try dsimp only at *); go_simp; (try with_reducible rfl)
        (try dsimp only [List.getElem_toArray, List.getElem_cons_zero, List.getElem_cons_succ])
        try simp only [Act.put, List.setIfInBounds_toArray, List.set_cons_zero, List.set_cons_succ]
        refine wpAnyH_take (i := 9) (v := .agg #[.int .i64 m.id, .int .i64 m.k, .int .i64 m.o, .bool m.a, .bool m.b, .int .i64 m.y]) rfl (by kernel_rfl) (by kernel_rfl) (by kernel_rfl) (fun _ _ _ h => h) ?hz (by assumption) ?_
        case hz => exact yieldsIf_load_mid (by rfl) 46 (.tmp 3) rfl v 0 (by rfl) (row6 m) _ (fun _ h => h.1) Try.underlying46 rfl size46
        (try dsimp only [List.getElem_toArray, List.getElem_cons_zero, List.getElem_cons_succ])
        try simp only [Act.put, List.setIfInBounds_toArray, List.set_cons_zero, List.set_cons_succ]
        refine wpAnyH_ready (rs := [10]) (by kernel_rfl) (by simp) ?_
        refine AllReadyH.cons rfl (fun K' hK => ?_) AllReadyH.nil
        go_simp
        go_at_call 26
        refine (rmay_any m wr.drew true hm.out).mono ?_
        rintro e wd ⟨rfl, hb⟩
        have HD : Hid (Below wr.heap.size wr wd) := hide (below_undrew hb)
        have HWd : Hid (Below w3.heap.size w3 wd) := hide (below_nextB HW.out HW.out.size HD.out)
        have HXd := hide (HX.out.kept HWd.out)
        have HRWd : Hid (wd.rangeAt v 0 (row6 m)) := hide (row_cells HXd.out)
        have y0 : wd.cell? ⟨v, 0, none⟩ = some (.int .i64 m.id) := HXd.out.cell 0
        have k0d : wd.cell? ⟨bb, ob + k * 6, none⟩ = some (.int .i64 x.id) := (HD.out.cell (p := ⟨bb, ob + k * 6, none⟩) hbb).trans k0
        clear hb
        go_wp2_with fail
        refine hK.out _ _ ⟨HRWd.out, y0, k0d⟩ (fun hHeld => ?_)
        clear hK
        (try dsimp only [List.getElem_toArray, List.getElem_cons_zero, List.getElem_cons_succ])
        try simp only [Act.put, List.setIfInBounds_toArray, List.set_cons_zero, List.set_cons_succ]
        refine wpAnyH_take (i := 11) (v := ?_) rfl (by kernel_rfl) (by kernel_rfl) (by kernel_rfl) (fun _ _ _ h => h) (Or.inl ⟨by rfl, ?hy⟩) (by assumption) ?_
        case hy => intro w hSw; obtain ⟨hR, hS1, hS2⟩ := hSw; (try clear hR); (try dsimp only at *); go_simp; (try with_reducible rfl)
        (try dsimp only [List.getElem_toArray, List.getElem_cons_zero, List.getElem_cons_succ])
        try simp only [Act.put, List.setIfInBounds_toArray, List.set_cons_zero, List.set_cons_succ]
        refine wpAnyH_done (by kernel_rfl) ?_ _
        try refine NoPanic.normal ?_

        obtain ⟨r, C9, hBB⟩ := own_some (n := n) HO.out (by omega)
        injection hBB with hBB _ hcc
        subst hBB hcc
        have HOd := hide (own_kept HO.out HWd.out)
        have HTH : Hid (wd.there r (k * 6) 6) := hide (row_there6 HOd.out HM.out)
        have HEND := hide (rset_end (m := m) HOd.out HLN.out hlt)
        have HBE : Hid (Below w.heap.size w (wd.setCells r (k * 6) (row6 m))) := hide (below_cells (below_nextB HB.out HB.out.size HWd.out) (by have := (HO.out.lt r rfl).1; omega) _ _)
        go_wp2_with (first | refine wpList_load_w (by rfl) 46 (.tmp 3) rfl v 0 (by rfl) (row6 m) HRWd.out Try.underlying46 rfl size46 #[.int .i64 m.id, .int .i64 m.k, .int .i64 m.o, .bool m.a, .bool m.b, .int .i64 m.y] rfl ?_ | (refine wpList_store_mid rfl 46 (.tmp 32) (.tmp 31) rfl r (k * 6) #[.int .i64 m.id, .int .i64 m.k, .int .i64 m.o, .bool m.a, .bool m.b, .int .i64 m.y] (by rfl) (by rfl) HTH.out size46 (all_oneCell_toArray (row6_one m)) ?_))
        go_ret2
        refine ⟨some ⟨r, 0, none⟩, n, c', ?_, ?_, HBE.out⟩
        · rw [show setB l m = true by unfold setB; rw [HPI.out, hm.out]; rfl]; rfl
        · rw [show setL l m = l.set k m by unfold setL; rw [HPI.out, hm.out]; rfl]
          exact HEND.out.mono (fun g _ h => .inr (by omega))
      · have hb : (x.id == m.id) = false := by rw [beq_eq_false_iff_ne]; exact hyx
        have HE1 : Hid (∀ j, j < k + 1 → (ids l)[j]? ≠ some m.id) := hide (fun j hj => by
          by_cases e : j < k
          · exact HE.out j e
          · have : j = k := by omega
            rw [this, HI.out]
            exact fun e => hyx (Option.some.inj e))
        clear hyx
        go_wp2_with fail
        refine wp_region_held_drew (S := fun w' => w'.rangeAt v 0 (row6 m) ∧ w'.cell? ⟨v, 0, none⟩ = some (.int .i64 m.id) ∧ w'.cell? ⟨bb, ob + k * 6, none⟩ = some (.int .i64 x.id)) (by kernel_rfl) (⟨HRW.out, x0, k0⟩) (fun hHeld => ?_)
        refine wpAnyH_take (i := 0) (v := ?_) rfl (by kernel_rfl) (by kernel_rfl) (by kernel_rfl) (fun _ _ _ h => h) (Or.inl ⟨by rfl, ?hy⟩) (by assumption) ?_
        case hy => intro w hSw; obtain ⟨hR, hS1, hS2⟩ := hSw; (try clear hR); (try dsimp only at *); go_simp; (try with_reducible rfl)
        (try dsimp only [List.getElem_toArray, List.getElem_cons_zero, List.getElem_cons_succ])
        try simp only [Act.put, List.setIfInBounds_toArray, List.set_cons_zero, List.set_cons_succ]
        refine wpAnyH_take (i := 1) (v := ?_) rfl (by kernel_rfl) (by kernel_rfl) (by kernel_rfl) (fun _ _ _ h => h) (Or.inl ⟨by rfl, ?hy⟩) (by assumption) ?_
        case hy => intro w hSw; obtain ⟨hR, hS1, hS2⟩ := hSw; (try clear hR); (try dsimp only at *); go_simp; (try with_reducible rfl)
        (try dsimp only [List.getElem_toArray, List.getElem_cons_zero, List.getElem_cons_succ])
        try simp only [Act.put, List.setIfInBounds_toArray, List.set_cons_zero, List.set_cons_succ]
        refine wpAnyH_take (i := 2) (v := ?_) rfl (by kernel_rfl) (by kernel_rfl) (by kernel_rfl) (fun _ _ _ h => h) (Or.inl ⟨by rfl, ?hy⟩) (by assumption) ?_
        case hy => intro w hSw; obtain ⟨hR, hS1, hS2⟩ := hSw; (try clear hR); (try dsimp only at *); go_simp; (try with_reducible rfl)
        (try dsimp only [List.getElem_toArray, List.getElem_cons_zero, List.getElem_cons_succ])
        try simp only [Act.put, List.setIfInBounds_toArray, List.set_cons_zero, List.set_cons_succ]
        refine wpAnyH_take (i := 3) (v := ?_) rfl (by kernel_rfl) (by kernel_rfl) (by kernel_rfl) (fun _ _ _ h => h) (Or.inl ⟨by rfl, ?hy⟩) (by assumption) ?_
        case hy => intro w hSw; obtain ⟨hR, hS1, hS2⟩ := hSw; (try clear hR); (try dsimp only at *); go_simp; (try with_reducible rfl)
        (try dsimp only [List.getElem_toArray, List.getElem_cons_zero, List.getElem_cons_succ])
        try simp only [Act.put, List.setIfInBounds_toArray, List.set_cons_zero, List.set_cons_succ]
        refine wpAnyH_take (i := 4) (v := ?_) rfl (by kernel_rfl) (by kernel_rfl) (by kernel_rfl) (fun _ _ _ h => h) (Or.inl ⟨by rfl, ?hy⟩) (by assumption) ?_
        case hy => intro w hSw; obtain ⟨hR, hS1, hS2⟩ := hSw; (try clear hR); (try dsimp only at *); go_simp; (try with_reducible rfl)
        (try dsimp only [List.getElem_toArray, List.getElem_cons_zero, List.getElem_cons_succ])
        try simp only [Act.put, List.setIfInBounds_toArray, List.set_cons_zero, List.set_cons_succ]
        refine wpAnyH_take (i := 5) (v := ?_) rfl (by kernel_rfl) (by kernel_rfl) (by kernel_rfl) (fun _ _ _ h => h) (Or.inl ⟨by rfl, ?hy⟩) (by assumption) ?_
        case hy => intro w hSw; obtain ⟨hR, hS1, hS2⟩ := hSw; (try clear hR); (try dsimp only at *); go_simp; (try with_reducible rfl)
        (try dsimp only [List.getElem_toArray, List.getElem_cons_zero, List.getElem_cons_succ])
        try simp only [Act.put, List.setIfInBounds_toArray, List.set_cons_zero, List.set_cons_succ]
        refine wpAnyH_take (i := 6) (v := ?_) rfl (by kernel_rfl) (by kernel_rfl) (by kernel_rfl) (fun _ _ _ h => h) (Or.inl ⟨by rfl, ?hy⟩) (by assumption) ?_
        case hy => intro w hSw; obtain ⟨hR, hS1, hS2⟩ := hSw; (try clear hR); (try dsimp only at *); go_simp; (try with_reducible rfl)
        (try dsimp only [List.getElem_toArray, List.getElem_cons_zero, List.getElem_cons_succ])
        try simp only [Act.put, List.setIfInBounds_toArray, List.set_cons_zero, List.set_cons_succ]
        refine wpAnyH_take (i := 7) (v := ?_) rfl (by kernel_rfl) (by kernel_rfl) (by kernel_rfl) (fun _ _ _ h => h) (Or.inl ⟨by rfl, ?hy⟩) (by assumption) ?_
        case hy => intro w hSw; obtain ⟨hR, hS1, hS2⟩ := hSw; (try clear hR); (try dsimp only at *); go_simp; (try with_reducible rfl)
        (try dsimp only [List.getElem_toArray, List.getElem_cons_zero, List.getElem_cons_succ])
        try simp only [Act.put, List.setIfInBounds_toArray, List.set_cons_zero, List.set_cons_succ]
        refine wpAnyH_take (i := 8) (v := ?_) rfl (by kernel_rfl) (by kernel_rfl) (by kernel_rfl) (fun _ _ _ h => h) (Or.inl ⟨by rfl, ?hy⟩) (by assumption) ?_
        case hy => intro w hSw; obtain ⟨hR, hS1, hS2⟩ := hSw; (try clear hR); (try dsimp only at *); go_simp; (try with_reducible rfl)
        (try dsimp only [List.getElem_toArray, List.getElem_cons_zero, List.getElem_cons_succ])
        try simp only [Act.put, List.setIfInBounds_toArray, List.set_cons_zero, List.set_cons_succ]
        refine wpAnyH_take (i := 9) (v := undef) rfl (by kernel_rfl) (by kernel_rfl) (by kernel_rfl) (fun _ _ _ h => h) (Or.inr ⟨by rfl, rfl⟩) (by assumption) ?_
        (try dsimp only [List.getElem_toArray, List.getElem_cons_zero, List.getElem_cons_succ])
        try simp only [Act.put, List.setIfInBounds_toArray, List.set_cons_zero, List.set_cons_succ]
        refine wpAnyH_take (i := 10) (v := undef) rfl (by kernel_rfl) (by kernel_rfl) (by kernel_rfl) (fun _ _ _ h => h) (Or.inr ⟨by rfl, rfl⟩) (by assumption) ?_
        (try dsimp only [List.getElem_toArray, List.getElem_cons_zero, List.getElem_cons_succ])
        try simp only [Act.put, List.setIfInBounds_toArray, List.set_cons_zero, List.set_cons_succ]
        refine wpAnyH_take (i := 11) (v := ?_) rfl (by kernel_rfl) (by kernel_rfl) (by kernel_rfl) (fun _ _ _ h => h) (Or.inl ⟨by rfl, ?hy⟩) (by assumption) ?_
        case hy => intro w hSw; obtain ⟨hR, hS1, hS2⟩ := hSw; (try clear hR); (try dsimp only at *); go_simp; (try with_reducible rfl)
        (try dsimp only [List.getElem_toArray, List.getElem_cons_zero, List.getElem_cons_succ])
        try simp only [Act.put, List.setIfInBounds_toArray, List.set_cons_zero, List.set_cons_succ]
        refine wpAnyH_done (by kernel_rfl) ?_ _
        try refine NoPanic.normal ?_

        go_wp2_with fail
        go_roundw
        case rel => exact ⟨k + 1, by go_num, by omega, HE1, hide (below_drewN HW.out 1)⟩
        case measure => simp [intOf]; omega
    · have HPI : Hid (posI (ids l) m.id = none) := hide (posI_nobody (fun j hj => by
        have h1 := (List.getElem?_eq_some_iff.1 hj).1
        have h2 := HLN.out
        rw [ids_length] at h1
        exact HE.out j (by omega) hj))
      go_wp2_with fail
      go_ret2
      refine ⟨A, n, c, ?_, ?_, below_nextB HB.out HB.out.size HW.out⟩
      · rw [show setB l m = false by unfold setB; rw [HPI.out]; rfl]; rfl
      · rw [show setL l m = l by unfold setL; rw [HPI.out]; split <;> rfl]
        exact (HR.out.kept (below_nextB HB.out HB.out.size HW.out)).mono (fun g _ h => .inl h)

set_option maxHeartbeats 2000000 in
theorem rset_no (m : Sm) (K : Nat → Prop) (A : Option Addr) (n c : Nat) (l : List Sm) (w : World) (hn : n ≤ 1000) (HR : Hid (Rf w K A n c l)) (hm : Hid (mayS m = false)) :
    Calls Try.prog 10 #[.slice A n c, .agg #[.int .i64 m.id, .int .i64 m.k, .int .i64 m.o, .bool m.a, .bool m.b, .int .i64 m.y]] w (RPost K l (.bool false) w) := by
  have HLN := hide HR.out.len
  have HCL : Hid ((cells6 l).length = n * 6) := hide (by rw [← HR.out.len]; exact flat_length row6_len l)
  have hA := HR.out.sl.nn
  obtain ⟨v, hv⟩ : ∃ v, w.heap.size = v := ⟨_, rfl⟩
  obtain ⟨W1, hW1⟩ : ∃ W1, w.alloc (.cells #[.int .i64 m.id, .int .i64 m.k, .int .i64 m.o, .bool m.a, .bool m.b, .int .i64 m.y] 46) = W1 := ⟨_, rfl⟩
  have HW1 : Hid (Below w.heap.size w W1) := hide (by rw [← hW1]; exact st_alloc1 w _)
  have HC : Hid (Blk W1 v 46 #[.int .i64 m.id, .int .i64 m.k, .int .i64 m.o, .bool m.a, .bool m.b, .int .i64 m.y]) := hide (by rw [← hW1, ← hv]; exact Blk.born w 46 _)
  obtain ⟨E, hE⟩ : ∃ E, W1.heap.size = E := ⟨_, rfl⟩
  obtain ⟨W2, hW2⟩ : ∃ W2, W1.alloc (.cells #[] 46) = W2 := ⟨_, rfl⟩
  have hvE : v + 1 ≤ E := by have := HC.out.lt; omega
  have HW2 : Hid (Below w.heap.size w W2) := hide (by rw [← hW2]; exact HW1.out.alloc HW1.out.size _)
  have HC2 : Hid (Blk W2 v 46 #[.int .i64 m.id, .int .i64 m.k, .int .i64 m.o, .bool m.a, .bool m.b, .int .i64 m.y]) := hide (by rw [← hW2]; exact HC.out.alloc _)
  have HO2 : Hid (W2.ownsRow (v + 1) 46 6 (.slice (some ⟨E, 0, none⟩) 0 0) 0 []) := hide (by rw [← hW2, ← hE]; exact own_none (v + 1) 46 6 (by omega))
  have HR2 := hide (HR.out.kept HW2.out)
  have hv2 : v + 1 ≤ W2.heap.size := by have := HC2.out.lt; omega
  go_enter Try.func10, Try.ntmps10
  go_wp2_with (at_builtin; go_loud (refine wpList_pour rfl (.tmp 8) (.tmp 9) 26 rfl (v + 1) 46 6 info46 rfl (by decide) Try.underlying26 (.slice (some ⟨E, 0, none⟩) 0 0) 0 [] (by rfl) HO2.out A n c (cells6 l) (by rfl) HCL.out hA HR2.out.sl.sees.sees (flat_one row6_one) (by unfold maxLen; omega) (by omega) hv2 ?_))
  intro B c' w3 ho hg
  have HO := hide ho
  have hEv : E ≠ v := by omega
  have HX := hide (HC2.out.grown hg (fun h => hEv (Option.some.inj h).symm))
  have HB : Hid (Below w.heap.size w w3) := hide ⟨hg.os.trans HW2.out.os, hg.tape.trans HW2.out.tape, hg.output.trans HW2.out.output, Nat.le_trans HW2.out.size hg.size, fun i hi => (hg.block i (Nat.lt_of_lt_of_le hi HW2.out.size) (fun h => by have e : i = E := Option.some.inj h; omega)).trans (HW2.out.block i hi)⟩
  have HR3 := hide (HR.out.kept HB.out)
  clear ho hg HC2 HO2 HW2 HR2 hW2 hE
  go_wp2_with fail
  go_loopw [7] (fun ii wr => ∃ (k : Nat), ii = .int .i64 (k : Nat) ∧ k ≤ n ∧ Hid True ∧ Hid (Below w3.heap.size w3 wr)) (fun ii _ => n - (intOf ii).toNat)
  case atStart => exact ⟨0, rfl, Nat.zero_le _, hide trivial, hide (Below.refl _ _)⟩
  case round =>
    obtain ⟨k, rfl, hk, HE, HW⟩ := hrel
    by_cases hlt : k < n
    · have hki : (k : Int) < (n : Int) := by omega
      obtain ⟨x, hm'⟩ : ∃ x, l[k]? = some x := ⟨_, List.getElem?_eq_getElem (by have := HLN.out; omega)⟩
      have HM := hide hm'
      have HI := hide (ids_get hm')
      obtain ⟨bb, ob, rfl, t⟩ := (HR3.out.kept HW.out).at hm'
      have k0 : wr.cell? ⟨bb, ob + k * 6, none⟩ = some (.int .i64 x.id) := by have := t 0 _ rfl; simpa using this
      have hbb : bb < wr.heap.size := World.block_lt_of_cell? wr _ k0
      have HXr := hide (HX.out.kept HW.out)
      have HRW : Hid (wr.rangeAt v 0 (row6 m)) := hide (row_cells HXr.out)
      have x0 : wr.cell? ⟨v, 0, none⟩ = some (.int .i64 m.id) := HXr.out.cell 0
      clear hm' t
      by_cases hyx : x.id = m.id
      · have hb : (x.id == m.id) = true := by rw [beq_iff_eq]; exact hyx
        clear hyx
        go_wp2_with fail
        refine wp_region_held_drew (S := fun w' => w'.rangeAt v 0 (row6 m) ∧ w'.cell? ⟨v, 0, none⟩ = some (.int .i64 m.id) ∧ w'.cell? ⟨bb, ob + k * 6, none⟩ = some (.int .i64 x.id)) (by kernel_rfl) (⟨HRW.out, x0, k0⟩) (fun hHeld => ?_)
        refine wpAnyH_take (i := 0) (v := ?_) rfl (by kernel_rfl) (by kernel_rfl) (by kernel_rfl) (fun _ _ _ h => h) (Or.inl ⟨by rfl, ?hy⟩) (by assumption) ?_
        case hy => intro w hSw; obtain ⟨hR, hS1, hS2⟩ := hSw; (try clear hR); (try dsimp only at *); go_simp; (try with_reducible rfl)
        (try dsimp only [List.getElem_toArray, List.getElem_cons_zero, List.getElem_cons_succ])
        try simp only [Act.put, List.setIfInBounds_toArray, List.set_cons_zero, List.set_cons_succ]
        refine wpAnyH_take (i := 1) (v := ?_) rfl (by kernel_rfl) (by kernel_rfl) (by kernel_rfl) (fun _ _ _ h => h) (Or.inl ⟨by rfl, ?hy⟩) (by assumption) ?_
        case hy => intro w hSw; obtain ⟨hR, hS1, hS2⟩ := hSw; (try clear hR); (try dsimp only at *); go_simp; (try with_reducible rfl)
        (try dsimp only [List.getElem_toArray, List.getElem_cons_zero, List.getElem_cons_succ])
        try simp only [Act.put, List.setIfInBounds_toArray, List.set_cons_zero, List.set_cons_succ]
        refine wpAnyH_take (i := 2) (v := ?_) rfl (by kernel_rfl) (by kernel_rfl) (by kernel_rfl) (fun _ _ _ h => h) (Or.inl ⟨by rfl, ?hy⟩) (by assumption) ?_
        case hy => intro w hSw; obtain ⟨hR, hS1, hS2⟩ := hSw; (try clear hR); (try dsimp only at *); go_simp; (try with_reducible rfl)
        (try dsimp only [List.getElem_toArray, List.getElem_cons_zero, List.getElem_cons_succ])
        try simp only [Act.put, List.setIfInBounds_toArray, List.set_cons_zero, List.set_cons_succ]
        refine wpAnyH_take (i := 3) (v := ?_) rfl (by kernel_rfl) (by kernel_rfl) (by kernel_rfl) (fun _ _ _ h => h) (Or.inl ⟨by rfl, ?hy⟩) (by assumption) ?_
        case hy => intro w hSw; obtain ⟨hR, hS1, hS2⟩ := hSw; (try clear hR); (try dsimp only at *); go_simp; (try with_reducible rfl)
        (try dsimp only [List.getElem_toArray, List.getElem_cons_zero, List.getElem_cons_succ])
        try simp only [Act.put, List.setIfInBounds_toArray, List.set_cons_zero, List.set_cons_succ]
        refine wpAnyH_take (i := 4) (v := ?_) rfl (by kernel_rfl) (by kernel_rfl) (by kernel_rfl) (fun _ _ _ h => h) (Or.inl ⟨by rfl, ?hy⟩) (by assumption) ?_
        case hy => intro w hSw; obtain ⟨hR, hS1, hS2⟩ := hSw; (try clear hR); (try dsimp only at *); go_simp; (try with_reducible rfl)
        (try dsimp only [List.getElem_toArray, List.getElem_cons_zero, List.getElem_cons_succ])
        try simp only [Act.put, List.setIfInBounds_toArray, List.set_cons_zero, List.set_cons_succ]
        refine wpAnyH_take (i := 5) (v := ?_) rfl (by kernel_rfl) (by kernel_rfl) (by kernel_rfl) (fun _ _ _ h => h) (Or.inl ⟨by rfl, ?hy⟩) (by assumption) ?_
        case hy => intro w hSw; obtain ⟨hR, hS1, hS2⟩ := hSw; (try clear hR); (try dsimp only at *); go_simp; (try with_reducible rfl)
        (try dsimp only [List.getElem_toArray, List.getElem_cons_zero, List.getElem_cons_succ])
        try simp only [Act.put, List.setIfInBounds_toArray, List.set_cons_zero, List.set_cons_succ]
        refine wpAnyH_take (i := 6) (v := ?_) rfl (by kernel_rfl) (by kernel_rfl) (by kernel_rfl) (fun _ _ _ h => h) (Or.inl ⟨by rfl, ?hy⟩) (by assumption) ?_
        case hy => intro w hSw; obtain ⟨hR, hS1, hS2⟩ := hSw; (try clear hR); (try dsimp only at *); go_simp; (try with_reducible rfl)
        (try dsimp only [List.getElem_toArray, List.getElem_cons_zero, List.getElem_cons_succ])
        try simp only [Act.put, List.setIfInBounds_toArray, List.set_cons_zero, List.set_cons_succ]
        refine wpAnyH_take (i := 7) (v := ?_) rfl (by kernel_rfl) (by kernel_rfl) (by kernel_rfl) (fun _ _ _ h => h) (Or.inl ⟨by rfl, ?hy⟩) (by assumption) ?_
        case hy => intro w hSw; obtain ⟨hR, hS1, hS2⟩ := hSw; (try clear hR); (try dsimp only at *); go_simp; (try with_reducible rfl)
        (try dsimp only [List.getElem_toArray, List.getElem_cons_zero, List.getElem_cons_succ])
        try simp only [Act.put, List.setIfInBounds_toArray, List.set_cons_zero, List.set_cons_succ]
        refine wpAnyH_take (i := 8) (v := ?_) rfl (by kernel_rfl) (by kernel_rfl) (by kernel_rfl) (fun _ _ _ h => h) (Or.inl ⟨by rfl, ?hy⟩) (by assumption) ?_
        case hy => intro w hSw; obtain ⟨hR, hS1, hS2⟩ := hSw; (try clear hR); (try dsimp only at *); go_simp; (try with_reducible rfl)
        (try dsimp only [List.getElem_toArray, List.getElem_cons_zero, List.getElem_cons_succ])
        try simp only [Act.put, List.setIfInBounds_toArray, List.set_cons_zero, List.set_cons_succ]
        refine wpAnyH_take (i := 9) (v := .agg #[.int .i64 m.id, .int .i64 m.k, .int .i64 m.o, .bool m.a, .bool m.b, .int .i64 m.y]) rfl (by kernel_rfl) (by kernel_rfl) (by kernel_rfl) (fun _ _ _ h => h) ?hz (by assumption) ?_
        case hz => exact yieldsIf_load_mid (by rfl) 46 (.tmp 3) rfl v 0 (by rfl) (row6 m) _ (fun _ h => h.1) Try.underlying46 rfl size46
        (try dsimp only [List.getElem_toArray, List.getElem_cons_zero, List.getElem_cons_succ])
        try simp only [Act.put, List.setIfInBounds_toArray, List.set_cons_zero, List.set_cons_succ]
        refine wpAnyH_ready (rs := [10]) (by kernel_rfl) (by simp) ?_
        refine AllReadyH.cons rfl (fun K' hK => ?_) AllReadyH.nil
        go_simp
        go_at_call 26
        refine (rmay_any m wr.drew false hm.out).mono ?_
        rintro e wd ⟨rfl, hb⟩
        have HD : Hid (Below wr.heap.size wr wd) := hide (below_undrew hb)
        have HWd : Hid (Below w3.heap.size w3 wd) := hide (below_nextB HW.out HW.out.size HD.out)
        have HXd := hide (HX.out.kept HWd.out)
        have HRWd : Hid (wd.rangeAt v 0 (row6 m)) := hide (row_cells HXd.out)
        have y0 : wd.cell? ⟨v, 0, none⟩ = some (.int .i64 m.id) := HXd.out.cell 0
        have k0d : wd.cell? ⟨bb, ob + k * 6, none⟩ = some (.int .i64 x.id) := (HD.out.cell (p := ⟨bb, ob + k * 6, none⟩) hbb).trans k0
        clear hb
        go_wp2_with fail
        refine hK.out _ _ ⟨HRWd.out, y0, k0d⟩ (fun hHeld => ?_)
        clear hK
        (try dsimp only [List.getElem_toArray, List.getElem_cons_zero, List.getElem_cons_succ])
        try simp only [Act.put, List.setIfInBounds_toArray, List.set_cons_zero, List.set_cons_succ]
        refine wpAnyH_take (i := 11) (v := ?_) rfl (by kernel_rfl) (by kernel_rfl) (by kernel_rfl) (fun _ _ _ h => h) (Or.inl ⟨by rfl, ?hy⟩) (by assumption) ?_
        case hy => intro w hSw; obtain ⟨hR, hS1, hS2⟩ := hSw; (try clear hR); (try dsimp only at *); go_simp; (try with_reducible rfl)
        (try dsimp only [List.getElem_toArray, List.getElem_cons_zero, List.getElem_cons_succ])
        try simp only [Act.put, List.setIfInBounds_toArray, List.set_cons_zero, List.set_cons_succ]
        refine wpAnyH_done (by kernel_rfl) ?_ _
        try refine NoPanic.normal ?_

        go_wp2_with fail
        go_roundw
        case rel => exact ⟨k + 1, by go_num, by omega, hide trivial, HWd⟩
        case measure => simp [intOf]; omega
      · have hb : (x.id == m.id) = false := by rw [beq_eq_false_iff_ne]; exact hyx
        clear hyx
        go_wp2_with fail
        refine wp_region_held_drew (S := fun w' => w'.rangeAt v 0 (row6 m) ∧ w'.cell? ⟨v, 0, none⟩ = some (.int .i64 m.id) ∧ w'.cell? ⟨bb, ob + k * 6, none⟩ = some (.int .i64 x.id)) (by kernel_rfl) (⟨HRW.out, x0, k0⟩) (fun hHeld => ?_)
        refine wpAnyH_take (i := 0) (v := ?_) rfl (by kernel_rfl) (by kernel_rfl) (by kernel_rfl) (fun _ _ _ h => h) (Or.inl ⟨by rfl, ?hy⟩) (by assumption) ?_
        case hy => intro w hSw; obtain ⟨hR, hS1, hS2⟩ := hSw; (try clear hR); (try dsimp only at *); go_simp; (try with_reducible rfl)
        (try dsimp only [List.getElem_toArray, List.getElem_cons_zero, List.getElem_cons_succ])
        try simp only [Act.put, List.setIfInBounds_toArray, List.set_cons_zero, List.set_cons_succ]
        refine wpAnyH_take (i := 1) (v := ?_) rfl (by kernel_rfl) (by kernel_rfl) (by kernel_rfl) (fun _ _ _ h => h) (Or.inl ⟨by rfl, ?hy⟩) (by assumption) ?_
        case hy => intro w hSw; obtain ⟨hR, hS1, hS2⟩ := hSw; (try clear hR); (try dsimp only at *); go_simp; (try with_reducible rfl)
        (try dsimp only [List.getElem_toArray, List.getElem_cons_zero, List.getElem_cons_succ])
        try simp only [Act.put, List.setIfInBounds_toArray, List.set_cons_zero, List.set_cons_succ]
        refine wpAnyH_take (i := 2) (v := ?_) rfl (by kernel_rfl) (by kernel_rfl) (by kernel_rfl) (fun _ _ _ h => h) (Or.inl ⟨by rfl, ?hy⟩) (by assumption) ?_
        case hy => intro w hSw; obtain ⟨hR, hS1, hS2⟩ := hSw; (try clear hR); (try dsimp only at *); go_simp; (try with_reducible rfl)
        (try dsimp only [List.getElem_toArray, List.getElem_cons_zero, List.getElem_cons_succ])
        try simp only [Act.put, List.setIfInBounds_toArray, List.set_cons_zero, List.set_cons_succ]
        refine wpAnyH_take (i := 3) (v := ?_) rfl (by kernel_rfl) (by kernel_rfl) (by kernel_rfl) (fun _ _ _ h => h) (Or.inl ⟨by rfl, ?hy⟩) (by assumption) ?_
        case hy => intro w hSw; obtain ⟨hR, hS1, hS2⟩ := hSw; (try clear hR); (try dsimp only at *); go_simp; (try with_reducible rfl)
        (try dsimp only [List.getElem_toArray, List.getElem_cons_zero, List.getElem_cons_succ])
        try simp only [Act.put, List.setIfInBounds_toArray, List.set_cons_zero, List.set_cons_succ]
        refine wpAnyH_take (i := 4) (v := ?_) rfl (by kernel_rfl) (by kernel_rfl) (by kernel_rfl) (fun _ _ _ h => h) (Or.inl ⟨by rfl, ?hy⟩) (by assumption) ?_
        case hy => intro w hSw; obtain ⟨hR, hS1, hS2⟩ := hSw; (try clear hR); (try dsimp only at *); go_simp; (try with_reducible rfl)
        (try dsimp only [List.getElem_toArray, List.getElem_cons_zero, List.getElem_cons_succ])
        try simp only [Act.put, List.setIfInBounds_toArray, List.set_cons_zero, List.set_cons_succ]
        refine wpAnyH_take (i := 5) (v := ?_) rfl (by kernel_rfl) (by kernel_rfl) (by kernel_rfl) (fun _ _ _ h => h) (Or.inl ⟨by rfl, ?hy⟩) (by assumption) ?_
        case hy => intro w hSw; obtain ⟨hR, hS1, hS2⟩ := hSw; (try clear hR); (try dsimp only at *); go_simp; (try with_reducible rfl)
        (try dsimp only [List.getElem_toArray, List.getElem_cons_zero, List.getElem_cons_succ])
        try simp only [Act.put, List.setIfInBounds_toArray, List.set_cons_zero, List.set_cons_succ]
        refine wpAnyH_take (i := 6) (v := ?_) rfl (by kernel_rfl) (by kernel_rfl) (by kernel_rfl) (fun _ _ _ h => h) (Or.inl ⟨by rfl, ?hy⟩) (by assumption) ?_
        case hy => intro w hSw; obtain ⟨hR, hS1, hS2⟩ := hSw; (try clear hR); (try dsimp only at *); go_simp; (try with_reducible rfl)
        (try dsimp only [List.getElem_toArray, List.getElem_cons_zero, List.getElem_cons_succ])
        try simp only [Act.put, List.setIfInBounds_toArray, List.set_cons_zero, List.set_cons_succ]
        refine wpAnyH_take (i := 7) (v := ?_) rfl (by kernel_rfl) (by kernel_rfl) (by kernel_rfl) (fun _ _ _ h => h) (Or.inl ⟨by rfl, ?hy⟩) (by assumption) ?_
        case hy => intro w hSw; obtain ⟨hR, hS1, hS2⟩ := hSw; (try clear hR); (try dsimp only at *); go_simp; (try with_reducible rfl)
        (try dsimp only [List.getElem_toArray, List.getElem_cons_zero, List.getElem_cons_succ])
        try simp only [Act.put, List.setIfInBounds_toArray, List.set_cons_zero, List.set_cons_succ]
        refine wpAnyH_take (i := 8) (v := ?_) rfl (by kernel_rfl) (by kernel_rfl) (by kernel_rfl) (fun _ _ _ h => h) (Or.inl ⟨by rfl, ?hy⟩) (by assumption) ?_
        case hy => intro w hSw; obtain ⟨hR, hS1, hS2⟩ := hSw; (try clear hR); (try dsimp only at *); go_simp; (try with_reducible rfl)
        (try dsimp only [List.getElem_toArray, List.getElem_cons_zero, List.getElem_cons_succ])
        try simp only [Act.put, List.setIfInBounds_toArray, List.set_cons_zero, List.set_cons_succ]
        refine wpAnyH_take (i := 9) (v := undef) rfl (by kernel_rfl) (by kernel_rfl) (by kernel_rfl) (fun _ _ _ h => h) (Or.inr ⟨by rfl, rfl⟩) (by assumption) ?_
        (try dsimp only [List.getElem_toArray, List.getElem_cons_zero, List.getElem_cons_succ])
        try simp only [Act.put, List.setIfInBounds_toArray, List.set_cons_zero, List.set_cons_succ]
        refine wpAnyH_take (i := 10) (v := undef) rfl (by kernel_rfl) (by kernel_rfl) (by kernel_rfl) (fun _ _ _ h => h) (Or.inr ⟨by rfl, rfl⟩) (by assumption) ?_
        (try dsimp only [List.getElem_toArray, List.getElem_cons_zero, List.getElem_cons_succ])
        try simp only [Act.put, List.setIfInBounds_toArray, List.set_cons_zero, List.set_cons_succ]
        refine wpAnyH_take (i := 11) (v := ?_) rfl (by kernel_rfl) (by kernel_rfl) (by kernel_rfl) (fun _ _ _ h => h) (Or.inl ⟨by rfl, ?hy⟩) (by assumption) ?_
        case hy => intro w hSw; obtain ⟨hR, hS1, hS2⟩ := hSw; (try clear hR); (try dsimp only at *); go_simp; (try with_reducible rfl)
        (try dsimp only [List.getElem_toArray, List.getElem_cons_zero, List.getElem_cons_succ])
        try simp only [Act.put, List.setIfInBounds_toArray, List.set_cons_zero, List.set_cons_succ]
        refine wpAnyH_done (by kernel_rfl) ?_ _
        try refine NoPanic.normal ?_

        go_wp2_with fail
        go_roundw
        case rel => exact ⟨k + 1, by go_num, by omega, hide trivial, hide (below_drewN HW.out 1)⟩
        case measure => simp [intOf]; omega
    · go_wp2_with fail
      go_ret2
      exact ⟨A, n, c, rfl, (HR.out.kept (below_nextB HB.out HB.out.size HW.out)).mono (fun g _ h => .inl h), below_nextB HB.out HB.out.size HW.out⟩

/-- What the reference's Begin does. -/
theorem rbeg_op (m : Sm) (most : Int) (K : Nat → Prop) (A : Option Addr) (n c : Nat) (l : List Sm) (w : World) (hn : n ≤ 1000) (HR : Hid (Rf w K A n c l)) (ht : Hid (∀ m ∈ l, -9223372036854775808 ≤ m.id ∧ m.id ≤ 9223372036854775807)) :
    Calls Try.prog 12 #[.slice A n c, .agg #[.int .i64 m.id, .int .i64 m.k, .int .i64 m.o, .bool m.a, .bool m.b, .int .i64 m.y], .int .i64 most] w (RPost K (begL l m most) (.int .i64 (begE l m most)) w) := by
  have hln := HR.out.len
  cases hm : mayS m with
  | false =>
    have hc : canB l m = false := by unfold canB; rw [hm]; rfl
    rw [show begL l m most = l by unfold begL; rw [hc]; simp, show begE l m most = 1 by unfold begE; rw [hc]; rfl]
    exact rbeg_no m most K A n c l w hn HR ht (hide hm)
  | true =>
    by_cases hle : m.id ≤ lastL l (ownO m.id)
    · have hc : canB l m = false := by unfold canB; rw [hm]; simp; omega
      rw [show begL l m most = l by unfold begL; rw [hc]; simp, show begE l m most = 1 by unfold begE; rw [hc]; rfl]
      exact rbeg_old m most K A n c l w hn HR ht _ (hide hm) (hide rfl) hle
    · have hc : canB l m = true := by unfold canB; rw [hm]; simp; omega
      by_cases hf : (n : Int) ≥ most
      · rw [show begL l m most = l by unfold begL; rw [if_neg (fun h => by omega)], show begE l m most = 6 by unfold begE; rw [if_pos hc, if_neg (by omega)]]
        exact rbeg_full m most K A n c l w hn HR ht _ (hide hm) (hide rfl) hle hf
      · rw [show begL l m most = l ++ [m] by unfold begL; rw [if_pos ⟨hc, by omega⟩], show begE l m most = 0 by unfold begE; rw [if_pos hc, if_pos (by omega)]]
        exact rbeg_yes m most K A n c l w hn HR ht _ (hide hm) (hide rfl) hle hf
/-- What the reference's Set does. -/
theorem rset_op (m : Sm) (K : Nat → Prop) (A : Option Addr) (n c : Nat) (l : List Sm) (w : World) (hn : n ≤ 1000) (HR : Hid (Rf w K A n c l)) :
    Calls Try.prog 10 #[.slice A n c, .agg #[.int .i64 m.id, .int .i64 m.k, .int .i64 m.o, .bool m.a, .bool m.b, .int .i64 m.y]] w (RPost K (setL l m) (.bool (setB l m)) w) := by
  cases hm : mayS m with
  | true => exact rset_may m K A n c l w hn HR (hide hm)
  | false =>
    rw [show setL l m = l by unfold setL; rw [hm]; rfl, show setB l m = false by unfold setB; rw [hm]; simp]
    exact rset_no m K A n c l w hn HR (hide hm)

end Go.Proofs.Ytngligcjcdpnhaa
