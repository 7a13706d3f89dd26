/- Join. -/
import Derived.Test.YtciddilphflhaaaP
namespace Go.Proofs.Ytciddilphflhaaa
open Go.RowKit
set_option linter.unusedSimpArgs false

theorem own_lower {w : World} {base base' n : Nat} {e : TypeId} {v : Value} {xs : List Value} (h : w.ownsRow base e 1 v n xs) (hb : base' ≤ base) : w.ownsRow base' e 1 v n xs := by
  refine ⟨h.1, ?_⟩
  rcases h.2 with h2 | ⟨g, cap, cur, e1, e2, r⟩
  · exact .inl h2
  · exact .inr ⟨g, cap, cur, e1, Nat.le_trans hb e2, r⟩
theorem own_blk_ne {w : World} {base e z n gb : Nat} {t : TypeId} {v : Value} {xs : List Value} {cs : Array Value} (h : w.ownsRow base e z v n xs) (hb : Blk w gb t cs) (he : e ≠ t) : v.ownBlock ≠ some gb := fun e1 => by
  rcases h.2 with ⟨rfl, _⟩ | ⟨g, cap, cur, rfl, _, hg, _⟩
  · cases e1
  · have : g = gb := by simpa [Value.ownBlock] using e1
    subst this
    have h2 : w.heap[g]? = some (.cells cs t (0, 0)) := hb
    rw [hg] at h2
    injection h2 with h2
    injection h2 with _ e2
    exact he e2
set_option maxRecDepth 100000 in
set_option maxHeartbeats 4000000 in
theorem join_any (A : Option Addr) (n c : Nat) (l : CL) (w : World) (hl : l.length = n) (hn : n ≤ 5000) (ht : tot l ≤ 5000) (hs : Chunks w A l) :
    Calls Try.prog 8 #[.slice A n c] w (JPost (joinC l) w) := by
  have HLN := hide hl
  have HT := hide ht
  have HC := hide hs
  clear hl hs ht
  go_enter Try.func8, Try.ntmps8
  go_wp2_with fail
  go_loopw [3, 9] (fun ov iv wr => ∃ (i n1 c1 : Nat) (A1 : Option Addr) (hs : HL), ov = .slice A1 n1 c1 ∧ iv = .int .i64 (i : Nat) ∧ i ≤ n ∧ Hid (OwnC w.heap.size wr A1 n1 c1 hs (joinC (l.take i))) ∧ Hid (Below w.heap.size w wr)) (fun _ iv _ => n - (intOf iv).toNat)
  case atStart => exact ⟨0, 0, 0, none, [], rfl, rfl, Nat.zero_le _, hide (OwnC.nil _ _), hide (Below.refl _ _)⟩
  case round =>
    obtain ⟨i, n1, c1, A1, hs, rfl, rfl, hi, HO, HW⟩ := hrel
    by_cases hlt : i < n
    · have hil : i < l.length := by have := HLN.out; omega
      obtain ⟨f, b, hd⟩ : ∃ f b, l[i] = (f, b) := ⟨_, _, rfl⟩
      have hg : l[i]? = some (f, b) := by rw [List.getElem?_eq_getElem hil, hd]
      obtain ⟨ga, oa, D, cd, rfl, a0, a1, _, _, hsb⟩ := HC.out i f b hg
      have HJ := hide (joinC_take hg)
      obtain ⟨m, hm⟩ : ∃ m, b.length = m := ⟨_, rfl⟩
      have HM := hide hm
      rw [hm] at a1
      have HSB : Hid (∀ w', Below w.heap.size w w' → Sees w' D (b.map (Value.int .u8))) := hide (fun w' hb => by
        intro j u hu
        obtain ⟨b', o', e, hc⟩ := hsb j u hu
        exact ⟨b', o', e, (hb.cell (p := ⟨b', o' + j, none⟩) (World.block_lt_of_cell? _ _ hc)).trans hc⟩)
      have s0 := (HW.out.cell (World.block_lt_of_cell? _ _ a0)).trans a0
      have s1 := (HW.out.cell (World.block_lt_of_cell? _ _ a1)).trans a1
      obtain ⟨out0, hout⟩ : ∃ out0, joinC (l.take i) = out0 := ⟨_, rfl⟩
      have HB : Hid (tot out0 + m ≤ 5000 ∧ out0.length ≤ 5000) := hide (by
        rw [← hout]
        have h1 := joinC_tot (l.take i)
        have h2 := tot_take hg
        have h3 := tot_le l (i + 1)
        have h4 := joinC_len (l.take i)
        have h5 := HT.out
        simp at h2 h4
        omega)
      rw [hout] at HO HJ
      have i1 : (i : Int) < (n : Int) := by omega
      have i3 : (0 : Int) ≤ (i : Int) := by omega
      have hn5 : n1 ≤ 5000 := by have := HO.out.num; have := HB.out.2; omega
      have hm5 : m ≤ 5000 := by have := HB.out.1; omega
      clear hd hg hsb hil hout a0 a1
      have HO1 := hide (HO.out.kept ((Below.refl _ wr).alloc (Nat.le_refl _) (.cells #[.int .i64 f, .slice D m cd] 33)))
      have HW1 := hide (HW.out.alloc HW.out.size (.cells #[.int .i64 f, .slice D m cd] 33))
      have HX1 := hide (Blk.born wr 33 #[.int .i64 f, .slice D m cd])
      obtain ⟨wb, hwb⟩ : ∃ wb, wr.heap.size = wb := ⟨_, rfl⟩
      rw [hwb] at HX1
      have hwbge : w.heap.size ≤ wb := by have := HW.out.size; omega
      obtain ⟨W1, hW1⟩ : ∃ W1, wr.alloc (.cells #[.int .i64 f, .slice D m cd] 33) = W1 := ⟨_, rfl⟩
      rw [hW1] at HO1 HW1 HX1
      have d0 : W1.cell? ⟨wb, 0, none⟩ = some (.int .i64 f) := HX1.out.cell 0
      have d1 : W1.cell? ⟨wb, 1, none⟩ = some (.slice D m cd) := HX1.out.cell 1
      have HAL : Hid (∀ j, (Value.slice A1 n1 c1).ownBlock = some j → w.heap.size ≤ j ∧ j < wb) := hide (fun j hj => by have := HO.out.own.lt j hj; omega)
      by_cases hm0 : m = 0
      · have hb0 : Hid (addC out0 (f, b) = out0) := hide (by
          have h1 : b = [] := List.eq_nil_of_length_eq_zero (by rw [HM.out, hm0])
          rw [h1, addC_nil])
        subst hm0
        go_wp2_with fail
        go_roundw
        case rel => exact ⟨i + 1, n1, c1, A1, hs, rfl, by go_num, by omega, hide (by rw [HJ.out, hb0.out]; exact HO1.out), HW1⟩
        case measure => simp [intOf]; omega
      · have hmz : ((m : Int) == 0) = false := by simp; omega
        have hbn : b ≠ [] := by intro h; have := HM.out; rw [h] at this; simp at this; omega
        have HBN := hide hbn
        clear hbn
        rcases addC_cases out0 f with ⟨o1, cc, rfl⟩ | ⟨h1, h2⟩
        · obtain ⟨g, q, hs0, B, p, cb, rfl, rfl, hlc⟩ := HO1.out.toLast
          have HLC := hide hlc
          have hp : p + m ≤ 5000 := by have h1 := HB.out.1; have h2 := hlc.lp; rw [tot_snoc] at h1; simp at h1; omega
          obtain ⟨e0, e1, _⟩ := hlc.facts
          have q1 : (q : Int) < (q : Int) + 1 := by omega
          have q3 : (0 : Int) ≤ (q : Int) := by omega
          have qw : IntKind.i64.wrap (q : Int) = (q : Int) := by rw [IntKind.wrap_i64]; omega
          clear hlc
          go_wp2_with fail
          go_quiet (fail)
          go_wp2_with fail
          have HW2 := hide (below_drewN HW1.out nq)
          have HX2 := hide (HX1.out.kept (below_drewN (Below.refl _ _) nq))
          have HL2 := hide (HLC.out.kept (below_drewN (Below.refl _ _) nq))
          obtain ⟨W, hW⟩ : ∃ W, W1.drewN nq = W := ⟨_, rfl⟩
          rw [hW] at HW2 HX2 HL2
          rw [hW]
          clear hW hW1 HW1 HX1 HO1 HO HW d0 d1 s0 s1
          have HS : Hid (∀ w', Below W.heap.size W w' → w'.cell? ⟨wb, 0, none⟩ = some (.int .i64 f) ∧ w'.cell? ⟨wb, 1, none⟩ = some (.slice D m cd)) := hide (fun w' hb => ⟨(HX2.out.kept hb).cell 0, (HX2.out.kept hb).cell 1⟩)
          have d0 : W.cell? ⟨wb, 0, none⟩ = some (.int .i64 f) := HX2.out.cell 0
          have d1 : W.cell? ⟨wb, 1, none⟩ = some (.slice D m cd) := HX2.out.cell 1
          clear e0 e1 HLC
          obtain ⟨e0, e1, e2, inn, hge⟩ := HL2.out.facts
          have HIN := hide inn
          have hlp := HL2.out.lp
          have hgb : g ≠ wb := fun e => by have := (HAL.out g rfl).2; omega
          clear inn
          refine wp_region_held_drew (S := fun w' => w'.cell? ⟨wb, 1, none⟩ = some (.slice D m cd)) (by kernel_rfl) (d1) (fun hHeld => ?_)
          refine wpAnyH_take (i := 0) (v := ?_) rfl (by kernel_rfl) (by kernel_rfl) (by kernel_rfl) (fun _ _ _ h => h) (Or.inl ⟨by rfl, ?hy⟩) (by assumption) ?_
          case hy => intro w hSw; (try dsimp only at hSw); go_simp; (try with_reducible rfl)
          try simp only [Act.put, List.setIfInBounds_toArray, List.set_cons_zero, List.set_cons_succ]
          refine wpAnyH_take (i := 1) (v := ?_) rfl (by kernel_rfl) (by kernel_rfl) (by kernel_rfl) (fun _ _ _ h => h) (Or.inl ⟨by rfl, ?hy⟩) (by assumption) ?_
          case hy => intro w hSw; (try dsimp only at hSw); go_simp; (try with_reducible rfl)
          try simp only [Act.put, List.setIfInBounds_toArray, List.set_cons_zero, List.set_cons_succ]
          refine wpAnyH_take (i := 2) (v := ?_) rfl (by kernel_rfl) (by kernel_rfl) (by kernel_rfl) (fun _ _ _ h => h) (Or.inl ⟨by rfl, ?hy⟩) (by assumption) ?_
          case hy => intro w hSw; (try dsimp only at hSw); go_simp; (try with_reducible rfl)
          try simp only [Act.put, List.setIfInBounds_toArray, List.set_cons_zero, List.set_cons_succ]
          refine wpAnyH_take (i := 3) (v := ?_) rfl (by kernel_rfl) (by kernel_rfl) (by kernel_rfl) (fun _ _ _ h => h) (Or.inl ⟨by rfl, ?hy⟩) (by assumption) ?_
          case hy => intro w hSw; (try dsimp only at hSw); go_simp; (try with_reducible rfl)
          try simp only [Act.put, List.setIfInBounds_toArray, List.set_cons_zero, List.set_cons_succ]
          refine wpAnyH_take (i := 4) (v := ?_) rfl (by kernel_rfl) (by kernel_rfl) (by kernel_rfl) (fun _ _ _ h => h) (Or.inl ⟨by rfl, ?hy⟩) (by assumption) ?_
          case hy => intro w hSw; (try dsimp only at hSw); go_simp; (try with_reducible rfl)
          try simp only [Act.put, List.setIfInBounds_toArray, List.set_cons_zero, List.set_cons_succ]
          refine wpAnyH_take (i := 5) (v := ?_) rfl (by kernel_rfl) (by kernel_rfl) (by kernel_rfl) (fun _ _ _ h => h) (Or.inl ⟨by rfl, ?hy⟩) (by assumption) ?_
          case hy => intro w hSw; (try dsimp only at hSw); go_simp; (try with_reducible rfl)
          try simp only [Act.put, List.setIfInBounds_toArray, List.set_cons_zero, List.set_cons_succ]
          refine wpAnyH_take (i := 7) (v := ?_) rfl (by kernel_rfl) (by kernel_rfl) (by kernel_rfl) (fun _ _ _ h => h) (Or.inl ⟨by rfl, ?hy⟩) (by assumption) ?_
          case hy => intro w hSw; (try dsimp only at hSw); go_simp; (try with_reducible rfl)
          try simp only [Act.put, List.setIfInBounds_toArray, List.set_cons_zero, List.set_cons_succ]
          refine wpAnyH_take (i := 8) (v := ?_) rfl (by kernel_rfl) (by kernel_rfl) (by kernel_rfl) (fun _ _ _ h => h) (Or.inl ⟨by rfl, ?hy⟩) (by assumption) ?_
          case hy => intro w hSw; (try dsimp only at hSw); go_simp; (try with_reducible rfl)
          try simp only [Act.put, List.setIfInBounds_toArray, List.set_cons_zero, List.set_cons_succ]
          refine wpAnyH_ready (rs := [6]) (by kernel_rfl) (by simp) ?_
          refine AllReadyH.cons rfl (fun K' hK => ?_) ?_
          · go_simp
            refine hK.out _ _ (d1) (fun hHeld => ?_)
            clear hK
            try simp only [Act.put, List.setIfInBounds_toArray, List.set_cons_zero, List.set_cons_succ]
            refine wpAnyH_ready (rs := [9]) (by kernel_rfl) (by simp) ?_
            refine AllReadyH.cons rfl (fun K' hK => ?_) ?_
            · refine step_bytes rfl (.tmp 49) (.tmp 51) rfl w.heap.size p cb B cc b (by rfl) HIN.out.drew hlp D m cd (by rfl) HM.out (HSB.out W HW2.out).drew (by omega) (by omega) (by have := HW2.out.size; simp; omega) ?_
              intro g' c' w4 ho hg hat
              have hal : Below W.heap.size W W.drew := (Below.refl _ _).drew
              obtain ⟨x1, x2⟩ := HL2.out.outer hal hg
              obtain ⟨hs4, ho4⟩ := HL2.out.more hal ho HM.out hg hat
              have HO4 := hide ho4
              have HB4 : Hid (Below w.heap.size w w4) := hide ((below_nextB HW2.out HW2.out.size hal).grown hg (by have := HW2.out.size; simp; omega) (own_row_ge HIN.out))
              have x3 : w4.cell? ⟨wb, 1, none⟩ = some (.slice D m cd) := by
                rw [hg.cell_far ⟨wb, 1, none⟩ (HX2.out.lt) (by
                  have hne := own_blk_ne HIN.out HX2.out (by decide)
                  exact fun e => hne e.symm)]
                exact d1
              clear ho hg hat ho4 hal
              refine hK.out _ _ (x3) (fun hHeld => ?_)
              clear hK
              try simp only [Act.put, List.setIfInBounds_toArray, List.set_cons_zero, List.set_cons_succ]
              refine wpAnyH_take (i := 10) (v := ?_) rfl (by kernel_rfl) (by kernel_rfl) (by kernel_rfl) (fun _ _ _ h => h) (Or.inl ⟨by rfl, ?hy⟩) (by assumption) ?_
              case hy => intro w hSw; (try dsimp only at hSw); go_simp; (try with_reducible rfl)
              try simp only [Act.put, List.setIfInBounds_toArray, List.set_cons_zero, List.set_cons_succ]
              refine wpAnyH_take (i := 11) (v := ?_) rfl (by kernel_rfl) (by kernel_rfl) (by kernel_rfl) (fun _ _ _ h => h) (Or.inl ⟨by rfl, ?hy⟩) (by assumption) ?_
              case hy => intro w hSw; (try dsimp only at hSw); go_simp; (try with_reducible rfl)
              try simp only [Act.put, List.setIfInBounds_toArray, List.set_cons_zero, List.set_cons_succ]
              refine wpAnyH_ready (rs := [12]) (by kernel_rfl) (by simp) ?_
              refine AllReadyH.cons rfl (fun K' hK => ?_) ?_
              · go_simp
                refine hK.out _ _ (by rw [World.cell?_setCell_far _ _ _ _ hgb]; exact x3) (fun hHeld => ?_)
                clear hK
                try simp only [Act.put, List.setIfInBounds_toArray, List.set_cons_zero, List.set_cons_succ]
                refine wpAnyH_done (by kernel_rfl) ?_ _
                try refine NoPanic.normal ?_
                go_wp2_with fail
                go_roundw
                case rel => exact ⟨i + 1, q + 1, _, _, hs4, rfl, by go_num, by omega, hide (by rw [HJ.out, addC_same]; exact HO4.out), hide (HB4.out.setCell hge _)⟩
                case measure => simp [intOf]; omega
              · exact AllReadyH.nil
            · exact AllReadyH.nil
          · exact AllReadyH.nil
        · rcases List.eq_nil_or_concat out0 with rfl | ⟨o1, ⟨f1, cc⟩, e⟩
          · obtain rfl : n1 = 0 := by have := HO.out.num; simp at this; omega
            clear h2
            go_wp2_with fail
            go_quiet (fail)
            go_wp2_with fail
            have HW2 := hide (below_drewN HW1.out nq)
            have HX2 := hide (HX1.out.kept (below_drewN (Below.refl _ _) nq))
            have HL2 := hide (HO1.out.kept (below_drewN (Below.refl _ _) nq))
            obtain ⟨W, hW⟩ : ∃ W, W1.drewN nq = W := ⟨_, rfl⟩
            rw [hW] at HW2 HX2 HL2
            rw [hW]
            clear hW hW1 HW1 HX1 HO1 HO HW d0 d1 s0 s1
            have HS : Hid (∀ w', Below W.heap.size W w' → w'.cell? ⟨wb, 0, none⟩ = some (.int .i64 f) ∧ w'.cell? ⟨wb, 1, none⟩ = some (.slice D m cd)) := hide (fun w' hb => ⟨(HX2.out.kept hb).cell 0, (HX2.out.kept hb).cell 1⟩)
            have d0 : W.cell? ⟨wb, 0, none⟩ = some (.int .i64 f) := HX2.out.cell 0
            have d1 : W.cell? ⟨wb, 1, none⟩ = some (.slice D m cd) := HX2.out.cell 1
            obtain ⟨hb1, hb2⟩ := And.intro HW2.out.size HM.out
            refine wp_region_held_drew (S := fun w' => w'.cell? ⟨wb, 0, none⟩ = some (.int .i64 f) ∧ w'.cell? ⟨wb, 1, none⟩ = some (.slice D m cd)) (by kernel_rfl) (⟨d0, d1⟩) (fun hHeld => ?_)
            refine wpAnyH_take (i := 0) (v := ?_) rfl (by kernel_rfl) (by kernel_rfl) (by kernel_rfl) (fun _ _ _ h => h) (Or.inl ⟨by rfl, ?hy⟩) (by assumption) ?_
            case hy => intro w hSw; (try dsimp only at hSw); go_simp; (try with_reducible rfl)
            try simp only [Act.put, List.setIfInBounds_toArray, List.set_cons_zero, List.set_cons_succ]
            refine wpAnyH_take (i := 1) (v := ?_) rfl (by kernel_rfl) (by kernel_rfl) (by kernel_rfl) (fun _ _ _ h => h) (Or.inl ⟨by rfl, ?hy⟩) (by assumption) ?_
            case hy => intro w hSw; (try dsimp only at hSw); go_simp; (try with_reducible rfl)
            try simp only [Act.put, List.setIfInBounds_toArray, List.set_cons_zero, List.set_cons_succ]
            refine wpAnyH_take (i := 2) (v := ?_) rfl (by kernel_rfl) (by kernel_rfl) (by kernel_rfl) (fun _ _ _ h => h) (Or.inl ⟨by rfl, ?hy⟩) (by assumption) ?_
            case hy => intro w hSw; (try dsimp only at hSw); go_simp; (try with_reducible rfl)
            try simp only [Act.put, List.setIfInBounds_toArray, List.set_cons_zero, List.set_cons_succ]
            refine wpAnyH_take (i := 3) (v := ?_) rfl (by kernel_rfl) (by kernel_rfl) (by kernel_rfl) (fun _ _ _ h => h) (Or.inl ⟨by rfl, ?hy⟩) (by assumption) ?_
            case hy => intro w hSw; (try dsimp only at hSw); go_simp; (try with_reducible rfl)
            try simp only [Act.put, List.setIfInBounds_toArray, List.set_cons_zero, List.set_cons_succ]
            refine wpAnyH_take (i := 4) (v := ?_) rfl (by kernel_rfl) (by kernel_rfl) (by kernel_rfl) (fun _ _ _ h => h) (Or.inl ⟨by rfl, ?hy⟩) (by assumption) ?_
            case hy => intro w hSw; (try dsimp only at hSw); go_simp; (try with_reducible rfl)
            try simp only [Act.put, List.setIfInBounds_toArray, List.set_cons_zero, List.set_cons_succ]
            refine wpAnyH_ready (rs := [5]) (by kernel_rfl) (by simp) ?_
            refine AllReadyH.cons rfl (fun K' hK => ?_) ?_
            · go_simp
              go_at_call 19
              refine (clone_any D m cd b _ HM.out (by omega) (by omega) (HSB.out W HW2.out).drew).mono ?_
              rintro e w3 ⟨B3, c3, rfl, ho3, hb3⟩
              have HV3 := hide ho3
              have HB3 := hide (below_undrew hb3)
              obtain ⟨x0, x1⟩ := HS.out w3 (by simpa using HB3.out)
              clear ho3 hb3
              refine hK.out _ _ (⟨x0, x1⟩) (fun hHeld => ?_)
              clear hK
              try simp only [Act.put, List.setIfInBounds_toArray, List.set_cons_zero, List.set_cons_succ]
              refine wpAnyH_take (i := 6) (v := ?_) rfl (by kernel_rfl) (by kernel_rfl) (by kernel_rfl) (fun _ _ _ h => h) (Or.inl ⟨by rfl, ?hy⟩) (by assumption) ?_
              case hy => intro w hSw; (try dsimp only at hSw); go_simp; (try with_reducible rfl)
              try simp only [Act.put, List.setIfInBounds_toArray, List.set_cons_zero, List.set_cons_succ]
              refine wpAnyH_ready (rs := [7]) (by kernel_rfl) (by simp) ?_
              refine AllReadyH.cons rfl (fun K' hK => ?_) ?_
              · go_simp
                refine hK.out _ _ (HS.out _ ((show Below W.heap.size W w3 by simpa using HB3.out).alloc (by have := HB3.out.size; simpa using this) _)) (fun hHeld => ?_)
                clear hK
                try simp only [Act.put, List.setIfInBounds_toArray, List.set_cons_zero, List.set_cons_succ]
                refine wpAnyH_ready (rs := [8]) (by kernel_rfl) (by simp) ?_
                refine AllReadyH.cons rfl (fun K' hK => ?_) ?_
                · refine step_chunk rfl (.tmp 16) (.tmp 23) rfl w.heap.size 0 c1 A1 hs f (.slice B3 m c3) (by rfl) (by have := (HL2.out.kept (show Below W.heap.size W w3 by simpa using HB3.out)).own; exact this.alloc _) w3.heap.size (by rfl) (Blk.born w3 33 _) rfl (by omega) (by have h1 := HB3.out.size; simp at h1 ⊢; omega) ?_
                  intro A5 c5 w5 ho hg
                  have hW3 : Below W.heap.size W w3 := by simpa using HB3.out
                  have hlow : W.heap.size ≤ w3.heap.size := hW3.size
                  have ho5 := HL2.out.push (f := f) (v := .slice B3 m c3) (b := b) ((hW3.alloc hlow _)) (by rw [HM.out]; exact (own_lower HV3.out (by simpa using hb1)).alloc _) (fun g hg => by have := (HV3.out.lt g hg).1; simpa using this) ho hg
                  have HO5 := hide ho5
                  have HB5 : Hid (Below w.heap.size w w5) := hide ((below_nextB HW2.out HW2.out.size (hW3.alloc hlow _)).grown hg (by simp; omega) (own_row_ge HL2.out.own))
                  have hbx := (HX2.out.kept hW3).alloc (.cells #[.int .i64 f, .slice B3 m c3] 33)
                  have hnx : some wb ≠ (Value.slice A1 0 c1).ownBlock := fun e => by have := (HAL.out wb e.symm).2; omega
                  have y0 := (hg.cell_far ⟨wb, 0, none⟩ hbx.lt hnx).trans (hbx.cell 0)
                  have y1 := (hg.cell_far ⟨wb, 1, none⟩ hbx.lt hnx).trans (hbx.cell 1)
                  clear ho hg ho5
                  refine hK.out _ _ (⟨y0, y1⟩) (fun hHeld => ?_)
                  clear hK
                  try simp only [Act.put, List.setIfInBounds_toArray, List.set_cons_zero, List.set_cons_succ]
                  refine wpAnyH_take (i := 9) (v := ?_) rfl (by kernel_rfl) (by kernel_rfl) (by kernel_rfl) (fun _ _ _ h => h) (Or.inl ⟨by rfl, ?hy⟩) (by assumption) ?_
                  case hy => intro w hSw; (try dsimp only at hSw); go_simp; (try with_reducible rfl)
                  try simp only [Act.put, List.setIfInBounds_toArray, List.set_cons_zero, List.set_cons_succ]
                  refine wpAnyH_done (by kernel_rfl) ?_ _
                  try refine NoPanic.normal ?_
                  go_wp2_with fail
                  go_roundw
                  case rel => exact ⟨i + 1, _, _, _, _, rfl, by go_num, by omega, hide (by rw [HJ.out, h1 b HBN.out]; exact HO5.out), HB5⟩
                  case measure => simp [intOf]; omega
                · exact AllReadyH.nil
              · exact AllReadyH.nil
            · exact AllReadyH.nil
          · rw [List.concat_eq_append] at e
            subst e
            have hne : (f1 == f) = false := by
              have := h2 (f1, cc) (by rw [List.getLast?_append]; rfl)
              simpa using this
            obtain ⟨g0, q0, hs0, B0, p0, cb0, rfl, hn1, hlc0⟩ := HO1.out.toLast
            obtain ⟨e0, _⟩ := hlc0.facts
            have q1 : (q0 : Int) < (n1 : Int) := by omega
            have q3 : (0 : Int) ≤ (q0 : Int) := by omega
            have hsub : IntKind.i64.wrap ((n1 : Int) - 1) = (q0 : Int) := by rw [IntKind.wrap_i64]; omega
            clear hlc0 h2 hn1
            go_wp2_with fail
            go_quiet (fail)
            go_wp2_with fail
            have HW2 := hide (below_drewN HW1.out nq)
            have HX2 := hide (HX1.out.kept (below_drewN (Below.refl _ _) nq))
            have HL2 := hide (HO1.out.kept (below_drewN (Below.refl _ _) nq))
            obtain ⟨W, hW⟩ : ∃ W, W1.drewN nq = W := ⟨_, rfl⟩
            rw [hW] at HW2 HX2 HL2
            rw [hW]
            clear hW hW1 HW1 HX1 HO1 HO HW d0 d1 s0 s1
            have HS : Hid (∀ w', Below W.heap.size W w' → w'.cell? ⟨wb, 0, none⟩ = some (.int .i64 f) ∧ w'.cell? ⟨wb, 1, none⟩ = some (.slice D m cd)) := hide (fun w' hb => ⟨(HX2.out.kept hb).cell 0, (HX2.out.kept hb).cell 1⟩)
            have d0 : W.cell? ⟨wb, 0, none⟩ = some (.int .i64 f) := HX2.out.cell 0
            have d1 : W.cell? ⟨wb, 1, none⟩ = some (.slice D m cd) := HX2.out.cell 1
            obtain ⟨hb1, hb2⟩ := And.intro HW2.out.size HM.out
            refine wp_region_held_drew (S := fun w' => w'.cell? ⟨wb, 0, none⟩ = some (.int .i64 f) ∧ w'.cell? ⟨wb, 1, none⟩ = some (.slice D m cd)) (by kernel_rfl) (⟨d0, d1⟩) (fun hHeld => ?_)
            refine wpAnyH_take (i := 0) (v := ?_) rfl (by kernel_rfl) (by kernel_rfl) (by kernel_rfl) (fun _ _ _ h => h) (Or.inl ⟨by rfl, ?hy⟩) (by assumption) ?_
            case hy => intro w hSw; (try dsimp only at hSw); go_simp; (try with_reducible rfl)
            try simp only [Act.put, List.setIfInBounds_toArray, List.set_cons_zero, List.set_cons_succ]
            refine wpAnyH_take (i := 1) (v := ?_) rfl (by kernel_rfl) (by kernel_rfl) (by kernel_rfl) (fun _ _ _ h => h) (Or.inl ⟨by rfl, ?hy⟩) (by assumption) ?_
            case hy => intro w hSw; (try dsimp only at hSw); go_simp; (try with_reducible rfl)
            try simp only [Act.put, List.setIfInBounds_toArray, List.set_cons_zero, List.set_cons_succ]
            refine wpAnyH_take (i := 2) (v := ?_) rfl (by kernel_rfl) (by kernel_rfl) (by kernel_rfl) (fun _ _ _ h => h) (Or.inl ⟨by rfl, ?hy⟩) (by assumption) ?_
            case hy => intro w hSw; (try dsimp only at hSw); go_simp; (try with_reducible rfl)
            try simp only [Act.put, List.setIfInBounds_toArray, List.set_cons_zero, List.set_cons_succ]
            refine wpAnyH_take (i := 3) (v := ?_) rfl (by kernel_rfl) (by kernel_rfl) (by kernel_rfl) (fun _ _ _ h => h) (Or.inl ⟨by rfl, ?hy⟩) (by assumption) ?_
            case hy => intro w hSw; (try dsimp only at hSw); go_simp; (try with_reducible rfl)
            try simp only [Act.put, List.setIfInBounds_toArray, List.set_cons_zero, List.set_cons_succ]
            refine wpAnyH_take (i := 4) (v := ?_) rfl (by kernel_rfl) (by kernel_rfl) (by kernel_rfl) (fun _ _ _ h => h) (Or.inl ⟨by rfl, ?hy⟩) (by assumption) ?_
            case hy => intro w hSw; (try dsimp only at hSw); go_simp; (try with_reducible rfl)
            try simp only [Act.put, List.setIfInBounds_toArray, List.set_cons_zero, List.set_cons_succ]
            refine wpAnyH_ready (rs := [5]) (by kernel_rfl) (by simp) ?_
            refine AllReadyH.cons rfl (fun K' hK => ?_) ?_
            · go_simp
              go_at_call 19
              refine (clone_any D m cd b _ HM.out (by omega) (by omega) (HSB.out W HW2.out).drew).mono ?_
              rintro e w3 ⟨B3, c3, rfl, ho3, hb3⟩
              have HV3 := hide ho3
              have HB3 := hide (below_undrew hb3)
              obtain ⟨x0, x1⟩ := HS.out w3 (by simpa using HB3.out)
              clear ho3 hb3
              refine hK.out _ _ (⟨x0, x1⟩) (fun hHeld => ?_)
              clear hK
              try simp only [Act.put, List.setIfInBounds_toArray, List.set_cons_zero, List.set_cons_succ]
              refine wpAnyH_take (i := 6) (v := ?_) rfl (by kernel_rfl) (by kernel_rfl) (by kernel_rfl) (fun _ _ _ h => h) (Or.inl ⟨by rfl, ?hy⟩) (by assumption) ?_
              case hy => intro w hSw; (try dsimp only at hSw); go_simp; (try with_reducible rfl)
              try simp only [Act.put, List.setIfInBounds_toArray, List.set_cons_zero, List.set_cons_succ]
              refine wpAnyH_ready (rs := [7]) (by kernel_rfl) (by simp) ?_
              refine AllReadyH.cons rfl (fun K' hK => ?_) ?_
              · go_simp
                refine hK.out _ _ (HS.out _ ((show Below W.heap.size W w3 by simpa using HB3.out).alloc (by have := HB3.out.size; simpa using this) _)) (fun hHeld => ?_)
                clear hK
                try simp only [Act.put, List.setIfInBounds_toArray, List.set_cons_zero, List.set_cons_succ]
                refine wpAnyH_ready (rs := [8]) (by kernel_rfl) (by simp) ?_
                refine AllReadyH.cons rfl (fun K' hK => ?_) ?_
                · refine step_chunk rfl (.tmp 16) (.tmp 23) rfl w.heap.size n1 c1 (some ⟨g0, 0, none⟩) hs f (.slice B3 m c3) (by rfl) (by have := (HL2.out.kept (show Below W.heap.size W w3 by simpa using HB3.out)).own; exact this.alloc _) w3.heap.size (by rfl) (Blk.born w3 33 _) rfl (by omega) (by have h1 := HB3.out.size; simp at h1 ⊢; omega) ?_
                  intro A5 c5 w5 ho hg
                  have hW3 : Below W.heap.size W w3 := by simpa using HB3.out
                  have hlow : W.heap.size ≤ w3.heap.size := hW3.size
                  have ho5 := HL2.out.push (f := f) (v := .slice B3 m c3) (b := b) ((hW3.alloc hlow _)) (by rw [HM.out]; exact (own_lower HV3.out (by simpa using hb1)).alloc _) (fun g hg => by have := (HV3.out.lt g hg).1; simpa using this) ho hg
                  have HO5 := hide ho5
                  have HB5 : Hid (Below w.heap.size w w5) := hide ((below_nextB HW2.out HW2.out.size (hW3.alloc hlow _)).grown hg (by simp; omega) (own_row_ge HL2.out.own))
                  have hbx := (HX2.out.kept hW3).alloc (.cells #[.int .i64 f, .slice B3 m c3] 33)
                  have hnx : some wb ≠ (Value.slice (some ⟨g0, 0, none⟩) n1 c1).ownBlock := fun e => by have := (HAL.out wb e.symm).2; omega
                  have y0 := (hg.cell_far ⟨wb, 0, none⟩ hbx.lt hnx).trans (hbx.cell 0)
                  have y1 := (hg.cell_far ⟨wb, 1, none⟩ hbx.lt hnx).trans (hbx.cell 1)
                  clear ho hg ho5
                  refine hK.out _ _ (⟨y0, y1⟩) (fun hHeld => ?_)
                  clear hK
                  try simp only [Act.put, List.setIfInBounds_toArray, List.set_cons_zero, List.set_cons_succ]
                  refine wpAnyH_take (i := 9) (v := ?_) rfl (by kernel_rfl) (by kernel_rfl) (by kernel_rfl) (fun _ _ _ h => h) (Or.inl ⟨by rfl, ?hy⟩) (by assumption) ?_
                  case hy => intro w hSw; (try dsimp only at hSw); go_simp; (try with_reducible rfl)
                  try simp only [Act.put, List.setIfInBounds_toArray, List.set_cons_zero, List.set_cons_succ]
                  refine wpAnyH_done (by kernel_rfl) ?_ _
                  try refine NoPanic.normal ?_
                  go_wp2_with fail
                  go_roundw
                  case rel => exact ⟨i + 1, _, _, _, _, rfl, by go_num, by omega, hide (by rw [HJ.out, h1 b HBN.out]; exact HO5.out), HB5⟩
                  case measure => simp [intOf]; omega
                · exact AllReadyH.nil
              · exact AllReadyH.nil
            · exact AllReadyH.nil
    · have HE : Hid (l.take i = l) := hide (List.take_of_length_le (by have := HLN.out; omega))
      go_wp2_with fail
      go_ret
      refine ⟨_, _, _, hs, rfl, ?_, HW.out⟩
      have := HO.out
      rwa [HE.out] at this
    end Go.Proofs.Ytciddilphflhaaa
