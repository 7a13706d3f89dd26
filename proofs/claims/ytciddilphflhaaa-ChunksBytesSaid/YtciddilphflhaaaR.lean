/- Cut. -/
import Derived.Test.YtciddilphflhaaaT
namespace Go.Proofs.Ytciddilphflhaaa
open Go.RowKit
set_option linter.unusedSimpArgs false

/-- 'step_chunk', and where the new slice lies. -/
theorem step_chunk2 {W : World} {ops : Array Oper} {o : Oper} {a : Act} {J : Act → World → Prop} {Q : Exit → Act → World → Prop} {E : Prop} (hgd : o.guard = none) (s x : Operand) (ho : o.op = .call { callee := .builtin .append, args := #[s, x], argTypes := #[22, 22] })
    (base n c : Nat) (A : Option Addr) (hs : HL) (f : Int) (v : Value) (es : a.eval s = .slice A n c) (hown : W.ownsRow base 33 2 (.slice A n c) n (cellsC hs)) (g : Nat) (ex : a.eval x = .slice (some ⟨g, 0, none⟩) 1 1) (hblk : Blk W g 33 #[.int .i64 f, v]) (h1 : v.oneCell' = true) (hn : n ≤ 100000) (hbase : base ≤ W.heap.size)
    (h : ∀ A' c' w', w'.ownsRow base 33 2 (.slice A' (n + 1) c') (n + 1) (cellsC hs ++ [.int .i64 f, v]) → W.grownBy w' (Value.slice A n c).ownBlock → (∀ j, (Value.slice A' (n + 1) c').ownBlock = some j → (Value.slice A n c).ownBlock = some j ∨ j = W.heap.size) → J (a.put o.dst (.slice A' (n + 1) c')) w') :
    if Region.wanted o (yielded ops a.tmps) = true then Oper.wp Try.prog o a W J Q else E := by
  obtain ⟨i0, hi0, hz0, hz1, hz2⟩ := info_parts (P := Try.prog) info33
  refine step_append_lies W hgd s x 22 ho base 33 i0 _ 2 32 Try.underlying22 hi0 hz0 hz1 hz2 rfl (by decide) _ n _ es hown ⟨g, 0, none⟩ 1 1 [.int .i64 f, v] ex rfl (World.news_of_block hblk) (oneC f h1) (by decide) (by unfold maxLen; omega) (by omega) hbase _ rfl ?_
  intro g' c' w' ho' hg' hat _
  exact h _ _ _ ho' hg' (fun j hj => by
    have e : g' = j := Option.some.inj hj
    subst e
    exact hat)
set_option maxRecDepth 100000 in
theorem cut_none (A Z : Option Addr) (n c cz : Nat) (l : CL) (w : World) (hl : l.length = n) (hn : n ≤ 5000) (ht : tot l ≤ 5000) (hs : Chunks w A l) :
    Calls Try.prog 11 #[.slice A n c, .slice Z 0 cz] w (JPost (joinC l) w) := by
  go_enter Try.func11, Try.ntmps11
  go_wp2_with fail
  refine (join_any A n c l w hl hn ht hs).mono ?_
  rintro e w1 ⟨A1, n1, c1, hs1, rfl, ho, hb⟩
  go_wp2_with fail
  go_ret
  exact ⟨_, _, _, hs1, rfl, ho, hb⟩

def lenOfV : Value → Nat | .slice _ n _ => n | _ => 0
/-- A cut from the front, folded. -/
def sub (A : Option Addr) (C k : Nat) : Option Addr := if C = k then A else A.map (·.add k)

set_option maxRecDepth 100000 in
set_option maxHeartbeats 8000000 in
theorem cut_some (A Z : Option Addr) (n c nz cz : Nat) (l : CL) (zs : List Int) (w : World) (hl : l.length = n) (hn : n ≤ 5000) (ht : tot l ≤ 5000) (hs : Chunks w A l) (hlz : zs.length = nz) (hnz : 0 < nz) (hnz2 : nz ≤ 5000) (hz : Sees w Z (zs.map (Value.int .i64))) (hzw : ∀ z ∈ zs, -9223372036854775808 ≤ z ∧ z ≤ 9223372036854775807) :
    Calls Try.prog 11 #[.slice A n c, .slice Z nz cz] w (JPost (cutC zs l) w) := by
  have HLN := hide hl
  have HT := hide ht
  have HC := hide hs
  have HLZ := hide hlz
  have HZ : Hid (∀ w', Below w.heap.size w w' → Sees w' Z (zs.map (Value.int .i64))) := hide (fun w' hb => by
    intro j u hu
    obtain ⟨b', o', e, hc⟩ := hz j u hu
    exact ⟨b', o', e, (hb.cell (p := ⟨b', o' + j, none⟩) (World.block_lt_of_cell? _ _ hc)).trans hc⟩)
  have HZW := hide hzw
  have z0 : ((nz : Int) == 0) = false := by simp; omega
  clear hl hs ht hlz hz hzw
  go_enter Try.func11, Try.ntmps11
  go_wp2_with fail
  go_loopw [5, 6, 18] (fun ov av iv wr => ∃ (i a n1 c1 : Nat) (A1 : Option Addr) (hs : HL), ov = .slice A1 n1 c1 ∧ av = .int .i64 (a : Nat) ∧ iv = .int .i64 (i : Nat) ∧ i ≤ n ∧ a < nz ∧ Hid ((cutS zs (l.take i)).at_ % nz = a) ∧ Hid (OwnC w.heap.size wr A1 n1 c1 hs (cutS zs (l.take i)).out) ∧ Hid (Below w.heap.size w wr)) (fun _ _ iv _ => n - (intOf iv).toNat)
  case atStart => exact ⟨0, 0, 0, 0, none, [], rfl, rfl, rfl, Nat.zero_le _, hnz, hide (Nat.zero_mod _), hide (OwnC.nil _ _), hide (Below.refl _ _)⟩
  case round =>
    obtain ⟨i, a, n1, c1, A1, hs, rfl, rfl, rfl, hi, ha, HAt, HO, HW⟩ := hrel
    by_cases hlt : i < n
    · have hil : i < l.length := by have := HLN.out; omega
      obtain ⟨f, b, hd⟩ : ∃ f b, l[i] = (f, b) := ⟨_, _, rfl⟩
      have hg : l[i]? = some (f, b) := by rw [List.getElem?_eq_getElem hil, hd]
      obtain ⟨ga, oa, D, cd, rfl, a0, a1, hDn, hcd, hsb⟩ := HC.out i f b hg
      obtain ⟨m, hm⟩ : ∃ m, b.length = m := ⟨_, rfl⟩
      have HM := hide hm
      have hm5 : m ≤ 5000 := by have h1 := tot_at hg; have := HT.out; simp at h1; omega
      rw [hm] at a1 hcd hDn
      have HSB : Hid (∀ w', Below w.heap.size w w' → Sees w' D (b.map (Value.int .u8))) := hide (fun w' hb => by
        intro j u hu
        obtain ⟨b', o', e, hc⟩ := hsb j u hu
        exact ⟨b', o', e, (hb.cell (p := ⟨b', o' + j, none⟩) (World.block_lt_of_cell? _ _ hc)).trans hc⟩)
      obtain ⟨s0, hs0⟩ : ∃ s0, cutS zs (l.take i) = s0 := ⟨_, rfl⟩
      have HJ : Hid (cutS zs (l.take (i + 1)) = ⟨(s0.run zs f b).out, (s0.run zs f b).at_, 0⟩) := hide (by rw [cutS_take hg, hs0]; rfl)
      have HR0 : Hid (s0.room = 0) := hide (by rw [← hs0]; exact cutS_room _ _)
      have HTJ : Hid (tot s0.out + m ≤ 5000 ∧ s0.out.length + m ≤ 5000 ∧ s0.at_ + m ≤ 5000) := hide (by
        have h1 := cut_all zs (l.take i)
        unfold cutC at h1
        rw [hs0] at h1
        have h2 := tot_take hg
        have h3 := tot_le l (i + 1)
        have h5 := HT.out
        simp at h2
        omega)
      have s1 := (HW.out.cell (World.block_lt_of_cell? _ _ a0)).trans a0
      have s2 := (HW.out.cell (World.block_lt_of_cell? _ _ a1)).trans a1
      have i1 : (i : Int) < (n : Int) := by omega
      have i3 : (0 : Int) ≤ (i : Int) := by omega
      rw [hs0] at HAt HO
      have HO1 := hide (HO.out.kept ((Below.refl _ wr).alloc (Nat.le_refl _) (.cells #[.int .i64 f, .slice D m cd] 33)))
      have HW1 := hide (HW.out.alloc HW.out.size (.cells #[.int .i64 f, .slice D m cd] 33))
      have HX1 := hide (Blk.born wr 33 #[.int .i64 f, .slice D m cd])
      obtain ⟨wb, hwb⟩ : ∃ wb, wr.heap.size = wb := ⟨_, rfl⟩
      rw [hwb] at HX1
      have hwbge : w.heap.size ≤ wb := by have := HW.out.size; omega
      have HAL : Hid (∀ j, (Value.slice A1 n1 c1).ownBlock = some j → w.heap.size ≤ j ∧ j < wb) := hide (fun j hj => by have := HO.out.own.lt j hj; omega)
      obtain ⟨W1, hW1⟩ : ∃ W1, wr.alloc (.cells #[.int .i64 f, .slice D m cd] 33) = W1 := ⟨_, rfl⟩
      rw [hW1] at HO1 HW1 HX1
      have d0 : W1.cell? ⟨wb, 0, none⟩ = some (.int .i64 f) := HX1.out.cell 0
      have d1 : W1.cell? ⟨wb, 1, none⟩ = some (.slice D m cd) := HX1.out.cell 1
      clear hd hg hsb hm hil a0 a1 hs0
      go_wp2_with fail
      (try rw [hW1])
      clear d0 d1 hW1 HW HO s1 s2
      go_loopw [5, 6, 9] (fun ov av bv wr => ∃ (t a n1 c1 r e : Nat) (A1 E : Option Addr) (hs : HL), ov = .slice A1 n1 c1 ∧ av = .int .i64 (a : Nat) ∧ bv = .slice E r e ∧ t + r = m ∧ r ≤ e ∧ a < nz ∧ Hid ((s0.run zs f (b.take t)).at_ % nz = a ∧ (0 < r → (s0.run zs f (b.take t)).room = 0)) ∧ Hid (∀ w', Below w.heap.size w w' → Sees w' E ((b.drop t).map (Value.int .u8))) ∧ Hid (OwnC w.heap.size wr A1 n1 c1 hs (s0.run zs f (b.take t)).out ∧ Blk wr wb 33 #[.int .i64 f, .slice D m cd] ∧ ∀ j, (Value.slice A1 n1 c1).ownBlock = some j → j ≠ wb) ∧ Hid (Below w.heap.size w wr)) (fun _ _ bv _ => lenOfV bv)
      case atStart => exact ⟨0, a, n1, c1, m, cd, A1, D, hs, rfl, rfl, rfl, Nat.zero_add _, hcd, ha, hide ⟨HAt.out, fun _ => HR0.out⟩, HSB, hide ⟨HO1.out, HX1.out, fun j hj e => by have := (HAL.out j hj).2; omega⟩, HW1⟩
      case round =>
        clear HO1 HW1 HAt HX1 HAL
        obtain ⟨t, a, n1, c1, r, e, A1, E, hs, rfl, rfl, rfl, htr, hre, ha, HAt, HE, HO, HW⟩ := hrel
        by_cases hr0 : r = 0
        · subst hr0
          obtain rfl : t = m := by omega
          have HE2 : Hid (b.take t = b) := hide (List.take_of_length_le (by have := HM.out; omega))
          rw [HE2.out] at HO HAt
          go_wp2_with fail
          go_roundw
          case rel => exact ⟨i + 1, a, n1, c1, A1, hs, rfl, rfl, by go_num, by omega, ha, hide (by rw [HJ.out]; exact HAt.out.1), hide (by rw [HJ.out]; exact HO.out.1), HW⟩
          case measure => simp [intOf]; omega
        · have hr1 : (0 : Int) < (r : Int) := by omega
          obtain ⟨R, hR⟩ : ∃ R, s0.run zs f (b.take t) = R := ⟨_, rfl⟩
          have HRB : Hid (R.out.length ≤ 5000 ∧ tot R.out ≤ 5000) := hide (by
            rw [← hR]
            have h1 := run_all (zs := zs) (fine_zero (f := f) HR0.out) (b.take t)
            have h3 := HTJ.out
            simp at h1
            omega)
          rw [hR] at HAt HO
          have HRR := hide hR
          obtain ⟨z, hz⟩ : ∃ z, zs[a]? = some z := ⟨_, List.getElem?_eq_getElem (by rw [HLZ.out]; exact ha)⟩
          obtain ⟨gz, oz, rfl, hcz⟩ := HZ.out wr HW.out a (.int .i64 z) (by rw [List.getElem?_map, hz]; rfl)
          obtain ⟨hzw1, hzw2⟩ := HZW.out z (List.mem_of_getElem? hz)
          have HSA : Hid (szAt zs R.at_ = (max z 1).toNat) := hide (szAt_get (by rw [HLZ.out, HAt.out.1]; exact hz))
          have j1 : (a : Int) < (nz : Int) := by omega
          have j3 : (0 : Int) ≤ (a : Int) := by omega
          have jw : IntKind.i64.wrap ((a : Int) + 1) = (a : Int) + 1 := by rw [IntKind.wrap_i64]; omega
          obtain ⟨a2, ha2⟩ : ∃ a2, (a + 1) % nz = a2 := ⟨_, rfl⟩
          have ha2n : a2 < nz := by rw [← ha2]; exact Nat.mod_lt _ hnz
          have hmod : ((a : Int) + 1).tmod (nz : Int) = (a2 : Int) := by rw [← ha2]; rfl
          have jw2 : IntKind.i64.wrap (a2 : Int) = (a2 : Int) := by rw [IntKind.wrap_i64]; omega
          have HA2 := hide ha2
          have hn15 : n1 ≤ 5000 := by have := HO.out.1.num; have := HRB.out; omega
          have d0 : wr.cell? ⟨wb, 0, none⟩ = some (.int .i64 f) := HO.out.2.1.cell 0
          clear hR hz ha2
          by_cases hz1 : z < 1
          · have hr1b : (1 : Int) ≤ (r : Int) := by omega
            have hN1 : 1 ≤ 1 := by omega
            have hN2 : 1 ≤ r := by omega
            have HNZ : Hid (1 ≤ szAt zs R.at_ ∧ (1 < r → szAt zs R.at_ = 1)) := hide (by rw [HSA.out]; omega)
            obtain ⟨pc, hpc⟩ : ∃ pc, (b.drop t).take 1 = pc := ⟨_, rfl⟩
            have hpl : pc.length = 1 := by rw [← hpc, List.length_take, List.length_drop, HM.out]; omega
            have HPN : Hid (pc ≠ []) := hide (by intro h; rw [h] at hpl; simp at hpl <;> omega)
            have HPL := hide hpl
            have HX : Hid (s0.run zs f (b.take (t + 1)) = ⟨R.out ++ [(f, pc)], R.at_ + 1, szAt zs R.at_ - 1⟩) := hide (by
              rw [List.take_add, run_append, HRR.out, hpc, run_piece (HAt.out.2 (by omega)) pc HPN.out (by rw [hpl]; exact HNZ.out.1), hpl])
            have HPS : Hid (∀ w', Below w.heap.size w w' → Sees w' E (pc.map (Value.int .u8))) := hide (fun w' hb => by rw [← hpc, List.map_take]; exact (HE.out w' hb).take _)
            have HED : Hid (∀ w', Below w.heap.size w w' → Sees w' (if e = 1 then E else E.map (·.add 1)) ((b.drop (t + 1)).map (Value.int .u8))) := hide (fun w' hb => by
              have h1 := (HE.out w' hb).drop (k := 1) (n := r) (c := e) (by rw [List.length_map, List.length_drop, HM.out]; omega) hre
              rw [← List.map_drop, List.drop_drop] at h1
              exact h1)
            clear hpc hpl
            have g1 : (1 : Int) ≤ (r : Int) := by omega
            have g2 : (1 : Int) ≤ (e : Int) := by omega
            have g3 : (0 : Int) ≤ (1 : Int) := by omega
            have g4 : (r : Int) ≤ (e : Int) := by omega
            go_wp2_with fail
            refine wp_region_held_drew (S := fun w' => w'.cell? ⟨wb, 0, none⟩ = some (.int .i64 f)) (by kernel_rfl) (d0) (fun hHeld => ?_)
            refine wpAnyH_take (i := 0) (v := ?_) rfl (by kernel_rfl) (by kernel_rfl) (by kernel_rfl) (fun _ _ _ h => h) (Or.inl ⟨by rfl, ?hy⟩) (by assumption) ?_
            case hy => intro w hSw; (try dsimp only at hSw); go_simp; (try with_reducible rfl)
            try simp only [Act.put, List.setIfInBounds_toArray, List.set_cons_zero, List.set_cons_succ]
            refine wpAnyH_take (i := 1) (v := ?_) rfl (by kernel_rfl) (by kernel_rfl) (by kernel_rfl) (fun _ _ _ h => h) (Or.inl ⟨by rfl, ?hy⟩) (by assumption) ?_
            case hy => intro w hSw; (try dsimp only at hSw); go_simp; (try with_reducible rfl)
            try simp only [Act.put, List.setIfInBounds_toArray, List.set_cons_zero, List.set_cons_succ]
            refine wpAnyH_take (i := 2) (v := ?_) rfl (by kernel_rfl) (by kernel_rfl) (by kernel_rfl) (fun _ _ _ h => h) (Or.inl ⟨by rfl, ?hy⟩) (by assumption) ?_
            case hy => intro w hSw; (try dsimp only at hSw); go_simp; (try with_reducible rfl)
            try simp only [Act.put, List.setIfInBounds_toArray, List.set_cons_zero, List.set_cons_succ]
            refine wpAnyH_take (i := 3) (v := ?_) rfl (by kernel_rfl) (by kernel_rfl) (by kernel_rfl) (fun _ _ _ h => h) (Or.inl ⟨by rfl, ?hy⟩) (by assumption) ?_
            case hy => intro w hSw; (try dsimp only at hSw); go_simp; (try with_reducible rfl)
            try simp only [Act.put, List.setIfInBounds_toArray, List.set_cons_zero, List.set_cons_succ]
            refine wpAnyH_take (i := 4) (v := ?_) rfl (by kernel_rfl) (by kernel_rfl) (by kernel_rfl) (fun _ _ _ h => h) (Or.inl ⟨by rfl, ?hy⟩) (by assumption) ?_
            case hy => intro w hSw; (try dsimp only at hSw); go_simp; (try with_reducible rfl)
            try simp only [Act.put, List.setIfInBounds_toArray, List.set_cons_zero, List.set_cons_succ]
            refine wpAnyH_take (i := 5) (v := ?_) rfl (by kernel_rfl) (by kernel_rfl) (by kernel_rfl) (fun _ _ _ h => h) (Or.inl ⟨by rfl, ?hy⟩) (by assumption) ?_
            case hy => intro w hSw; (try dsimp only at hSw); go_simp; (try with_reducible rfl)
            try simp only [Act.put, List.setIfInBounds_toArray, List.set_cons_zero, List.set_cons_succ]
            refine wpAnyH_ready (rs := [6]) (by kernel_rfl) (by simp) ?_
            refine AllReadyH.cons rfl (fun K' hK => ?_) ?_
            · go_simp
              go_at_call 19
              refine (clone_any E 1 e pc _ HPL.out (by omega) (by omega) (HPS.out wr HW.out).drew).mono ?_
              rintro ee w3 ⟨B3, c3, rfl, ho3, hb3⟩
              have HV3 := hide ho3
              have hb3' : Below wr.heap.size wr w3 := by simpa using below_undrew hb3
              have HB3 := hide hb3'
              have x0 := (HO.out.2.1.kept hb3').cell 0
              clear ho3 hb3 hb3' 
              refine hK.out _ _ (x0) (fun hHeld => ?_)
              clear hK
              try simp only [Act.put, List.setIfInBounds_toArray, List.set_cons_zero, List.set_cons_succ]
              refine wpAnyH_take (i := 7) (v := ?_) rfl (by kernel_rfl) (by kernel_rfl) (by kernel_rfl) (fun _ _ _ h => h) (Or.inl ⟨by rfl, ?hy⟩) (by assumption) ?_
              case hy => intro w hSw; (try dsimp only at hSw); go_simp; (try with_reducible rfl)
              try simp only [Act.put, List.setIfInBounds_toArray, List.set_cons_zero, List.set_cons_succ]
              refine wpAnyH_ready (rs := [8]) (by kernel_rfl) (by simp) ?_
              refine AllReadyH.cons rfl (fun K' hK => ?_) ?_
              · go_simp
                refine hK.out _ _ (((HO.out.2.1.kept HB3.out).alloc _).cell 0) (fun hHeld => ?_)
                clear hK
                try simp only [Act.put, List.setIfInBounds_toArray, List.set_cons_zero, List.set_cons_succ]
                refine wpAnyH_ready (rs := [9]) (by kernel_rfl) (by simp) ?_
                refine AllReadyH.cons rfl (fun K' hK => ?_) ?_
                · refine step_chunk2 rfl (.tmp 35) (.tmp 43) rfl w.heap.size n1 c1 A1 hs f (.slice B3 1 c3) (by rfl) ((HO.out.1.kept HB3.out).own.alloc _) w3.heap.size (by rfl) (Blk.born w3 33 _) rfl (by omega) (by have h1 := HB3.out.size; have h2 := HW.out.size; simp; omega) ?_
                  intro A5 c5 w5 ho hg hat
                  have hlow : wr.heap.size ≤ w3.heap.size := HB3.out.size
                  have hb1 := HW.out.size
                  have ho5 := HO.out.1.push (f := f) (v := .slice B3 1 c3) (b := pc) ((HB3.out.alloc hlow _)) (by rw [HPL.out]; exact (own_lower HV3.out (by simpa using hb1)).alloc _) (fun g hg => by have := (HV3.out.lt g hg).1; simpa using this) ho hg
                  have HO5 := hide ho5
                  have HB5 : Hid (Below w.heap.size w w5) := hide ((below_nextB HW.out HW.out.size (HB3.out.alloc hlow _)).grown hg (by simp; omega) (own_row_ge HO.out.1.own))
                  have hbx := (HO.out.2.1.kept HB3.out).alloc (.cells #[.int .i64 f, .slice B3 1 c3] 33)
                  have hnx : some wb ≠ (Value.slice A1 n1 c1).ownBlock := fun e => HO.out.2.2 wb e.symm rfl
                  have HX5 := hide (hbx.grown hg hnx)
                  have HNW : Hid (∀ j, (Value.slice A5 (n1 + 1) c5).ownBlock = some j → j ≠ wb) := hide (fun j hj e => by
                    subst e
                    rcases hat j hj with h2 | h2
                    · exact hnx h2.symm
                    · have h3 := hbx.lt
                      have h4 := (HO.out.2.1.kept HB3.out).lt
                      omega)
                  have y0 := HX5.out.cell 0
                  clear ho hg hat ho5 hbx hnx
                  refine hK.out _ _ (y0) (fun hHeld => ?_)
                  clear hK
                  try simp only [Act.put, List.setIfInBounds_toArray, List.set_cons_zero, List.set_cons_succ]
                  refine wpAnyH_take (i := 10) (v := ?_) rfl (by kernel_rfl) (by kernel_rfl) (by kernel_rfl) (fun _ _ _ h => h) (Or.inl ⟨by rfl, ?hy⟩) (by assumption) ?_
                  case hy => intro w hSw; (try dsimp only at hSw); go_simp; (try with_reducible rfl)
                  try simp only [Act.put, List.setIfInBounds_toArray, List.set_cons_zero, List.set_cons_succ]
                  refine wpAnyH_done (by kernel_rfl) ?_ _
                  try refine NoPanic.normal ?_
                  go_wp2_with fail
                  go_roundw
                  case rel => exact ⟨t + 1, a2, n1 + 1, _, r - 1, e - 1, _, _, _, rfl, rfl, by first | rfl | (simp; done) | go_num, by omega, by omega, ha2n, hide (by rw [HX.out]; exact ⟨by rw [← HA2.out, ← HAt.out.1, Nat.mod_add_mod], fun h => by have := HNZ.out.2 (by omega); dsimp only; omega⟩), HED, hide (by rw [HX.out]; exact ⟨HO5.out, HX5.out, HNW.out⟩), HB5⟩
                  case measure => simp [lenOfV]; omega
                · exact AllReadyH.nil
              · exact AllReadyH.nil
            · exact AllReadyH.nil
          · obtain ⟨zn, hzn⟩ : ∃ zn : Nat, z = (zn : Int) := ⟨z.toNat, by omega⟩
            subst hzn
            have hz2 : ¬ ((zn : Int) < 1) := hz1
            by_cases hzr : zn ≤ r
            · have hzr1 : (zn : Int) ≤ (r : Int) := by omega
              have hN1 : 1 ≤ zn := by omega
              have hN2 : zn ≤ r := by omega
              have HNZ : Hid (zn ≤ szAt zs R.at_ ∧ (zn < r → szAt zs R.at_ = zn)) := hide (by rw [HSA.out]; omega)
              obtain ⟨pc, hpc⟩ : ∃ pc, (b.drop t).take zn = pc := ⟨_, rfl⟩
              have hpl : pc.length = zn := by rw [← hpc, List.length_take, List.length_drop, HM.out]; omega
              have HPN : Hid (pc ≠ []) := hide (by intro h; rw [h] at hpl; simp at hpl <;> omega)
              have HPL := hide hpl
              have HX : Hid (s0.run zs f (b.take (t + zn)) = ⟨R.out ++ [(f, pc)], R.at_ + 1, szAt zs R.at_ - zn⟩) := hide (by
                rw [List.take_add, run_append, HRR.out, hpc, run_piece (HAt.out.2 (by omega)) pc HPN.out (by rw [hpl]; exact HNZ.out.1), hpl])
              have HPS : Hid (∀ w', Below w.heap.size w w' → Sees w' E (pc.map (Value.int .u8))) := hide (fun w' hb => by rw [← hpc, List.map_take]; exact (HE.out w' hb).take _)
              have HED : Hid (∀ w', Below w.heap.size w w' → Sees w' (if e = zn then E else E.map (·.add zn)) ((b.drop (t + zn)).map (Value.int .u8))) := hide (fun w' hb => by
                have h1 := (HE.out w' hb).drop (k := zn) (n := r) (c := e) (by rw [List.length_map, List.length_drop, HM.out]; omega) hre
                rw [← List.map_drop, List.drop_drop] at h1
                exact h1)
              clear hpc hpl
              have g1 : (zn : Int) ≤ (r : Int) := by omega
              have g2 : (zn : Int) ≤ (e : Int) := by omega
              have g3 : (0 : Int) ≤ (zn : Int) := by omega
              have g4 : (r : Int) ≤ (e : Int) := by omega
              go_wp2_with fail
              refine wp_region_held_drew (S := fun w' => w'.cell? ⟨wb, 0, none⟩ = some (.int .i64 f)) (by kernel_rfl) (d0) (fun hHeld => ?_)
              refine wpAnyH_take (i := 0) (v := ?_) rfl (by kernel_rfl) (by kernel_rfl) (by kernel_rfl) (fun _ _ _ h => h) (Or.inl ⟨by rfl, ?hy⟩) (by assumption) ?_
              case hy => intro w hSw; (try dsimp only at hSw); go_simp; (try with_reducible rfl)
              try simp only [Act.put, List.setIfInBounds_toArray, List.set_cons_zero, List.set_cons_succ]
              refine wpAnyH_take (i := 1) (v := ?_) rfl (by kernel_rfl) (by kernel_rfl) (by kernel_rfl) (fun _ _ _ h => h) (Or.inl ⟨by rfl, ?hy⟩) (by assumption) ?_
              case hy => intro w hSw; (try dsimp only at hSw); go_simp; (try with_reducible rfl)
              try simp only [Act.put, List.setIfInBounds_toArray, List.set_cons_zero, List.set_cons_succ]
              refine wpAnyH_take (i := 2) (v := ?_) rfl (by kernel_rfl) (by kernel_rfl) (by kernel_rfl) (fun _ _ _ h => h) (Or.inl ⟨by rfl, ?hy⟩) (by assumption) ?_
              case hy => intro w hSw; (try dsimp only at hSw); go_simp; (try with_reducible rfl)
              try simp only [Act.put, List.setIfInBounds_toArray, List.set_cons_zero, List.set_cons_succ]
              refine wpAnyH_take (i := 3) (v := ?_) rfl (by kernel_rfl) (by kernel_rfl) (by kernel_rfl) (fun _ _ _ h => h) (Or.inl ⟨by rfl, ?hy⟩) (by assumption) ?_
              case hy => intro w hSw; (try dsimp only at hSw); go_simp; (try with_reducible rfl)
              try simp only [Act.put, List.setIfInBounds_toArray, List.set_cons_zero, List.set_cons_succ]
              refine wpAnyH_take (i := 4) (v := ?_) rfl (by kernel_rfl) (by kernel_rfl) (by kernel_rfl) (fun _ _ _ h => h) (Or.inl ⟨by rfl, ?hy⟩) (by assumption) ?_
              case hy => intro w hSw; (try dsimp only at hSw); go_simp; (try with_reducible rfl)
              try simp only [Act.put, List.setIfInBounds_toArray, List.set_cons_zero, List.set_cons_succ]
              refine wpAnyH_take (i := 5) (v := ?_) rfl (by kernel_rfl) (by kernel_rfl) (by kernel_rfl) (fun _ _ _ h => h) (Or.inl ⟨by rfl, ?hy⟩) (by assumption) ?_
              case hy => intro w hSw; (try dsimp only at hSw); go_simp; (try with_reducible rfl)
              try simp only [Act.put, List.setIfInBounds_toArray, List.set_cons_zero, List.set_cons_succ]
              refine wpAnyH_ready (rs := [6]) (by kernel_rfl) (by simp) ?_
              refine AllReadyH.cons rfl (fun K' hK => ?_) ?_
              · go_simp
                go_at_call 19
                refine (clone_any E zn e pc _ HPL.out (by omega) (by omega) (HPS.out wr HW.out).drew).mono ?_
                rintro ee w3 ⟨B3, c3, rfl, ho3, hb3⟩
                have HV3 := hide ho3
                have hb3' : Below wr.heap.size wr w3 := by simpa using below_undrew hb3
                have HB3 := hide hb3'
                have x0 := (HO.out.2.1.kept hb3').cell 0
                clear ho3 hb3 hb3' 
                refine hK.out _ _ (x0) (fun hHeld => ?_)
                clear hK
                try simp only [Act.put, List.setIfInBounds_toArray, List.set_cons_zero, List.set_cons_succ]
                refine wpAnyH_take (i := 7) (v := ?_) rfl (by kernel_rfl) (by kernel_rfl) (by kernel_rfl) (fun _ _ _ h => h) (Or.inl ⟨by rfl, ?hy⟩) (by assumption) ?_
                case hy => intro w hSw; (try dsimp only at hSw); go_simp; (try with_reducible rfl)
                try simp only [Act.put, List.setIfInBounds_toArray, List.set_cons_zero, List.set_cons_succ]
                refine wpAnyH_ready (rs := [8]) (by kernel_rfl) (by simp) ?_
                refine AllReadyH.cons rfl (fun K' hK => ?_) ?_
                · go_simp
                  refine hK.out _ _ (((HO.out.2.1.kept HB3.out).alloc _).cell 0) (fun hHeld => ?_)
                  clear hK
                  try simp only [Act.put, List.setIfInBounds_toArray, List.set_cons_zero, List.set_cons_succ]
                  refine wpAnyH_ready (rs := [9]) (by kernel_rfl) (by simp) ?_
                  refine AllReadyH.cons rfl (fun K' hK => ?_) ?_
                  · refine step_chunk2 rfl (.tmp 35) (.tmp 43) rfl w.heap.size n1 c1 A1 hs f (.slice B3 zn c3) (by rfl) ((HO.out.1.kept HB3.out).own.alloc _) w3.heap.size (by rfl) (Blk.born w3 33 _) rfl (by omega) (by have h1 := HB3.out.size; have h2 := HW.out.size; simp; omega) ?_
                    intro A5 c5 w5 ho hg hat
                    have hlow : wr.heap.size ≤ w3.heap.size := HB3.out.size
                    have hb1 := HW.out.size
                    have ho5 := HO.out.1.push (f := f) (v := .slice B3 zn c3) (b := pc) ((HB3.out.alloc hlow _)) (by rw [HPL.out]; exact (own_lower HV3.out (by simpa using hb1)).alloc _) (fun g hg => by have := (HV3.out.lt g hg).1; simpa using this) ho hg
                    have HO5 := hide ho5
                    have HB5 : Hid (Below w.heap.size w w5) := hide ((below_nextB HW.out HW.out.size (HB3.out.alloc hlow _)).grown hg (by simp; omega) (own_row_ge HO.out.1.own))
                    have hbx := (HO.out.2.1.kept HB3.out).alloc (.cells #[.int .i64 f, .slice B3 zn c3] 33)
                    have hnx : some wb ≠ (Value.slice A1 n1 c1).ownBlock := fun e => HO.out.2.2 wb e.symm rfl
                    have HX5 := hide (hbx.grown hg hnx)
                    have HNW : Hid (∀ j, (Value.slice A5 (n1 + 1) c5).ownBlock = some j → j ≠ wb) := hide (fun j hj e => by
                      subst e
                      rcases hat j hj with h2 | h2
                      · exact hnx h2.symm
                      · have h3 := hbx.lt
                        have h4 := (HO.out.2.1.kept HB3.out).lt
                        omega)
                    have y0 := HX5.out.cell 0
                    clear ho hg hat ho5 hbx hnx
                    refine hK.out _ _ (y0) (fun hHeld => ?_)
                    clear hK
                    try simp only [Act.put, List.setIfInBounds_toArray, List.set_cons_zero, List.set_cons_succ]
                    refine wpAnyH_take (i := 10) (v := ?_) rfl (by kernel_rfl) (by kernel_rfl) (by kernel_rfl) (fun _ _ _ h => h) (Or.inl ⟨by rfl, ?hy⟩) (by assumption) ?_
                    case hy => intro w hSw; (try dsimp only at hSw); go_simp; (try with_reducible rfl)
                    try simp only [Act.put, List.setIfInBounds_toArray, List.set_cons_zero, List.set_cons_succ]
                    refine wpAnyH_done (by kernel_rfl) ?_ _
                    try refine NoPanic.normal ?_
                    go_wp2_with fail
                    go_roundw
                    case rel => exact ⟨t + zn, a2, n1 + 1, _, r - zn, e - zn, _, _, _, rfl, rfl, by first | rfl | (simp; done) | go_num, by omega, by omega, ha2n, hide (by rw [HX.out]; exact ⟨by rw [← HA2.out, ← HAt.out.1, Nat.mod_add_mod], fun h => by have := HNZ.out.2 (by omega); dsimp only; omega⟩), HED, hide (by rw [HX.out]; exact ⟨HO5.out, HX5.out, HNW.out⟩), HB5⟩
                    case measure => simp [lenOfV]; omega
                  · exact AllReadyH.nil
                · exact AllReadyH.nil
              · exact AllReadyH.nil
            · have hzr1 : (r : Int) < (zn : Int) := by omega
              have hzr2 : ¬ ((zn : Int) ≤ (r : Int)) := by omega
              have hN1 : 1 ≤ r := by omega
              have hN2 : r ≤ r := by omega
              have HNZ : Hid (r ≤ szAt zs R.at_ ∧ (r < r → szAt zs R.at_ = r)) := hide (by rw [HSA.out]; omega)
              obtain ⟨pc, hpc⟩ : ∃ pc, (b.drop t).take r = pc := ⟨_, rfl⟩
              have hpl : pc.length = r := by rw [← hpc, List.length_take, List.length_drop, HM.out]; omega
              have HPN : Hid (pc ≠ []) := hide (by intro h; rw [h] at hpl; simp at hpl <;> omega)
              have HPL := hide hpl
              have HX : Hid (s0.run zs f (b.take (t + r)) = ⟨R.out ++ [(f, pc)], R.at_ + 1, szAt zs R.at_ - r⟩) := hide (by
                rw [List.take_add, run_append, HRR.out, hpc, run_piece (HAt.out.2 (by omega)) pc HPN.out (by rw [hpl]; exact HNZ.out.1), hpl])
              have HPS : Hid (∀ w', Below w.heap.size w w' → Sees w' E (pc.map (Value.int .u8))) := hide (fun w' hb => by rw [← hpc, List.map_take]; exact (HE.out w' hb).take _)
              have HED : Hid (∀ w', Below w.heap.size w w' → Sees w' (if e = r then E else E.map (·.add r)) ((b.drop (t + r)).map (Value.int .u8))) := hide (fun w' hb => by
                have h1 := (HE.out w' hb).drop (k := r) (n := r) (c := e) (by rw [List.length_map, List.length_drop, HM.out]; omega) hre
                rw [← List.map_drop, List.drop_drop] at h1
                exact h1)
              clear hpc hpl
              have g1 : (r : Int) ≤ (r : Int) := by omega
              have g2 : (r : Int) ≤ (e : Int) := by omega
              have g3 : (0 : Int) ≤ (r : Int) := by omega
              have g4 : (r : Int) ≤ (e : Int) := by omega
              go_wp2_with fail
              refine wp_region_held_drew (S := fun w' => w'.cell? ⟨wb, 0, none⟩ = some (.int .i64 f)) (by kernel_rfl) (d0) (fun hHeld => ?_)
              refine wpAnyH_take (i := 0) (v := ?_) rfl (by kernel_rfl) (by kernel_rfl) (by kernel_rfl) (fun _ _ _ h => h) (Or.inl ⟨by rfl, ?hy⟩) (by assumption) ?_
              case hy => intro w hSw; (try dsimp only at hSw); go_simp; (try with_reducible rfl)
              try simp only [Act.put, List.setIfInBounds_toArray, List.set_cons_zero, List.set_cons_succ]
              refine wpAnyH_take (i := 1) (v := ?_) rfl (by kernel_rfl) (by kernel_rfl) (by kernel_rfl) (fun _ _ _ h => h) (Or.inl ⟨by rfl, ?hy⟩) (by assumption) ?_
              case hy => intro w hSw; (try dsimp only at hSw); go_simp; (try with_reducible rfl)
              try simp only [Act.put, List.setIfInBounds_toArray, List.set_cons_zero, List.set_cons_succ]
              refine wpAnyH_take (i := 2) (v := ?_) rfl (by kernel_rfl) (by kernel_rfl) (by kernel_rfl) (fun _ _ _ h => h) (Or.inl ⟨by rfl, ?hy⟩) (by assumption) ?_
              case hy => intro w hSw; (try dsimp only at hSw); go_simp; (try with_reducible rfl)
              try simp only [Act.put, List.setIfInBounds_toArray, List.set_cons_zero, List.set_cons_succ]
              refine wpAnyH_take (i := 3) (v := ?_) rfl (by kernel_rfl) (by kernel_rfl) (by kernel_rfl) (fun _ _ _ h => h) (Or.inl ⟨by rfl, ?hy⟩) (by assumption) ?_
              case hy => intro w hSw; (try dsimp only at hSw); go_simp; (try with_reducible rfl)
              try simp only [Act.put, List.setIfInBounds_toArray, List.set_cons_zero, List.set_cons_succ]
              refine wpAnyH_take (i := 4) (v := ?_) rfl (by kernel_rfl) (by kernel_rfl) (by kernel_rfl) (fun _ _ _ h => h) (Or.inl ⟨by rfl, ?hy⟩) (by assumption) ?_
              case hy => intro w hSw; (try dsimp only at hSw); go_simp; (try with_reducible rfl)
              try simp only [Act.put, List.setIfInBounds_toArray, List.set_cons_zero, List.set_cons_succ]
              refine wpAnyH_take (i := 5) (v := ?_) rfl (by kernel_rfl) (by kernel_rfl) (by kernel_rfl) (fun _ _ _ h => h) (Or.inl ⟨by rfl, ?hy⟩) (by assumption) ?_
              case hy => intro w hSw; (try dsimp only at hSw); go_simp; (try with_reducible rfl)
              try simp only [Act.put, List.setIfInBounds_toArray, List.set_cons_zero, List.set_cons_succ]
              refine wpAnyH_ready (rs := [6]) (by kernel_rfl) (by simp) ?_
              refine AllReadyH.cons rfl (fun K' hK => ?_) ?_
              · go_simp
                go_at_call 19
                refine (clone_any E r e pc _ HPL.out (by omega) (by omega) (HPS.out wr HW.out).drew).mono ?_
                rintro ee w3 ⟨B3, c3, rfl, ho3, hb3⟩
                have HV3 := hide ho3
                have hb3' : Below wr.heap.size wr w3 := by simpa using below_undrew hb3
                have HB3 := hide hb3'
                have x0 := (HO.out.2.1.kept hb3').cell 0
                clear ho3 hb3 hb3' 
                refine hK.out _ _ (x0) (fun hHeld => ?_)
                clear hK
                try simp only [Act.put, List.setIfInBounds_toArray, List.set_cons_zero, List.set_cons_succ]
                refine wpAnyH_take (i := 7) (v := ?_) rfl (by kernel_rfl) (by kernel_rfl) (by kernel_rfl) (fun _ _ _ h => h) (Or.inl ⟨by rfl, ?hy⟩) (by assumption) ?_
                case hy => intro w hSw; (try dsimp only at hSw); go_simp; (try with_reducible rfl)
                try simp only [Act.put, List.setIfInBounds_toArray, List.set_cons_zero, List.set_cons_succ]
                refine wpAnyH_ready (rs := [8]) (by kernel_rfl) (by simp) ?_
                refine AllReadyH.cons rfl (fun K' hK => ?_) ?_
                · go_simp
                  refine hK.out _ _ (((HO.out.2.1.kept HB3.out).alloc _).cell 0) (fun hHeld => ?_)
                  clear hK
                  try simp only [Act.put, List.setIfInBounds_toArray, List.set_cons_zero, List.set_cons_succ]
                  refine wpAnyH_ready (rs := [9]) (by kernel_rfl) (by simp) ?_
                  refine AllReadyH.cons rfl (fun K' hK => ?_) ?_
                  · refine step_chunk2 rfl (.tmp 35) (.tmp 43) rfl w.heap.size n1 c1 A1 hs f (.slice B3 r c3) (by rfl) ((HO.out.1.kept HB3.out).own.alloc _) w3.heap.size (by rfl) (Blk.born w3 33 _) rfl (by omega) (by have h1 := HB3.out.size; have h2 := HW.out.size; simp; omega) ?_
                    intro A5 c5 w5 ho hg hat
                    have hlow : wr.heap.size ≤ w3.heap.size := HB3.out.size
                    have hb1 := HW.out.size
                    have ho5 := HO.out.1.push (f := f) (v := .slice B3 r c3) (b := pc) ((HB3.out.alloc hlow _)) (by rw [HPL.out]; exact (own_lower HV3.out (by simpa using hb1)).alloc _) (fun g hg => by have := (HV3.out.lt g hg).1; simpa using this) ho hg
                    have HO5 := hide ho5
                    have HB5 : Hid (Below w.heap.size w w5) := hide ((below_nextB HW.out HW.out.size (HB3.out.alloc hlow _)).grown hg (by simp; omega) (own_row_ge HO.out.1.own))
                    have hbx := (HO.out.2.1.kept HB3.out).alloc (.cells #[.int .i64 f, .slice B3 r c3] 33)
                    have hnx : some wb ≠ (Value.slice A1 n1 c1).ownBlock := fun e => HO.out.2.2 wb e.symm rfl
                    have HX5 := hide (hbx.grown hg hnx)
                    have HNW : Hid (∀ j, (Value.slice A5 (n1 + 1) c5).ownBlock = some j → j ≠ wb) := hide (fun j hj e => by
                      subst e
                      rcases hat j hj with h2 | h2
                      · exact hnx h2.symm
                      · have h3 := hbx.lt
                        have h4 := (HO.out.2.1.kept HB3.out).lt
                        omega)
                    have y0 := HX5.out.cell 0
                    clear ho hg hat ho5 hbx hnx
                    refine hK.out _ _ (y0) (fun hHeld => ?_)
                    clear hK
                    try simp only [Act.put, List.setIfInBounds_toArray, List.set_cons_zero, List.set_cons_succ]
                    refine wpAnyH_take (i := 10) (v := ?_) rfl (by kernel_rfl) (by kernel_rfl) (by kernel_rfl) (fun _ _ _ h => h) (Or.inl ⟨by rfl, ?hy⟩) (by assumption) ?_
                    case hy => intro w hSw; (try dsimp only at hSw); go_simp; (try with_reducible rfl)
                    try simp only [Act.put, List.setIfInBounds_toArray, List.set_cons_zero, List.set_cons_succ]
                    refine wpAnyH_done (by kernel_rfl) ?_ _
                    try refine NoPanic.normal ?_
                    go_wp2_with fail
                    go_roundw
                    case rel => exact ⟨t + r, a2, n1 + 1, _, r - r, e - r, _, _, _, rfl, rfl, by first | rfl | (simp; done) | go_num, by omega, by omega, ha2n, hide (by rw [HX.out]; exact ⟨by rw [← HA2.out, ← HAt.out.1, Nat.mod_add_mod], fun h => by have := HNZ.out.2 (by omega); dsimp only; omega⟩), HED, hide (by rw [HX.out]; exact ⟨HO5.out, HX5.out, HNW.out⟩), HB5⟩
                    case measure => simp [lenOfV]; omega
                  · exact AllReadyH.nil
                · exact AllReadyH.nil
              · exact AllReadyH.nil
    · have HE : Hid (l.take i = l) := hide (List.take_of_length_le (by have := HLN.out; omega))
      go_wp2_with fail
      go_ret
      refine ⟨_, _, _, hs, rfl, ?_, HW.out⟩
      have := HO.out
      rwa [HE.out] at this
    end Go.Proofs.Ytciddilphflhaaa
