/- The walk of the law BlockParts: the near arm. -/
import Derived.Test.YtpjibdnoiioaoaaPa
namespace Go.Proofs.Ytpjibdnoiioaoaa
open Go.ChangeShapes Go.WideShapes Go.ChangeAt Go.RowKit Go.Deep
set_option linter.unusedSimpArgs false
set_option linter.unusedVariables false

set_option maxRecDepth 100000 in
set_option maxHeartbeats 16000000 in
theorem parts_near (x : FV) (A1 A2 : Option Addr) (n1 c1 n2 c2 : Nat) (b cu : List Int) (w : World) (hin : FIn w x) (hbl : b.length = n1) (hbm : c1 ≤ maxLen) (hbn : A1 = none → n1 = 0 ∧ c1 = 0) (hbc : n1 ≤ c1) (hbs : Sees w A1 (u8s b)) (hcl : cu.length = n2) (hcs : Sees w A2 (u8s cu)) (hcr : ∀ z ∈ cu, 0 ≤ z ∧ z ≤ 255) (k1 : n1 ≤ 2000) (k2 : n2 ≤ 60) (kd : x.dn ≤ 2000) (ks : x.sn ≤ 100) (kt : x.f.ty = 1 ∨ x.f.ty = 5) (kf0 : 0 ≤ x.f.fl) (kf1 : x.f.fl ≤ 255) : Calls Try.prog 4 #[.agg #[.int .i64 x.f.ty, .int .i64 x.f.fl, .int .i64 x.f.st, .int .i64 x.f.pad, .slice x.D x.dn x.dc, .slice x.S x.sn x.sc, .int .i64 x.f.wt, .int .i64 x.f.par, .bool x.f.alone, .int .i64 x.f.prom, .int .i64 x.f.last, .int .i64 x.f.code, .int .i64 x.f.step], .slice A1 n1 c1, .slice A2 n2 c2] w fun e w' => e = .returned (.bool true) ∧ Below w.heap.size w w' := by
  have HBL := hide hbl
  have HBN := hide hbn
  have HBS : Hid (∀ w', Below w.heap.size w w' → Sees w' A1 (u8s b)) := hide (fun w' hb => hbs.kept hb)
  have HCL := hide hcl
  have HCS : Hid (∀ w', Below w.heap.size w w' → Sees w' A2 (u8s cu)) := hide (fun w' hb => hcs.kept hb)
  have HBK := hide hbs.toK
  have HCR := hide hcr
  have HIN := hide hin
  obtain ⟨fl1, hfl1⟩ : ∃ fl1, (if x.f.fl / 4 % 2 = 1 then x.f.fl - 4 else x.f.fl) = fl1 := ⟨_, rfl⟩
  have HFL : Hid (FlOk x.f.ty fl1) := hide ⟨kt, by rw [← hfl1]; split <;> omega, by rw [← hfl1]; split <;> omega, by rw [← hfl1]; split <;> omega⟩
  have HFE := hide hfl1
  have k1' : ¬ (n1 : Int) > 2000 := by omega
  have k2' : ¬ (n2 : Int) > 60 := by omega
  have hce : (c1 : Int) ≤ 9223372036854775807 := by unfold maxLen at hbm; omega
  have hbc' : (n1 : Int) ≤ (c1 : Int) := by omega
  clear hbl hbn hbs hcl hcs hcr hfl1
  obtain ⟨v, hv⟩ : ∃ v, w.heap.size = v := ⟨_, rfl⟩
  have HV := hide hv
  obtain ⟨W1, hW1⟩ : ∃ W1, w.alloc (.cells #[.int .i64 x.f.ty, .int .i64 x.f.fl, .int .i64 x.f.st, .int .i64 x.f.pad, .slice x.D x.dn x.dc, .slice x.S x.sn x.sc, .int .i64 x.f.wt, .int .i64 x.f.par, .bool x.f.alone, .int .i64 x.f.prom, .int .i64 x.f.last, .int .i64 x.f.code, .int .i64 x.f.step] 30) = W1 := ⟨_, rfl⟩
  have HB1 : Hid (Below w.heap.size w W1) := hide (by rw [← hW1]; exact (Below.refl _ _).alloc (Nat.le_refl _) _)
  have HX1 : Hid (Blk W1 v 30 #[.int .i64 x.f.ty, .int .i64 x.f.fl, .int .i64 x.f.st, .int .i64 x.f.pad, .slice x.D x.dn x.dc, .slice x.S x.sn x.sc, .int .i64 x.f.wt, .int .i64 x.f.par, .bool x.f.alone, .int .i64 x.f.prom, .int .i64 x.f.last, .int .i64 x.f.code, .int .i64 x.f.step]) := hide (by rw [← hW1, ← hv]; exact Blk.born _ _ _)
  have a0 : W1.cell? ⟨v, 0, none⟩ = some (.int .i64 x.f.ty) := HX1.out.cell 0
  have a1 : W1.cell? ⟨v, 1, none⟩ = some (.int .i64 x.f.fl) := HX1.out.cell 1
  have a2 : W1.cell? ⟨v, 2, none⟩ = some (.int .i64 x.f.st) := HX1.out.cell 2
  have a3 : W1.cell? ⟨v, 3, none⟩ = some (.int .i64 x.f.pad) := HX1.out.cell 3
  have a4 : W1.cell? ⟨v, 4, none⟩ = some (.slice x.D x.dn x.dc) := HX1.out.cell 4
  have a5 : W1.cell? ⟨v, 5, none⟩ = some (.slice x.S x.sn x.sc) := HX1.out.cell 5
  have a6 : W1.cell? ⟨v, 6, none⟩ = some (.int .i64 x.f.wt) := HX1.out.cell 6
  have a7 : W1.cell? ⟨v, 7, none⟩ = some (.int .i64 x.f.par) := HX1.out.cell 7
  have a8 : W1.cell? ⟨v, 8, none⟩ = some (.bool x.f.alone) := HX1.out.cell 8
  have a9 : W1.cell? ⟨v, 9, none⟩ = some (.int .i64 x.f.prom) := HX1.out.cell 9
  have a10 : W1.cell? ⟨v, 10, none⟩ = some (.int .i64 x.f.last) := HX1.out.cell 10
  have a11 : W1.cell? ⟨v, 11, none⟩ = some (.int .i64 x.f.code) := HX1.out.cell 11
  have a12 : W1.cell? ⟨v, 12, none⟩ = some (.int .i64 x.f.step) := HX1.out.cell 12
  have hc := fun w => hide (large15 x.f x.D x.S x.dn x.dc x.sn x.sc w hin.dm hin.sm)
  rw [show (decide (2000 < x.dn) || decide (100 < x.sn)) = false from by simp; omega] at hc
  have h4 : (x.f.ty != 1) = false ∨ ((x.f.ty != 1) = true ∧ (x.f.ty != 5) = false) := by
    rcases kt with h | h <;> rw [h]
    · exact .inl rfl
    · exact .inr ⟨rfl, rfl⟩
  have h6 : ¬ x.f.fl < 0 := by omega
  have h7 : ¬ x.f.fl > 255 := by omega
  have KF := hide (And.intro kf0 kf1)
  clear hin kt kf0 kf1
  go_enter Try.func4, Try.ntmps4
  go_upto_region 1 with fail
  go_cut [51] from 20 (fun s wx => s = .bool false ∧ Hid (Blk wx v 30 #[.int .i64 x.f.ty, .int .i64 x.f.fl, .int .i64 x.f.st, .int .i64 x.f.pad, .slice x.D x.dn x.dc, .slice x.S x.sn x.sc, .int .i64 x.f.wt, .int .i64 x.f.par, .bool x.f.alone, .int .i64 x.f.prom, .int .i64 x.f.last, .int .i64 x.f.code, .int .i64 x.f.step]) ∧ Hid (Below w.heap.size w wx))
  case first =>
    rcases h4 with h4 | ⟨h4, h5⟩
    all_goals
      go_wp2_with fail
      refine (hc _).out.mono ?_
      rintro e w2 ⟨rfl, hb⟩
      have HB2 := hide (below_nextB HB1.out HB1.out.size hb)
      have HX2 := hide (HX1.out.kept hb)
      clear hb hc
      have b0 : w2.cell? ⟨v, 0, none⟩ = some (.int .i64 x.f.ty) := HX2.out.cell 0
      have b1 : w2.cell? ⟨v, 1, none⟩ = some (.int .i64 x.f.fl) := HX2.out.cell 1
      have b2 : w2.cell? ⟨v, 2, none⟩ = some (.int .i64 x.f.st) := HX2.out.cell 2
      have b3 : w2.cell? ⟨v, 3, none⟩ = some (.int .i64 x.f.pad) := HX2.out.cell 3
      have b4 : w2.cell? ⟨v, 4, none⟩ = some (.slice x.D x.dn x.dc) := HX2.out.cell 4
      have b5 : w2.cell? ⟨v, 5, none⟩ = some (.slice x.S x.sn x.sc) := HX2.out.cell 5
      have b6 : w2.cell? ⟨v, 6, none⟩ = some (.int .i64 x.f.wt) := HX2.out.cell 6
      have b7 : w2.cell? ⟨v, 7, none⟩ = some (.int .i64 x.f.par) := HX2.out.cell 7
      have b8 : w2.cell? ⟨v, 8, none⟩ = some (.bool x.f.alone) := HX2.out.cell 8
      have b9 : w2.cell? ⟨v, 9, none⟩ = some (.int .i64 x.f.prom) := HX2.out.cell 9
      have b10 : w2.cell? ⟨v, 10, none⟩ = some (.int .i64 x.f.last) := HX2.out.cell 10
      have b11 : w2.cell? ⟨v, 11, none⟩ = some (.int .i64 x.f.code) := HX2.out.cell 11
      have b12 : w2.cell? ⟨v, 12, none⟩ = some (.int .i64 x.f.step) := HX2.out.cell 12
      go_wp2_with fail
      go_meet
      exact ⟨by rw [decide_eq_false (by omega : ¬ x.f.fl < 0), decide_eq_false (by omega : ¬ 255 < x.f.fl)]; rfl, HX2, HB2⟩
  case rest =>
  obtain ⟨rfl, HX2, HB2⟩ := hcut
  clear h4 h6 h7 hc hW1 hv a0 a1 a2 a3 a4 a5 a6 a7 a8 a9 a10 a11 a12 HX1
  have hnew := fun w => hide (new_any 2000 2000 w rfl)
  go_wp2_with fail
  refine (hnew _).out.mono ?_
  rintro e w3 ⟨rfl, hN, hb⟩
  obtain ⟨g, hg⟩ : ∃ g, wc.heap.size = g := ⟨_, rfl⟩
  rw [hg] at hN ⊢
  have HN3 := hide hN
  have HX3 := hide (HX2.out.kept hb)
  have HB3 := hide (below_nextB HB2.out HB2.out.size hb)
  have HGV : Hid (v ≠ g ∧ w.heap.size ≤ g) := hide ⟨by have := HX2.out.lt; omega, by have := HB2.out.size; omega⟩
  clear hN hb hg hnew HX2 HB2
  obtain ⟨q, hq⟩ : ∃ q, x.f.fl / 4 = q := ⟨_, rfl⟩
  have f1 : x.f.fl.tdiv 4 = q := by rw [← hq]; exact Int.tdiv_eq_ediv_of_nonneg KF.out.1
  have f2 : IntKind.i64.wrap q = q := by have := KF.out; rw [IntKind.wrap_i64]; omega
  have f22 : wrap64 q = q := by have := KF.out; unfold wrap64; omega
  obtain ⟨mm, hmm⟩ : ∃ mm, q % 2 = mm := ⟨_, rfl⟩
  have f3 : q.tmod 2 = mm := by rw [← hmm]; exact Int.tmod_eq_emod_of_nonneg (by have := KF.out; omega)
  have f4 : IntKind.i64.wrap mm = mm := by rw [IntKind.wrap_i64]; omega
  have f44 : wrap64 mm = mm := by unfold wrap64; omega
  have HQ : Hid (x.f.fl / 4 % 2 = mm ∧ 0 ≤ mm ∧ mm ≤ 1) := hide (by rw [hq]; omega)
  clear hq hmm
  have a0 : w3.cell? ⟨v, 0, none⟩ = some (.int .i64 x.f.ty) := HX3.out.cell 0
  have a1 : w3.cell? ⟨v, 1, none⟩ = some (.int .i64 x.f.fl) := HX3.out.cell 1
  have a2 : w3.cell? ⟨v, 2, none⟩ = some (.int .i64 x.f.st) := HX3.out.cell 2
  have a3 : w3.cell? ⟨v, 3, none⟩ = some (.int .i64 x.f.pad) := HX3.out.cell 3
  have a4 : w3.cell? ⟨v, 4, none⟩ = some (.slice x.D x.dn x.dc) := HX3.out.cell 4
  have a5 : w3.cell? ⟨v, 5, none⟩ = some (.slice x.S x.sn x.sc) := HX3.out.cell 5
  have a6 : w3.cell? ⟨v, 6, none⟩ = some (.int .i64 x.f.wt) := HX3.out.cell 6
  have a7 : w3.cell? ⟨v, 7, none⟩ = some (.int .i64 x.f.par) := HX3.out.cell 7
  have a8 : w3.cell? ⟨v, 8, none⟩ = some (.bool x.f.alone) := HX3.out.cell 8
  have a9 : w3.cell? ⟨v, 9, none⟩ = some (.int .i64 x.f.prom) := HX3.out.cell 9
  have a10 : w3.cell? ⟨v, 10, none⟩ = some (.int .i64 x.f.last) := HX3.out.cell 10
  have a11 : w3.cell? ⟨v, 11, none⟩ = some (.int .i64 x.f.code) := HX3.out.cell 11
  have a12 : w3.cell? ⟨v, 12, none⟩ = some (.int .i64 x.f.step) := HX3.out.cell 12
  have fz1 : w3.frozen? ⟨v, 1, none⟩ = false := HX3.out.free 1
  go_upto_if 58 with fail
  go_cut [] from 54 (fun wx => Hid (Blk wx v 30 #[.int .i64 x.f.ty, .int .i64 fl1, .int .i64 x.f.st, .int .i64 x.f.pad, .slice x.D x.dn x.dc, .slice x.S x.sn x.sc, .int .i64 x.f.wt, .int .i64 x.f.par, .bool x.f.alone, .int .i64 x.f.prom, .int .i64 x.f.last, .int .i64 x.f.code, .int .i64 x.f.step]) ∧ Hid (AsmN wx g 2000) ∧ Hid (Below w.heap.size w wx))
  case first =>
    by_cases hm : mm = 1
    · have e1 : fl1 = x.f.fl - 4 := by have := HFE.out; rw [HQ.out.1, if_pos hm] at this; exact this.symm
      have f5 : IntKind.i64.wrap (x.f.fl - 4) = x.f.fl - 4 := by have := KF.out; rw [IntKind.wrap_i64]; omega
      have f55 : wrap64 (x.f.fl - 4) = x.f.fl - 4 := by have := KF.out; unfold wrap64; omega
      have hb : (mm == 1) = true := by rw [hm]; rfl
      obtain ⟨w4, hw4⟩ : ∃ w4, w3.setCell ⟨v, 1, none⟩ (.int .i64 (x.f.fl - 4)) = w4 := ⟨_, rfl⟩
      have ho : Only [v] w3 w4 := by rw [← hw4]; exact Only.store w3 (p := ⟨v, 1, none⟩) (List.mem_singleton.2 rfl) _
      have HX4 : Hid (Blk w4 v 30 #[.int .i64 x.f.ty, .int .i64 fl1, .int .i64 x.f.st, .int .i64 x.f.pad, .slice x.D x.dn x.dc, .slice x.S x.sn x.sc, .int .i64 x.f.wt, .int .i64 x.f.par, .bool x.f.alone, .int .i64 x.f.prom, .int .i64 x.f.last, .int .i64 x.f.code, .int .i64 x.f.step]) := hide (by rw [← hw4, e1]; exact HX3.out.store 1 _)
      have HN4 : Hid (AsmN w4 g 2000) := hide (Blk.only HN3.out ho (fun h => HGV.out.1 (List.mem_singleton.1 h).symm))
      have HB4 : Hid (Below w.heap.size w w4) := hide (HB3.out.trans (ho.below HB3.out.size (fun b hb => by rw [List.mem_singleton.1 hb]; have := HV.out; omega)))
      clear hm e1 ho
      go_wp2_with fail
      go_meet
      exact ⟨HX4, HN4, HB4⟩
    · have e1 : fl1 = x.f.fl := by have := HFE.out; rw [HQ.out.1, if_neg hm] at this; exact this.symm
      have hb : (mm == 1) = false := by simp [hm]
      have HX4 : Hid (Blk w3 v 30 #[.int .i64 x.f.ty, .int .i64 fl1, .int .i64 x.f.st, .int .i64 x.f.pad, .slice x.D x.dn x.dc, .slice x.S x.sn x.sc, .int .i64 x.f.wt, .int .i64 x.f.par, .bool x.f.alone, .int .i64 x.f.prom, .int .i64 x.f.last, .int .i64 x.f.code, .int .i64 x.f.step]) := hide (by rw [e1]; exact HX3.out)
      clear hm e1
      go_wp2_with fail
      go_meet
      exact ⟨HX4, HN3, HB3⟩
  case rest =>
  obtain ⟨HX4, HN4, HB4⟩ := hcut
  clear f1 f2 f22 f3 f4 f44 HX3 HN3 HB3 a0 a1 a2 a3 a4 a5 a6 a7 a8 a9 a10 a11 a12
  have a0 : wc.cell? ⟨v, 0, none⟩ = some (.int .i64 x.f.ty) := HX4.out.cell 0
  have a1 : wc.cell? ⟨v, 1, none⟩ = some (.int .i64 fl1) := HX4.out.cell 1
  have a2 : wc.cell? ⟨v, 2, none⟩ = some (.int .i64 x.f.st) := HX4.out.cell 2
  have a3 : wc.cell? ⟨v, 3, none⟩ = some (.int .i64 x.f.pad) := HX4.out.cell 3
  have a4 : wc.cell? ⟨v, 4, none⟩ = some (.slice x.D x.dn x.dc) := HX4.out.cell 4
  have a5 : wc.cell? ⟨v, 5, none⟩ = some (.slice x.S x.sn x.sc) := HX4.out.cell 5
  have a6 : wc.cell? ⟨v, 6, none⟩ = some (.int .i64 x.f.wt) := HX4.out.cell 6
  have a7 : wc.cell? ⟨v, 7, none⟩ = some (.int .i64 x.f.par) := HX4.out.cell 7
  have a8 : wc.cell? ⟨v, 8, none⟩ = some (.bool x.f.alone) := HX4.out.cell 8
  have a9 : wc.cell? ⟨v, 9, none⟩ = some (.int .i64 x.f.prom) := HX4.out.cell 9
  have a10 : wc.cell? ⟨v, 10, none⟩ = some (.int .i64 x.f.last) := HX4.out.cell 10
  have a11 : wc.cell? ⟨v, 11, none⟩ = some (.int .i64 x.f.code) := HX4.out.cell 11
  have a12 : wc.cell? ⟨v, 12, none⟩ = some (.int .i64 x.f.step) := HX4.out.cell 12
  obtain ⟨p, hp⟩ : ∃ p, wc.heap.size = p := ⟨_, rfl⟩
  obtain ⟨wL, hwL⟩ : ∃ wL, wc.alloc (.cells #[.int .i64 x.f.ty, .int .i64 fl1, .int .i64 x.f.st, .int .i64 x.f.pad, .slice x.D x.dn x.dc, .slice x.S x.sn x.sc, .int .i64 x.f.wt, .int .i64 x.f.par, .bool x.f.alone, .int .i64 x.f.prom, .int .i64 x.f.last, .int .i64 x.f.code, .int .i64 x.f.step] 30) = wL := ⟨_, rfl⟩
  have HPI : Hid (PI w wL g v p x fl1 b A1 n1 c1 0 { x.f with fl := fl1 } x.D x.S x.dn x.dc x.sn x.sc [] [g]) := hide (by
    have hb : Below wc.heap.size wc wL := by rw [← hwL]; exact (Below.refl _ _).alloc (Nat.le_refl _) _
    have hbL := below_nextB HB4.out HB4.out.size hb
    have hgl : g < wc.heap.size := Blk.lt HN4.out
    refine ⟨AsmL.fresh (Blk.kept HN4.out hb), ?_, HX4.out.kept hb, ⟨HBN.out, by omega, ?_⟩, FV.ok_kept (x := x) HIN.out.ok hbL |>.s, HIN.out.ok.sl, ks, fun b hb => by rw [List.mem_singleton.1 hb]; exact HGV.out.2, fun h => by have := List.mem_singleton.1 h; omega, fun h => HGV.out.1 (List.mem_singleton.1 h), by have := HX4.out.lt; omega, by have := HB4.out.size; omega, hbL, rfl, .inl ⟨rfl, rfl⟩⟩
    · rw [← hwL, ← hp]; exact Blk.born _ _ _
    · exact HBK.out.blocks (fun b hb _ => hbL.block b hb))
  clear HX4 HN4 HB4 HGV HFE HV KF HQ
  go_wp2_with fail
  go_loopw [8, 10] (fun lv iv wr => ∃ (i : Nat) (E : Option Addr) (r e k : Nat) (gf : Fr) (Dg Sg : Option Addr) (dng dcg sng scg : Nat) (fs : List Fr) (F : List Nat), lv = .slice E r e ∧ iv = .int .i64 (i : Nat) ∧ i ≤ n2 ∧ Hid (b.length = k + r) ∧ Hid (PI w wr g v p x fl1 b E r e k gf Dg Sg dng dcg sng scg fs F)) (fun _ iv _ => n2 - (intOf iv).toNat)
  case atStart => exact ⟨0, A1, n1, c1, 0, _, _, _, _, _, _, _, [], [g], rfl, rfl, Nat.zero_le _, hide (by rw [Nat.zero_add]; exact HBL.out), HPI⟩
  case round =>
    clear HPI
    obtain ⟨i, E, r, e, k, gf, Dg, Sg, dng, dcg, sng, scg, fs, F, rfl, rfl, hi, HL, HP⟩ := hrel
    have hr2 : r ≤ 2000 := by have h1 := HL.out; have h2 := HBL.out; omega
    have g4 : (r : Int) ≤ (e : Int) := by have := HP.out.left.le; omega
    have HLD : Hid ((allD fs).length + r ≤ 2000) := hide (by rw [HP.out.all, List.length_take]; have h1 := HL.out; have h2 := HBL.out; omega)
    have HGF : Hid (gf.fl + 4 ≤ 1000 ∧ gf.fl ≤ 9223372036854775807 ∧ 0 ≤ gf.fl) := hide (by
      have h1 := HFL.out.hi
      have h2 := HFL.out.lo
      rcases HP.out.st with ⟨_, rfl⟩ | ⟨a, t, _, _, _, _, rfl⟩
      · dsimp only; omega
      · dsimp only [nextF]; omega)
    by_cases hlt : i < n2
    · have i1 : (i : Int) < (n2 : Int) := by omega
      have i3 : (0 : Int) ≤ (i : Int) := by omega
      obtain ⟨z, hz⟩ : ∃ z, cu[i]? = some z := ⟨_, List.getElem?_eq_getElem (by have := HCL.out; omega)⟩
      obtain ⟨hz0, hz1⟩ := HCR.out z (List.mem_of_getElem? hz)
      obtain ⟨zn, rfl⟩ := Int.eq_ofNat_of_zero_le hz0
      obtain ⟨gz, oz, rfl, hcz⟩ := (HCS.out wr HP.out.bel) i (.int .u8 zn) (by unfold u8s; rw [List.getElem?_map, hz]; rfl)
      have HJW := hide (wrap_small hz0 (by omega))
      clear hz
      by_cases hzr : zn ≤ r
      · have hzr1 : (zn : Int) ≤ (r : Int) := by omega
        have hm1 : zn ≤ r := by omega
        have hm2 : zn ≤ 2000 := by omega
        have g1 : ((zn : Nat) : Int) ≤ (r : Int) := by omega
        have g2 : ((zn : Nat) : Int) ≤ (e : Int) := by omega
        have g3 : (0 : Int) ≤ ((zn : Nat) : Int) := by omega
        obtain ⟨wa, hwa⟩ : ∃ wa, wr.setCell ⟨p, 4, none⟩ (.slice E zn e) = wa := ⟨_, rfl⟩
        have HWA := hide hwa
        have HASK := hide (HP.out.ask HL.out hm1 hwa)
        have h4 : wr.cell? ⟨p, 4, none⟩ = some (.slice Dg dng dcg) := HP.out.box.cell 4
        have fz4 : wr.frozen? ⟨p, 4, none⟩ = false := HP.out.box.free 4
        have b0 : wa.cell? ⟨p, 0, none⟩ = some (.int .i64 gf.ty) := HASK.out.box.cell 0
        have b1 : wa.cell? ⟨p, 1, none⟩ = some (.int .i64 gf.fl) := HASK.out.box.cell 1
        have b2 : wa.cell? ⟨p, 2, none⟩ = some (.int .i64 gf.st) := HASK.out.box.cell 2
        have b3 : wa.cell? ⟨p, 3, none⟩ = some (.int .i64 gf.pad) := HASK.out.box.cell 3
        have b4 : wa.cell? ⟨p, 4, none⟩ = some (.slice E zn e) := HASK.out.box.cell 4
        have b5 : wa.cell? ⟨p, 5, none⟩ = some (.slice Sg sng scg) := HASK.out.box.cell 5
        have b6 : wa.cell? ⟨p, 6, none⟩ = some (.int .i64 gf.wt) := HASK.out.box.cell 6
        have b7 : wa.cell? ⟨p, 7, none⟩ = some (.int .i64 gf.par) := HASK.out.box.cell 7
        have b8 : wa.cell? ⟨p, 8, none⟩ = some (.bool gf.alone) := HASK.out.box.cell 8
        have b9 : wa.cell? ⟨p, 9, none⟩ = some (.int .i64 gf.prom) := HASK.out.box.cell 9
        have b10 : wa.cell? ⟨p, 10, none⟩ = some (.int .i64 gf.last) := HASK.out.box.cell 10
        have b11 : wa.cell? ⟨p, 11, none⟩ = some (.int .i64 gf.code) := HASK.out.box.cell 11
        have b12 : wa.cell? ⟨p, 12, none⟩ = some (.int .i64 gf.step) := HASK.out.box.cell 12
        have hop : Calls Try.prog 11 #[.pointer (some ⟨g, 0, none⟩), .agg #[.int .i64 gf.ty, .int .i64 gf.fl, .int .i64 gf.st, .int .i64 gf.pad, .slice E zn e, .slice Sg sng scg, .int .i64 gf.wt, .int .i64 gf.par, .bool gf.alone, .int .i64 gf.prom, .int .i64 gf.last, .int .i64 gf.code, .int .i64 gf.step]] wa fun e' w' => ∃ (F' : List Nat) (D S : Option Addr) (dn dc sn sc : Nat), e' = .returned (.tuple #[.agg #[.int .i64 0, .int .i64 0, .int .i64 0, .int .i64 0, .slice D dn dc, .slice S sn sc, .int .i64 0, .int .i64 0, .bool false, .int .i64 0, .int .i64 0, .int .i64 0, .int .i64 0], .bool false, .int .i64 0]) ∧ AsmL w' g 2000 (fs ++ [{ gf with data := (b.drop k).take zn }]) F' (fun b => b = p) ∧ Only F wa w' ∧ (∀ b ∈ F', b ∈ F ∨ wa.heap.size ≤ b) := by
          have hlen := HLD.out
          have := add_op g 2000 F (fun b => b = p) fs { gf with data := (b.drop k).take zn } E Sg zn e sng scg wa (fun b hb => by rw [hb]; exact HASK.out.lt) HASK.out.asm (by decide) (by decide) (by omega) (by omega) (by have := HP.out.sle; omega) HGF.out.2.1 (HASK.out.frm.mono (fun b _ hb hm => by have := HP.out.ge b hm; omega))
          rw [step_more HFL.out HP.out.st _ (by have h1 := HASK.out.frm.dl; dsimp only at h1; rw [h1]; omega)] at this
          exact this.mono (fun e' w' ⟨F', D, S, dn, dc, sn, sc, h1, h2, h3, h4, _⟩ => ⟨F', D, S, dn, dc, sn, sc, h1, h2, h3, h4⟩)
        have HOP := hide hop
        clear hop
        have jw := HJW.out.2
        obtain ⟨E1, hE1⟩ : ∃ E1, (if e = zn then E else Option.map (fun x => x.add zn) E) = E1 := ⟨_, rfl⟩
        have HE1 := hide hE1
        go_wp2_with fail
        refine HOP.out.mono ?_
        rintro e3 w3 ⟨F', D1, S1, dn1, dc1, sn1, sc1, rfl, hA3, hO3, hF3⟩
        clear jw hE1
        have HA3 := hide hA3
        have HO3 := hide hO3
        have HF3 := hide hF3
        have HX3 := hide (HASK.out.fst.only hO3 HP.out.vF)
        have HP3 := hide (HASK.out.box.only hO3 HP.out.pF)
        clear hA3 hO3 hF3 HOP hwa h4 fz4 b0 b1 b2 b3 b4 b5 b6 b7 b8 b9 b10 b11 b12
        obtain ⟨p4, hp4⟩ : ∃ p4, w3.heap.size = p4 := ⟨_, rfl⟩
        obtain ⟨z4, hz4⟩ : ∃ z4, w3.alloc (.cells #[.int .i64 0, .int .i64 0, .int .i64 0, .int .i64 0, .slice none 0 0, .slice none 0 0, .int .i64 0, .int .i64 0, .bool false, .int .i64 0, .int .i64 0, .int .i64 0, .int .i64 0] 30) = z4 := ⟨_, rfl⟩
        have HZ4 : Hid (Blk z4 p4 30 #[.int .i64 0, .int .i64 0, .int .i64 0, .int .i64 0, .slice none 0 0, .slice none 0 0, .int .i64 0, .int .i64 0, .bool false, .int .i64 0, .int .i64 0, .int .i64 0, .int .i64 0]) := hide (by rw [← hz4, ← hp4]; exact Blk.born _ _ _)
        obtain ⟨w4, hw4⟩ : ∃ w4, z4.setRow p4 #[.int .i64 0, .int .i64 0, .int .i64 0, .int .i64 0, .slice D1 dn1 dc1, .slice S1 sn1 sc1, .int .i64 0, .int .i64 0, .bool false, .int .i64 0, .int .i64 0, .int .i64 0, .int .i64 0] = w4 := ⟨_, rfl⟩
        have hb4 : Below w3.heap.size w3 w4 := by
          have h1 : Below w3.heap.size w3 z4 := by rw [← hz4]; exact (Below.refl _ _).alloc (Nat.le_refl _) _
          have h2 : Only [p4] z4 w4 := by rw [← hw4]; exact Only.setRow _ _ _ (List.mem_singleton.2 rfl)
          exact h1.trans (h2.below h1.size (fun b hb => by rw [List.mem_singleton.1 hb]; omega))
        have HT4 : Hid (Blk w4 p4 30 #[.int .i64 0, .int .i64 0, .int .i64 0, .int .i64 0, .slice D1 dn1 dc1, .slice S1 sn1 sc1, .int .i64 0, .int .i64 0, .bool false, .int .i64 0, .int .i64 0, .int .i64 0, .int .i64 0]) := hide (by rw [← hw4]; exact HZ4.out.setRow _)
        have HBE := hide hb4
        have HX4 := hide (HX3.out.kept hb4)
        have HP4 := hide (HP3.out.kept hb4)
        have HN4 : Hid (p ≠ p4) := hide (by have := HP3.out.lt; omega)
        clear hb4 HX3 HP3
        obtain ⟨w5, hw5⟩ : ∃ w5, w4.setRow p #[.int .i64 9, .int .i64 0, .int .i64 x.f.st, .int .i64 0, .slice none 0 0, .slice none 0 0, .int .i64 0, .int .i64 0, .bool false, .int .i64 0, .int .i64 0, .int .i64 0, .int .i64 0] = w5 := ⟨_, rfl⟩
        have HPN := hide (HP.out.next HL.out hm1 HWA.out HA3.out HO3.out HF3.out HBE.out hw5)
        rw [HE1.out] at HPN
        have d0 : w4.cell? ⟨v, 0, none⟩ = some (.int .i64 x.f.ty) := HX4.out.cell 0
        have d1 : w4.cell? ⟨v, 1, none⟩ = some (.int .i64 fl1) := HX4.out.cell 1
        have d2 : w4.cell? ⟨v, 2, none⟩ = some (.int .i64 x.f.st) := HX4.out.cell 2
        have d3 : w4.cell? ⟨v, 3, none⟩ = some (.int .i64 x.f.pad) := HX4.out.cell 3
        have d4 : w4.cell? ⟨v, 4, none⟩ = some (.slice x.D x.dn x.dc) := HX4.out.cell 4
        have d5 : w4.cell? ⟨v, 5, none⟩ = some (.slice x.S x.sn x.sc) := HX4.out.cell 5
        have d6 : w4.cell? ⟨v, 6, none⟩ = some (.int .i64 x.f.wt) := HX4.out.cell 6
        have d7 : w4.cell? ⟨v, 7, none⟩ = some (.int .i64 x.f.par) := HX4.out.cell 7
        have d8 : w4.cell? ⟨v, 8, none⟩ = some (.bool x.f.alone) := HX4.out.cell 8
        have d9 : w4.cell? ⟨v, 9, none⟩ = some (.int .i64 x.f.prom) := HX4.out.cell 9
        have d10 : w4.cell? ⟨v, 10, none⟩ = some (.int .i64 x.f.last) := HX4.out.cell 10
        have d11 : w4.cell? ⟨v, 11, none⟩ = some (.int .i64 x.f.code) := HX4.out.cell 11
        have d12 : w4.cell? ⟨v, 12, none⟩ = some (.int .i64 x.f.step) := HX4.out.cell 12
        go_wp2_with (first | ((with_reducible refine wpList_store_row (o := { dst := none, op := .store 30 (.tmp 12) (.tmp 90), type := _, pos := _, after := _, guard := none }) rfl 30 (.tmp 12) (.tmp 90) rfl p4 #[.int .i64 0, .int .i64 0, .int .i64 0, .int .i64 0, .slice D1 dn1 dc1, .slice S1 sn1 sc1, .int .i64 0, .int .i64 0, .bool false, .int .i64 0, .int .i64 0, .int .i64 0, .int .i64 0] ?_ ?_ 30 #[.int .i64 0, .int .i64 0, .int .i64 0, .int .i64 0, .slice none 0 0, .slice none 0 0, .int .i64 0, .int .i64 0, .bool false, .int .i64 0, .int .i64 0, .int .i64 0, .int .i64 0] ?_ ?_ ?_ ?_ ?_); rfl; rfl; exact HZ4.out; kernel_rfl; rfl; simp [Value.oneCell']) | ((with_reducible refine wpList_store_row (o := { dst := none, op := .store 30 (.tmp 9) (.tmp 100), type := _, pos := _, after := _, guard := none }) rfl 30 (.tmp 9) (.tmp 100) rfl p #[.int .i64 9, .int .i64 0, .int .i64 x.f.st, .int .i64 0, .slice none 0 0, .slice none 0 0, .int .i64 0, .int .i64 0, .bool false, .int .i64 0, .int .i64 0, .int .i64 0, .int .i64 0] ?_ ?_ 30 #[.int .i64 gf.ty, .int .i64 gf.fl, .int .i64 gf.st, .int .i64 gf.pad, .slice E zn e, .slice Sg sng scg, .int .i64 gf.wt, .int .i64 gf.par, .bool gf.alone, .int .i64 gf.prom, .int .i64 gf.last, .int .i64 gf.code, .int .i64 gf.step] ?_ ?_ ?_ ?_ ?_); rfl; rfl; exact HP4.out; kernel_rfl; rfl; simp [Value.oneCell']))
        go_roundw
        case rel => exact ⟨i + 1, _, r - zn, e - zn, k + zn, _, _, _, _, _, _, _, _, F', by first | rfl | simp, by go_num, by omega, hide (by have := HL.out; omega), HPN⟩
        case measure => simp [intOf]; omega
      · have hzr1 : (r : Int) < (zn : Int) := by omega
        have hzr2 : ¬ ((zn : Int) ≤ (r : Int)) := by omega
        have hm1 : r ≤ r := by omega
        have hm2 : r ≤ 2000 := by omega
        have g1 : ((r : Nat) : Int) ≤ (r : Int) := by omega
        have g2 : ((r : Nat) : Int) ≤ (e : Int) := by omega
        have g3 : (0 : Int) ≤ ((r : Nat) : Int) := by omega
        obtain ⟨wa, hwa⟩ : ∃ wa, wr.setCell ⟨p, 4, none⟩ (.slice E r e) = wa := ⟨_, rfl⟩
        have HWA := hide hwa
        have HASK := hide (HP.out.ask HL.out hm1 hwa)
        have h4 : wr.cell? ⟨p, 4, none⟩ = some (.slice Dg dng dcg) := HP.out.box.cell 4
        have fz4 : wr.frozen? ⟨p, 4, none⟩ = false := HP.out.box.free 4
        have b0 : wa.cell? ⟨p, 0, none⟩ = some (.int .i64 gf.ty) := HASK.out.box.cell 0
        have b1 : wa.cell? ⟨p, 1, none⟩ = some (.int .i64 gf.fl) := HASK.out.box.cell 1
        have b2 : wa.cell? ⟨p, 2, none⟩ = some (.int .i64 gf.st) := HASK.out.box.cell 2
        have b3 : wa.cell? ⟨p, 3, none⟩ = some (.int .i64 gf.pad) := HASK.out.box.cell 3
        have b4 : wa.cell? ⟨p, 4, none⟩ = some (.slice E r e) := HASK.out.box.cell 4
        have b5 : wa.cell? ⟨p, 5, none⟩ = some (.slice Sg sng scg) := HASK.out.box.cell 5
        have b6 : wa.cell? ⟨p, 6, none⟩ = some (.int .i64 gf.wt) := HASK.out.box.cell 6
        have b7 : wa.cell? ⟨p, 7, none⟩ = some (.int .i64 gf.par) := HASK.out.box.cell 7
        have b8 : wa.cell? ⟨p, 8, none⟩ = some (.bool gf.alone) := HASK.out.box.cell 8
        have b9 : wa.cell? ⟨p, 9, none⟩ = some (.int .i64 gf.prom) := HASK.out.box.cell 9
        have b10 : wa.cell? ⟨p, 10, none⟩ = some (.int .i64 gf.last) := HASK.out.box.cell 10
        have b11 : wa.cell? ⟨p, 11, none⟩ = some (.int .i64 gf.code) := HASK.out.box.cell 11
        have b12 : wa.cell? ⟨p, 12, none⟩ = some (.int .i64 gf.step) := HASK.out.box.cell 12
        have hop : Calls Try.prog 11 #[.pointer (some ⟨g, 0, none⟩), .agg #[.int .i64 gf.ty, .int .i64 gf.fl, .int .i64 gf.st, .int .i64 gf.pad, .slice E r e, .slice Sg sng scg, .int .i64 gf.wt, .int .i64 gf.par, .bool gf.alone, .int .i64 gf.prom, .int .i64 gf.last, .int .i64 gf.code, .int .i64 gf.step]] wa fun e' w' => ∃ (F' : List Nat) (D S : Option Addr) (dn dc sn sc : Nat), e' = .returned (.tuple #[.agg #[.int .i64 0, .int .i64 0, .int .i64 0, .int .i64 0, .slice D dn dc, .slice S sn sc, .int .i64 0, .int .i64 0, .bool false, .int .i64 0, .int .i64 0, .int .i64 0, .int .i64 0], .bool false, .int .i64 0]) ∧ AsmL w' g 2000 (fs ++ [{ gf with data := (b.drop k).take r }]) F' (fun b => b = p) ∧ Only F wa w' ∧ (∀ b ∈ F', b ∈ F ∨ wa.heap.size ≤ b) := by
          have hlen := HLD.out
          have := add_op g 2000 F (fun b => b = p) fs { gf with data := (b.drop k).take r } E Sg r e sng scg wa (fun b hb => by rw [hb]; exact HASK.out.lt) HASK.out.asm (by decide) (by decide) (by omega) (by omega) (by have := HP.out.sle; omega) HGF.out.2.1 (HASK.out.frm.mono (fun b _ hb hm => by have := HP.out.ge b hm; omega))
          rw [step_more HFL.out HP.out.st _ (by have h1 := HASK.out.frm.dl; dsimp only at h1; rw [h1]; omega)] at this
          exact this.mono (fun e' w' ⟨F', D, S, dn, dc, sn, sc, h1, h2, h3, h4, _⟩ => ⟨F', D, S, dn, dc, sn, sc, h1, h2, h3, h4⟩)
        have HOP := hide hop
        clear hop
        have jw := HJW.out.2
        obtain ⟨E1, hE1⟩ : ∃ E1, (if e = r then E else Option.map (fun x => x.add r) E) = E1 := ⟨_, rfl⟩
        have HE1 := hide hE1
        go_wp2_with fail
        refine HOP.out.mono ?_
        rintro e3 w3 ⟨F', D1, S1, dn1, dc1, sn1, sc1, rfl, hA3, hO3, hF3⟩
        clear jw hE1
        have HA3 := hide hA3
        have HO3 := hide hO3
        have HF3 := hide hF3
        have HX3 := hide (HASK.out.fst.only hO3 HP.out.vF)
        have HP3 := hide (HASK.out.box.only hO3 HP.out.pF)
        clear hA3 hO3 hF3 HOP hwa h4 fz4 b0 b1 b2 b3 b4 b5 b6 b7 b8 b9 b10 b11 b12
        obtain ⟨p4, hp4⟩ : ∃ p4, w3.heap.size = p4 := ⟨_, rfl⟩
        obtain ⟨z4, hz4⟩ : ∃ z4, w3.alloc (.cells #[.int .i64 0, .int .i64 0, .int .i64 0, .int .i64 0, .slice none 0 0, .slice none 0 0, .int .i64 0, .int .i64 0, .bool false, .int .i64 0, .int .i64 0, .int .i64 0, .int .i64 0] 30) = z4 := ⟨_, rfl⟩
        have HZ4 : Hid (Blk z4 p4 30 #[.int .i64 0, .int .i64 0, .int .i64 0, .int .i64 0, .slice none 0 0, .slice none 0 0, .int .i64 0, .int .i64 0, .bool false, .int .i64 0, .int .i64 0, .int .i64 0, .int .i64 0]) := hide (by rw [← hz4, ← hp4]; exact Blk.born _ _ _)
        obtain ⟨w4, hw4⟩ : ∃ w4, z4.setRow p4 #[.int .i64 0, .int .i64 0, .int .i64 0, .int .i64 0, .slice D1 dn1 dc1, .slice S1 sn1 sc1, .int .i64 0, .int .i64 0, .bool false, .int .i64 0, .int .i64 0, .int .i64 0, .int .i64 0] = w4 := ⟨_, rfl⟩
        have hb4 : Below w3.heap.size w3 w4 := by
          have h1 : Below w3.heap.size w3 z4 := by rw [← hz4]; exact (Below.refl _ _).alloc (Nat.le_refl _) _
          have h2 : Only [p4] z4 w4 := by rw [← hw4]; exact Only.setRow _ _ _ (List.mem_singleton.2 rfl)
          exact h1.trans (h2.below h1.size (fun b hb => by rw [List.mem_singleton.1 hb]; omega))
        have HT4 : Hid (Blk w4 p4 30 #[.int .i64 0, .int .i64 0, .int .i64 0, .int .i64 0, .slice D1 dn1 dc1, .slice S1 sn1 sc1, .int .i64 0, .int .i64 0, .bool false, .int .i64 0, .int .i64 0, .int .i64 0, .int .i64 0]) := hide (by rw [← hw4]; exact HZ4.out.setRow _)
        have HBE := hide hb4
        have HX4 := hide (HX3.out.kept hb4)
        have HP4 := hide (HP3.out.kept hb4)
        have HN4 : Hid (p ≠ p4) := hide (by have := HP3.out.lt; omega)
        clear hb4 HX3 HP3
        obtain ⟨w5, hw5⟩ : ∃ w5, w4.setRow p #[.int .i64 9, .int .i64 0, .int .i64 x.f.st, .int .i64 0, .slice none 0 0, .slice none 0 0, .int .i64 0, .int .i64 0, .bool false, .int .i64 0, .int .i64 0, .int .i64 0, .int .i64 0] = w5 := ⟨_, rfl⟩
        have HPN := hide (HP.out.next HL.out hm1 HWA.out HA3.out HO3.out HF3.out HBE.out hw5)
        rw [HE1.out] at HPN
        have d0 : w4.cell? ⟨v, 0, none⟩ = some (.int .i64 x.f.ty) := HX4.out.cell 0
        have d1 : w4.cell? ⟨v, 1, none⟩ = some (.int .i64 fl1) := HX4.out.cell 1
        have d2 : w4.cell? ⟨v, 2, none⟩ = some (.int .i64 x.f.st) := HX4.out.cell 2
        have d3 : w4.cell? ⟨v, 3, none⟩ = some (.int .i64 x.f.pad) := HX4.out.cell 3
        have d4 : w4.cell? ⟨v, 4, none⟩ = some (.slice x.D x.dn x.dc) := HX4.out.cell 4
        have d5 : w4.cell? ⟨v, 5, none⟩ = some (.slice x.S x.sn x.sc) := HX4.out.cell 5
        have d6 : w4.cell? ⟨v, 6, none⟩ = some (.int .i64 x.f.wt) := HX4.out.cell 6
        have d7 : w4.cell? ⟨v, 7, none⟩ = some (.int .i64 x.f.par) := HX4.out.cell 7
        have d8 : w4.cell? ⟨v, 8, none⟩ = some (.bool x.f.alone) := HX4.out.cell 8
        have d9 : w4.cell? ⟨v, 9, none⟩ = some (.int .i64 x.f.prom) := HX4.out.cell 9
        have d10 : w4.cell? ⟨v, 10, none⟩ = some (.int .i64 x.f.last) := HX4.out.cell 10
        have d11 : w4.cell? ⟨v, 11, none⟩ = some (.int .i64 x.f.code) := HX4.out.cell 11
        have d12 : w4.cell? ⟨v, 12, none⟩ = some (.int .i64 x.f.step) := HX4.out.cell 12
        go_wp2_with (first | ((with_reducible refine wpList_store_row (o := { dst := none, op := .store 30 (.tmp 12) (.tmp 90), type := _, pos := _, after := _, guard := none }) rfl 30 (.tmp 12) (.tmp 90) rfl p4 #[.int .i64 0, .int .i64 0, .int .i64 0, .int .i64 0, .slice D1 dn1 dc1, .slice S1 sn1 sc1, .int .i64 0, .int .i64 0, .bool false, .int .i64 0, .int .i64 0, .int .i64 0, .int .i64 0] ?_ ?_ 30 #[.int .i64 0, .int .i64 0, .int .i64 0, .int .i64 0, .slice none 0 0, .slice none 0 0, .int .i64 0, .int .i64 0, .bool false, .int .i64 0, .int .i64 0, .int .i64 0, .int .i64 0] ?_ ?_ ?_ ?_ ?_); rfl; rfl; exact HZ4.out; kernel_rfl; rfl; simp [Value.oneCell']) | ((with_reducible refine wpList_store_row (o := { dst := none, op := .store 30 (.tmp 9) (.tmp 100), type := _, pos := _, after := _, guard := none }) rfl 30 (.tmp 9) (.tmp 100) rfl p #[.int .i64 9, .int .i64 0, .int .i64 x.f.st, .int .i64 0, .slice none 0 0, .slice none 0 0, .int .i64 0, .int .i64 0, .bool false, .int .i64 0, .int .i64 0, .int .i64 0, .int .i64 0] ?_ ?_ 30 #[.int .i64 gf.ty, .int .i64 gf.fl, .int .i64 gf.st, .int .i64 gf.pad, .slice E r e, .slice Sg sng scg, .int .i64 gf.wt, .int .i64 gf.par, .bool gf.alone, .int .i64 gf.prom, .int .i64 gf.last, .int .i64 gf.code, .int .i64 gf.step] ?_ ?_ ?_ ?_ ?_); rfl; rfl; exact HP4.out; kernel_rfl; rfl; simp [Value.oneCell']))
        go_roundw
        case rel => exact ⟨i + 1, _, r - r, e - r, k + r, _, _, _, _, _, _, _, _, F', by first | rfl | simp, by go_num, by omega, hide (by have := HL.out; omega), HPN⟩
        case measure => simp [intOf]; omega
    · have HQW := hide (wrap_small (x := gf.fl + 4) (by have h1 := HGF.out; omega) (by have h1 := HGF.out; omega))
      obtain ⟨wa, hwa⟩ : ∃ wa, wr.setCell ⟨p, 4, none⟩ (.slice E r e) = wa := ⟨_, rfl⟩
      obtain ⟨wb, hwb⟩ : ∃ wb, wa.setCell ⟨p, 1, none⟩ (.int .i64 (gf.fl + 4)) = wb := ⟨_, rfl⟩
      have HA1 := hide (HP.out.ask HL.out (Nat.le_refl _) hwa)
      have HASK := hide (HP.out.ask2 HL.out hwa hwb)
      have h4 : wr.cell? ⟨p, 4, none⟩ = some (.slice Dg dng dcg) := HP.out.box.cell 4
      have h1 : wa.cell? ⟨p, 1, none⟩ = some (.int .i64 gf.fl) := HA1.out.box.cell 1
      have fz4 : wr.frozen? ⟨p, 4, none⟩ = false := HP.out.box.free 4
      have fz1 : wa.frozen? ⟨p, 1, none⟩ = false := HA1.out.box.free 1
      have b0 : wb.cell? ⟨p, 0, none⟩ = some (.int .i64 gf.ty) := HASK.out.box.cell 0
      have b1 : wb.cell? ⟨p, 1, none⟩ = some (.int .i64 (gf.fl + 4)) := HASK.out.box.cell 1
      have b2 : wb.cell? ⟨p, 2, none⟩ = some (.int .i64 gf.st) := HASK.out.box.cell 2
      have b3 : wb.cell? ⟨p, 3, none⟩ = some (.int .i64 gf.pad) := HASK.out.box.cell 3
      have b4 : wb.cell? ⟨p, 4, none⟩ = some (.slice E r e) := HASK.out.box.cell 4
      have b5 : wb.cell? ⟨p, 5, none⟩ = some (.slice Sg sng scg) := HASK.out.box.cell 5
      have b6 : wb.cell? ⟨p, 6, none⟩ = some (.int .i64 gf.wt) := HASK.out.box.cell 6
      have b7 : wb.cell? ⟨p, 7, none⟩ = some (.int .i64 gf.par) := HASK.out.box.cell 7
      have b8 : wb.cell? ⟨p, 8, none⟩ = some (.bool gf.alone) := HASK.out.box.cell 8
      have b9 : wb.cell? ⟨p, 9, none⟩ = some (.int .i64 gf.prom) := HASK.out.box.cell 9
      have b10 : wb.cell? ⟨p, 10, none⟩ = some (.int .i64 gf.last) := HASK.out.box.cell 10
      have b11 : wb.cell? ⟨p, 11, none⟩ = some (.int .i64 gf.code) := HASK.out.box.cell 11
      have b12 : wb.cell? ⟨p, 12, none⟩ = some (.int .i64 gf.step) := HASK.out.box.cell 12
      obtain ⟨rr, hst, hrd, hrs, hrt, hrp⟩ := step_last HFL.out HP.out.st (b.drop k) (by have h1 := HLD.out; have h2 := HL.out; rw [List.length_drop]; omega)
      have HRD : Hid (rr.data = b) := hide (by rw [hrd, HP.out.all, List.take_append_drop])
      have r2 : (rr.st == x.f.st) = true := by rw [hrs]; simp
      have r0 : (rr.ty == x.f.ty) = true := by rw [hrt]; simp
      have r9 : (rr.prom == x.f.prom) = true := by rw [hrp]; simp
      have hop : Calls Try.prog 11 #[.pointer (some ⟨g, 0, none⟩), .agg #[.int .i64 gf.ty, .int .i64 (gf.fl + 4), .int .i64 gf.st, .int .i64 gf.pad, .slice E r e, .slice Sg sng scg, .int .i64 gf.wt, .int .i64 gf.par, .bool gf.alone, .int .i64 gf.prom, .int .i64 gf.last, .int .i64 gf.code, .int .i64 gf.step]] wb fun e' w' => ∃ (F' : List Nat) (D S : Option Addr) (dn dc sn sc : Nat), e' = .returned (.tuple #[.agg #[.int .i64 rr.ty, .int .i64 rr.fl, .int .i64 rr.st, .int .i64 rr.pad, .slice D dn dc, .slice S sn sc, .int .i64 rr.wt, .int .i64 rr.par, .bool rr.alone, .int .i64 rr.prom, .int .i64 rr.last, .int .i64 rr.code, .int .i64 rr.step], .bool true, .int .i64 0]) ∧ AsmL w' g 2000 [] F' (fun b => b = p) ∧ Only F wb w' ∧ (∀ b ∈ F', b ∈ F ∨ wb.heap.size ≤ b) ∧ FS w' (fun b => b ∉ F') rr D dn dc S sn sc := by
        have hlen := HLD.out
        have := add_op g 2000 F (fun b => b = p) fs { { gf with fl := gf.fl + 4 } with data := b.drop k } E Sg r e sng scg wb (fun b hb => by rw [hb]; exact HASK.out.lt) HASK.out.asm (by decide) (by decide) (by omega) (by omega) (by have := HP.out.sle; omega) (by have h1 := HGF.out; dsimp only; omega) (HASK.out.frm.mono (fun b _ hb hm => by have := HP.out.ge b hm; omega))
        have he : stepL 2000 fs { { gf with fl := gf.fl + 4 } with data := b.drop k } = ([], rr, true, 0) := hst
        rw [he] at this
        exact this
      have HOP := hide hop
      clear hop hst hrd hrs hrt hrp
      have q1 := HQW.out.2
      go_wp2_with fail
      refine HOP.out.mono ?_
      rintro e3 w3 ⟨F', D1, S1, dn1, dc1, sn1, sc1, rfl, hA3, hO3, hF3, hf3⟩
      clear q1
      have HA3 := hide hA3
      have HX3 := hide (HASK.out.fst.only hO3 HP.out.vF)
      have HF3 := hide hf3
      have HB3 : Hid (Below w.heap.size w w3) := hide (HASK.out.bel.trans (hO3.below HASK.out.bel.size HP.out.ge))
      clear hA3 hO3 hF3 hf3 HOP hwa hwb h4 h1 fz4 fz1 b0 b1 b2 b3 b4 b5 b6 b7 b8 b9 b10 b11 b12
      obtain ⟨p6, hp6⟩ : ∃ p6, w3.heap.size = p6 := ⟨_, rfl⟩
      obtain ⟨z6, hz6⟩ : ∃ z6, w3.alloc (.cells #[.int .i64 0, .int .i64 0, .int .i64 0, .int .i64 0, .slice none 0 0, .slice none 0 0, .int .i64 0, .int .i64 0, .bool false, .int .i64 0, .int .i64 0, .int .i64 0, .int .i64 0] 30) = z6 := ⟨_, rfl⟩
      have HZ6 : Hid (Blk z6 p6 30 #[.int .i64 0, .int .i64 0, .int .i64 0, .int .i64 0, .slice none 0 0, .slice none 0 0, .int .i64 0, .int .i64 0, .bool false, .int .i64 0, .int .i64 0, .int .i64 0, .int .i64 0]) := hide (by rw [← hz6, ← hp6]; exact Blk.born _ _ _)
      obtain ⟨w6, hw6⟩ : ∃ w6, z6.setRow p6 #[.int .i64 rr.ty, .int .i64 rr.fl, .int .i64 rr.st, .int .i64 rr.pad, .slice D1 dn1 dc1, .slice S1 sn1 sc1, .int .i64 rr.wt, .int .i64 rr.par, .bool rr.alone, .int .i64 rr.prom, .int .i64 rr.last, .int .i64 rr.code, .int .i64 rr.step] = w6 := ⟨_, rfl⟩
      have hb6 : Below w3.heap.size w3 w6 := by
        have h1 : Below w3.heap.size w3 z6 := by rw [← hz6]; exact (Below.refl _ _).alloc (Nat.le_refl _) _
        have h2 : Only [p6] z6 w6 := by rw [← hw6]; exact Only.setRow _ _ _ (List.mem_singleton.2 rfl)
        exact h1.trans (h2.below h1.size (fun b hb => by rw [List.mem_singleton.1 hb]; omega))
      have HT6 : Hid (Blk w6 p6 30 #[.int .i64 rr.ty, .int .i64 rr.fl, .int .i64 rr.st, .int .i64 rr.pad, .slice D1 dn1 dc1, .slice S1 sn1 sc1, .int .i64 rr.wt, .int .i64 rr.par, .bool rr.alone, .int .i64 rr.prom, .int .i64 rr.last, .int .i64 rr.code, .int .i64 rr.step]) := hide (by rw [← hw6]; exact HZ6.out.setRow _)
      have HX6 := hide (HX3.out.kept hb6)
      have HA6 := hide (HA3.out.kept hb6)
      have HF6 := hide (HF3.out.kept hb6)
      have HB6 : Hid (Below w.heap.size w w6) := hide (below_nextB HB3.out HB3.out.size hb6)
      clear hb6 HX3 HA3 HF3 HB3
      have h13 : Calls Try.prog 13 #[.pointer (some ⟨g, 0, none⟩)] w6 fun e w' => e = .returned (.tuple #[.int .i64 0, .bool false]) ∧ w6 = w' := by
        obtain ⟨c1, c4⟩ := asmL_heads HA6.out
        exact open_any g _ _ w6 c1 c4
      have HSAME : Hid (Calls Try.prog 16 #[.slice D1 dn1 dc1, .slice A1 n1 c1] w6 fun e w' => e = .returned (.bool true) ∧ Below w6.heap.size w6 w') := hide (by
        have hdn := HF6.out.dl
        have hbn := HBL.out
        rw [HRD.out] at hdn
        obtain rfl : dn1 = n1 := by omega
        have hse := HF6.out.d.sees.sees
        rw [HRD.out] at hse
        exact same16 D1 A1 dn1 dc1 c1 b w6 hbn (by omega) hse (HBS.out w6 HB6.out))
      have d0 : w6.cell? ⟨p6, 0, none⟩ = some (.int .i64 rr.ty) := HT6.out.cell 0
      have d1 : w6.cell? ⟨p6, 1, none⟩ = some (.int .i64 rr.fl) := HT6.out.cell 1
      have d2 : w6.cell? ⟨p6, 2, none⟩ = some (.int .i64 rr.st) := HT6.out.cell 2
      have d3 : w6.cell? ⟨p6, 3, none⟩ = some (.int .i64 rr.pad) := HT6.out.cell 3
      have d4 : w6.cell? ⟨p6, 4, none⟩ = some (.slice D1 dn1 dc1) := HT6.out.cell 4
      have d5 : w6.cell? ⟨p6, 5, none⟩ = some (.slice S1 sn1 sc1) := HT6.out.cell 5
      have d6 : w6.cell? ⟨p6, 6, none⟩ = some (.int .i64 rr.wt) := HT6.out.cell 6
      have d7 : w6.cell? ⟨p6, 7, none⟩ = some (.int .i64 rr.par) := HT6.out.cell 7
      have d8 : w6.cell? ⟨p6, 8, none⟩ = some (.bool rr.alone) := HT6.out.cell 8
      have d9 : w6.cell? ⟨p6, 9, none⟩ = some (.int .i64 rr.prom) := HT6.out.cell 9
      have d10 : w6.cell? ⟨p6, 10, none⟩ = some (.int .i64 rr.last) := HT6.out.cell 10
      have d11 : w6.cell? ⟨p6, 11, none⟩ = some (.int .i64 rr.code) := HT6.out.cell 11
      have d12 : w6.cell? ⟨p6, 12, none⟩ = some (.int .i64 rr.step) := HT6.out.cell 12
      have HO13 := hide h13
      clear h13
      go_wp2_with (first | ((with_reducible refine wpList_store_row (o := { dst := none, op := .store 30 (.tmp 15) (.tmp 111), type := _, pos := _, after := _, guard := none }) rfl 30 (.tmp 15) (.tmp 111) rfl p6 #[.int .i64 rr.ty, .int .i64 rr.fl, .int .i64 rr.st, .int .i64 rr.pad, .slice D1 dn1 dc1, .slice S1 sn1 sc1, .int .i64 rr.wt, .int .i64 rr.par, .bool rr.alone, .int .i64 rr.prom, .int .i64 rr.last, .int .i64 rr.code, .int .i64 rr.step] ?_ ?_ 30 #[.int .i64 0, .int .i64 0, .int .i64 0, .int .i64 0, .slice none 0 0, .slice none 0 0, .int .i64 0, .int .i64 0, .bool false, .int .i64 0, .int .i64 0, .int .i64 0, .int .i64 0] ?_ ?_ ?_ ?_ ?_); rfl; rfl; exact HZ6.out; kernel_rfl; rfl; simp [Value.oneCell']) | (go_at_call 13; refine HO13.out.mono ?_; rintro e w7 ⟨rfl, rfl⟩))
      refine HSAME.out.mono ?_
      rintro e7 w7 ⟨rfl, hb⟩
      have HX7 := hide (HX6.out.kept hb)
      have HT7 := hide (HT6.out.kept hb)
      have HB7 := hide (below_nextB HB6.out HB6.out.size hb)
      clear hb HX6 HT6 d0 d1 d2 d3 d4 d5 d6 d7 d8 d9 d10 d11 d12
      have f0 : w7.cell? ⟨p6, 0, none⟩ = some (.int .i64 rr.ty) := HT7.out.cell 0
      have f1 : w7.cell? ⟨p6, 1, none⟩ = some (.int .i64 rr.fl) := HT7.out.cell 1
      have f2 : w7.cell? ⟨p6, 2, none⟩ = some (.int .i64 rr.st) := HT7.out.cell 2
      have f3 : w7.cell? ⟨p6, 3, none⟩ = some (.int .i64 rr.pad) := HT7.out.cell 3
      have f4 : w7.cell? ⟨p6, 4, none⟩ = some (.slice D1 dn1 dc1) := HT7.out.cell 4
      have f5 : w7.cell? ⟨p6, 5, none⟩ = some (.slice S1 sn1 sc1) := HT7.out.cell 5
      have f6 : w7.cell? ⟨p6, 6, none⟩ = some (.int .i64 rr.wt) := HT7.out.cell 6
      have f7 : w7.cell? ⟨p6, 7, none⟩ = some (.int .i64 rr.par) := HT7.out.cell 7
      have f8 : w7.cell? ⟨p6, 8, none⟩ = some (.bool rr.alone) := HT7.out.cell 8
      have f9 : w7.cell? ⟨p6, 9, none⟩ = some (.int .i64 rr.prom) := HT7.out.cell 9
      have f10 : w7.cell? ⟨p6, 10, none⟩ = some (.int .i64 rr.last) := HT7.out.cell 10
      have f11 : w7.cell? ⟨p6, 11, none⟩ = some (.int .i64 rr.code) := HT7.out.cell 11
      have f12 : w7.cell? ⟨p6, 12, none⟩ = some (.int .i64 rr.step) := HT7.out.cell 12
      have i0 : w7.cell? ⟨v, 0, none⟩ = some (.int .i64 x.f.ty) := HX7.out.cell 0
      have i1 : w7.cell? ⟨v, 1, none⟩ = some (.int .i64 fl1) := HX7.out.cell 1
      have i2 : w7.cell? ⟨v, 2, none⟩ = some (.int .i64 x.f.st) := HX7.out.cell 2
      have i3 : w7.cell? ⟨v, 3, none⟩ = some (.int .i64 x.f.pad) := HX7.out.cell 3
      have i4 : w7.cell? ⟨v, 4, none⟩ = some (.slice x.D x.dn x.dc) := HX7.out.cell 4
      have i5 : w7.cell? ⟨v, 5, none⟩ = some (.slice x.S x.sn x.sc) := HX7.out.cell 5
      have i6 : w7.cell? ⟨v, 6, none⟩ = some (.int .i64 x.f.wt) := HX7.out.cell 6
      have i7 : w7.cell? ⟨v, 7, none⟩ = some (.int .i64 x.f.par) := HX7.out.cell 7
      have i8 : w7.cell? ⟨v, 8, none⟩ = some (.bool x.f.alone) := HX7.out.cell 8
      have i9 : w7.cell? ⟨v, 9, none⟩ = some (.int .i64 x.f.prom) := HX7.out.cell 9
      have i10 : w7.cell? ⟨v, 10, none⟩ = some (.int .i64 x.f.last) := HX7.out.cell 10
      have i11 : w7.cell? ⟨v, 11, none⟩ = some (.int .i64 x.f.code) := HX7.out.cell 11
      have i12 : w7.cell? ⟨v, 12, none⟩ = some (.int .i64 x.f.step) := HX7.out.cell 12
      go_wp2_with fail
      refine (alive_any _).mono ?_
      rintro e8 w8 ⟨rfl, hb⟩
      have HB8 := hide (below_nextB HB7.out HB7.out.size hb)
      clear hb
      go_wp2_with fail
      go_ret
      exact ⟨rfl, HB8.out⟩

theorem parts_any (x : FV) (A1 A2 : Option Addr) (n1 c1 n2 c2 : Nat) (b cu : List Int) (w : World) (hin : FIn w x) (hbl : b.length = n1) (hbm : c1 ≤ maxLen) (hbn : A1 = none → n1 = 0 ∧ c1 = 0) (hbc : n1 ≤ c1) (hbs : Sees w A1 (u8s b)) (hbr : ∀ z ∈ b, 0 ≤ z ∧ z ≤ 255) (hcl : cu.length = n2) (hcm : c2 ≤ maxLen) (hcn : A2 = none → n2 = 0 ∧ c2 = 0) (hcc : n2 ≤ c2) (hcs : Sees w A2 (u8s cu)) (hcr : ∀ z ∈ cu, 0 ≤ z ∧ z ≤ 255) : Calls Try.prog 4 #[.agg #[.int .i64 x.f.ty, .int .i64 x.f.fl, .int .i64 x.f.st, .int .i64 x.f.pad, .slice x.D x.dn x.dc, .slice x.S x.sn x.sc, .int .i64 x.f.wt, .int .i64 x.f.par, .bool x.f.alone, .int .i64 x.f.prom, .int .i64 x.f.last, .int .i64 x.f.code, .int .i64 x.f.step], .slice A1 n1 c1, .slice A2 n2 c2] w fun e w' => e = .returned (.bool true) ∧ Below w.heap.size w w' := by
  by_cases h : 2000 < n1 ∨ 60 < n2 ∨ (decide (2000 < x.dn) || decide (100 < x.sn)) = true ∨ ((x.f.ty != 1) = true ∧ (x.f.ty != 5) = true) ∨ x.f.fl < 0 ∨ 255 < x.f.fl
  · exact parts_far x A1 A2 n1 c1 n2 c2 b cu w hin (by omega) (by omega) h
  · simp only [not_or, Bool.or_eq_true, decide_eq_true_eq, bne_iff_ne, ne_eq, not_and, Decidable.not_not] at h
    obtain ⟨h1, h2, ⟨h3, h4⟩, h5, h6, h7⟩ := h
    refine parts_near x A1 A2 n1 c1 n2 c2 b cu w hin hbl hbm hbn hbc hbs hcl hcs hcr (by omega) (by omega) (by omega) (by omega) ?_ (by omega) (by omega)
    by_cases h8 : x.f.ty = 1
    · exact .inl h8
    · exact .inr (h5 h8)
end Go.Proofs.Ytpjibdnoiioaoaa
