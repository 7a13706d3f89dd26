/- The walk of the law BlockPlays. -/
import Derived.Test.YtpjibdnoiioaoaaY
namespace Go.Proofs.Ytpjibdnoiioaoaa
open Go.RowKit
set_option linter.unusedSimpArgs false
set_option linter.unusedVariables false

/-- Both sides in the midst. -/
structure Duo (w0 w : World) (g : Nat) (M : Int) (A : Option Addr) (n c : Nat) (l : List FV) (F : List Nat) : Prop where
  a : AsmL w g M (l.map (·.f)) F NoG
  r : RowF w (fun b => b ∉ F) A n c l
  ge : ∀ b ∈ F, w0.heap.size ≤ b
  bel : Below w0.heap.size w0 w
theorem Duo.kept {w0 w w' : World} {g : Nat} {M : Int} {A : Option Addr} {n c : Nat} {l : List FV} {F : List Nat} (h : Duo w0 w g M A n c l F) (hb : Below w.heap.size w w') : Duo w0 w' g M A n c l F :=
  ⟨h.a.kept hb, h.r.kept hb, h.ge, below_nextB h.bel h.bel.size hb⟩
theorem step_len (M : Int) (fs : List Fr) (f : Fr) : (stepL M fs f).1.length ≤ fs.length + 1 ∧ (allD (stepL M fs f).1).length ≤ (allD fs).length + f.data.length := by
  unfold stepL
  split
  · exact ⟨Nat.le_succ _, Nat.le_add_right _ _⟩
  split
  · exact ⟨Nat.le_succ _, Nat.le_add_right _ _⟩
  split
  · exact ⟨Nat.le_succ _, Nat.le_add_right _ _⟩
  split
  · exact ⟨Nat.zero_le _, Nat.zero_le _⟩
  · dsimp only
    rw [allD_snoc, List.length_append, List.length_append]
    exact ⟨Nat.le_refl _, Nat.le_refl _⟩

theorem step_sets (M : Int) (fs : List Fr) (f : Fr) (h : ∀ y ∈ fs, y.sets.length ≤ 100) (hf : f.sets.length ≤ 100) : (∀ y ∈ (stepL M fs f).1, y.sets.length ≤ 100) ∧ (stepL M fs f).2.1.sets.length ≤ 100 ∧ (stepL M fs f).2.1.data.length ≤ (allD fs).length + f.data.length := by
  unfold stepL
  split
  · exact ⟨h, Nat.zero_le _, Nat.zero_le _⟩
  split
  · exact ⟨h, Nat.zero_le _, Nat.zero_le _⟩
  split
  · exact ⟨h, Nat.zero_le _, Nat.zero_le _⟩
  split
  · refine ⟨(fun y hy => by cases hy), ?_, ?_⟩
    · cases fs with
      | nil => exact hf
      | cons a t => exact h a (List.mem_cons_self ..)
    · cases fs with
      | nil => exact Nat.le_add_left _ _
      | cons a t => exact Nat.le_of_eq (List.length_append ..)
  · refine ⟨fun y hy => ?_, Nat.zero_le _, Nat.zero_le _⟩
    dsimp only at hy
    rw [List.mem_append, List.mem_singleton] at hy
    rcases hy with hy | rfl
    · exact h y hy
    · exact hf
set_option maxRecDepth 100000 in
set_option maxHeartbeats 16000000 in
theorem plays_any (u : Int) (A0 : Option Addr) (N c0 : Nat) (l0 : List FV) (w : World) (hu0 : -9223372036854775808 ≤ u) (hu1 : u ≤ 9223372036854775807) (hn : N ≤ maxLen) (hl : RowF w (fun b => b < w.heap.size) A0 N c0 l0) (hin : ∀ x ∈ l0, FIn w x) :
    Calls Try.prog 3 #[.int .i64 u, .slice A0 N c0] w fun e w' => e = .returned (.bool true) ∧ Below w.heap.size w w' := by
  have HL := hide hl
  have HIN := hide hin
  clear hl hin
  go_enter Try.func3, Try.ntmps3
  go_wp2_with fail
  refine (large_any A0 N c0 l0 w hn HL.out HIN.out).mono ?_
  rintro e w1 ⟨q, rfl, hq, hb⟩
  have HQ := hide hq
  have HB1 := hide hb
  clear hq hb
  cases q
  case true =>
    go_wp2_with fail
    refine (alive_any _).mono ?_
    rintro e w2 ⟨rfl, hb⟩
    have HB2 := hide (below_nextB HB1.out HB1.out.size hb)
    clear hb
    go_wp2_with fail
    go_ret
    exact ⟨rfl, HB2.out⟩
  case false =>
    have hN := (HQ.out rfl).1
    have HSM := hide (HQ.out rfl).2
    clear HQ
    obtain ⟨M, hM⟩ : ∃ M, (if u < 0 then 0 else u) = M := ⟨_, rfl⟩
    have HM := hide hM
    have HM0 : Hid (0 ≤ M ∧ M ≤ 9223372036854775807) := hide (by rw [← hM]; split <;> omega)
    clear hM
    have hnew := new_any u M w1 HM.out.symm
    go_wp2_with fail
    refine hnew.mono ?_
    rintro e w2 ⟨rfl, hA, hb⟩
    obtain ⟨g, hg⟩ : ∃ g, w1.heap.size = g := ⟨_, rfl⟩
    rw [hg] at hA ⊢
    have HD0 : Hid (Duo w w2 g M none 0 0 [] [g]) := hide ⟨AsmL.fresh hA, RowF.nil _ _, fun b hb => by rw [List.mem_singleton.1 hb, ← hg]; exact HB1.out.size, below_nextB HB1.out HB1.out.size hb⟩
    clear hA hb hg hnew
    go_wp2_with fail
    go_loopw [6, 28] (fun ov iv wr => ∃ (i n c : Nat) (A : Option Addr) (l : List FV) (F : List Nat), ov = .slice A n c ∧ iv = .int .i64 (i : Nat) ∧ i ≤ N ∧ Hid (Duo w wr g M A n c l F) ∧ Hid (n ≤ i ∧ (allD (l.map (·.f))).length ≤ 2000 * i ∧ ∀ y ∈ l.map (·.f), y.sets.length ≤ 100)) (fun _ iv _ => N - (intOf iv).toNat)
    case atStart => exact ⟨0, 0, 0, none, [], [g], rfl, rfl, Nat.zero_le _, HD0, hide ⟨Nat.le_refl _, Nat.le_refl _, fun y hy => by cases hy⟩⟩
    case round =>
      obtain ⟨i, n, c, A, l, F, rfl, rfl, hi, HD, HS⟩ := hrel
      by_cases hlt : i < N
      · have hil : i < l0.length := by have := HL.out.num; omega
        obtain ⟨x, hx⟩ : ∃ x, l0[i]? = some x := ⟨_, List.getElem?_eq_getElem hil⟩
        have hmem := List.mem_of_getElem? hx
        obtain ⟨ga, oa, rfl, _, hcs⟩ := (HL.out.kept HD.out.bel).at hx
        have k0 : wr.cell? ⟨ga, oa + i * 13, none⟩ = some (.int .i64 x.f.ty) := by have := hcs 0 _ rfl; simpa using this
        have k1 : wr.cell? ⟨ga, oa + i * 13 + 1, none⟩ = some (.int .i64 x.f.fl) := by rw [Nat.add_assoc]; exact hcs 1 _ rfl
        have k2 : wr.cell? ⟨ga, oa + i * 13 + 2, none⟩ = some (.int .i64 x.f.st) := by rw [Nat.add_assoc]; exact hcs 2 _ rfl
        have k3 : wr.cell? ⟨ga, oa + i * 13 + 3, none⟩ = some (.int .i64 x.f.pad) := by rw [Nat.add_assoc]; exact hcs 3 _ rfl
        have k4 : wr.cell? ⟨ga, oa + i * 13 + 4, none⟩ = some (.slice x.D x.dn x.dc) := by rw [Nat.add_assoc]; exact hcs 4 _ rfl
        have k5 : wr.cell? ⟨ga, oa + i * 13 + 5, none⟩ = some (.slice x.S x.sn x.sc) := by rw [Nat.add_assoc]; exact hcs 5 _ rfl
        have k6 : wr.cell? ⟨ga, oa + i * 13 + 6, none⟩ = some (.int .i64 x.f.wt) := by rw [Nat.add_assoc]; exact hcs 6 _ rfl
        have k7 : wr.cell? ⟨ga, oa + i * 13 + 7, none⟩ = some (.int .i64 x.f.par) := by rw [Nat.add_assoc]; exact hcs 7 _ rfl
        have k8 : wr.cell? ⟨ga, oa + i * 13 + 8, none⟩ = some (.bool x.f.alone) := by rw [Nat.add_assoc]; exact hcs 8 _ rfl
        have k9 : wr.cell? ⟨ga, oa + i * 13 + 9, none⟩ = some (.int .i64 x.f.prom) := by rw [Nat.add_assoc]; exact hcs 9 _ rfl
        have k10 : wr.cell? ⟨ga, oa + i * 13 + 10, none⟩ = some (.int .i64 x.f.last) := by rw [Nat.add_assoc]; exact hcs 10 _ rfl
        have k11 : wr.cell? ⟨ga, oa + i * 13 + 11, none⟩ = some (.int .i64 x.f.code) := by rw [Nat.add_assoc]; exact hcs 11 _ rfl
        have k12 : wr.cell? ⟨ga, oa + i * 13 + 12, none⟩ = some (.int .i64 x.f.step) := by rw [Nat.add_assoc]; exact hcs 12 _ rfl
        obtain ⟨hd2, hs2⟩ := HSM.out x hmem
        have HFI := hide (HIN.out x hmem)
        have HFX : Hid (x.ok wr (fun b => b < w.heap.size)) := hide (FV.ok_kept (HIN.out x hmem).ok HD.out.bel)
        obtain ⟨hn1, hal, hset⟩ := HS.out
        have HSET := hide hset
        clear hset
        have HNUM := hide HD.out.r.num
        have i1 : (i : Int) < (N : Int) := by omega
        have i3 : (0 : Int) ≤ (i : Int) := by omega
        clear hcs hx hil hmem
        obtain ⟨v, hv⟩ : ∃ v, wr.heap.size = v := ⟨_, rfl⟩
        obtain ⟨W1, hW1⟩ : ∃ W1, wr.alloc (.cells #[.int .i64 x.f.ty, .int .i64 x.f.fl, .int .i64 x.f.st, .int .i64 x.f.pad, .slice x.D x.dn x.dc, .slice x.S x.sn x.sc, .int .i64 x.f.wt, .int .i64 x.f.par, .bool x.f.alone, .int .i64 x.f.prom, .int .i64 x.f.last, .int .i64 x.f.code, .int .i64 x.f.step] 30) = W1 := ⟨_, rfl⟩
        have hb1 : Below wr.heap.size wr W1 := by rw [← hW1]; exact (Below.refl _ _).alloc (Nat.le_refl _) _
        have HX1 : Hid (Blk W1 v 30 #[.int .i64 x.f.ty, .int .i64 x.f.fl, .int .i64 x.f.st, .int .i64 x.f.pad, .slice x.D x.dn x.dc, .slice x.S x.sn x.sc, .int .i64 x.f.wt, .int .i64 x.f.par, .bool x.f.alone, .int .i64 x.f.prom, .int .i64 x.f.last, .int .i64 x.f.code, .int .i64 x.f.step]) := hide (by rw [← hW1, ← hv]; exact Blk.born _ _ _)
        have HD1 := hide (HD.out.kept hb1)
        have HFX1 := hide (FV.ok_kept HFX.out hb1)
        have HVF : Hid (v ∉ F ∧ w.heap.size ≤ v) := hide ⟨fun hm => by have := HD.out.a.lt v hm; omega, by rw [← hv]; exact HD.out.bel.size⟩
        clear hb1
        obtain ⟨fs, hfs⟩ : ∃ fs, l.map (·.f) = fs := ⟨_, rfl⟩
        have HFSS := hide hfs
        obtain ⟨tb, htb⟩ : ∃ tb, takesB fs x.f = tb := ⟨_, rfl⟩
        have HT9 : ∀ wq, Below W1.heap.size W1 wq → Hid (Calls Try.prog 9 #[.pointer (some ⟨g, 0, none⟩), .agg #[.int .i64 x.f.ty, .int .i64 x.f.fl, .int .i64 x.f.st, .int .i64 x.f.pad, .slice x.D x.dn x.dc, .slice x.S x.sn x.sc, .int .i64 x.f.wt, .int .i64 x.f.par, .bool x.f.alone, .int .i64 x.f.prom, .int .i64 x.f.last, .int .i64 x.f.code, .int .i64 x.f.step]] wq fun e w' => e = .returned (.bool tb) ∧ Below wq.heap.size wq w') := fun wq hq => hide (by
          obtain ⟨c1, c4⟩ := asmL_heads (HD1.out.a.kept hq)
          have := takes_any x.f x.D x.S x.dn x.dc x.sn x.sc g _ _ wq c1 c4
          rw [takes_onL, hfs, htb] at this
          exact this)
        have HT10 : ∀ wq, Below W1.heap.size W1 wq → Hid (Calls Try.prog 10 #[.slice A n c, .agg #[.int .i64 x.f.ty, .int .i64 x.f.fl, .int .i64 x.f.st, .int .i64 x.f.pad, .slice x.D x.dn x.dc, .slice x.S x.sn x.sc, .int .i64 x.f.wt, .int .i64 x.f.par, .bool x.f.alone, .int .i64 x.f.prom, .int .i64 x.f.last, .int .i64 x.f.code, .int .i64 x.f.step]] wq fun e w' => e = .returned (.bool tb) ∧ Below wq.heap.size wq w') := fun wq hq => hide (by
          have hr := HD1.out.r.kept hq
          have hh : 0 < n → ∃ g o, A = some ⟨g, o, none⟩ ∧ wq.cell? ⟨g, o + 2, none⟩ = some (.int .i64 (stL (l.map (·.f)))) := fun h0 => by
            obtain ⟨y, hy⟩ : ∃ y, l[0]? = some y := ⟨_, List.getElem?_eq_getElem (by have := HNUM.out; omega)⟩
            obtain ⟨g', o, e, _, hc⟩ := hr.at hy
            refine ⟨g', o, e, ?_⟩
            have := hc 2 _ rfl
            rw [Nat.zero_mul, Nat.zero_add] at this
            rw [this]
            cases l with
            | nil => simp at hy
            | cons z t => simp at hy; subst hy; rfl
          have := rtakes_any x.f x.D x.S x.dn x.dc x.sn x.sc A n c _ wq (by omega) hh
          have hon : decide (0 < n) = onL (l.map (·.f)) := by
            have hnum := HNUM.out
            cases l with
            | nil => simp at hnum; subst hnum; rfl
            | cons z t => simp at hnum; subst hnum; simp [onL]
          rw [hon, takes_onL, hfs, htb] at this
          exact this)
        have HC : Hid (∀ wq, Below W1.heap.size W1 wq → wq.cell? ⟨v, 0, none⟩ = some (.int .i64 x.f.ty) ∧ wq.cell? ⟨v, 1, none⟩ = some (.int .i64 x.f.fl) ∧ wq.cell? ⟨v, 2, none⟩ = some (.int .i64 x.f.st) ∧ wq.cell? ⟨v, 3, none⟩ = some (.int .i64 x.f.pad) ∧ wq.cell? ⟨v, 4, none⟩ = some (.slice x.D x.dn x.dc) ∧ wq.cell? ⟨v, 5, none⟩ = some (.slice x.S x.sn x.sc) ∧ wq.cell? ⟨v, 6, none⟩ = some (.int .i64 x.f.wt) ∧ wq.cell? ⟨v, 7, none⟩ = some (.int .i64 x.f.par) ∧ wq.cell? ⟨v, 8, none⟩ = some (.bool x.f.alone) ∧ wq.cell? ⟨v, 9, none⟩ = some (.int .i64 x.f.prom) ∧ wq.cell? ⟨v, 10, none⟩ = some (.int .i64 x.f.last) ∧ wq.cell? ⟨v, 11, none⟩ = some (.int .i64 x.f.code) ∧ wq.cell? ⟨v, 12, none⟩ = some (.int .i64 x.f.step)) := hide (fun wq hq => ⟨(HX1.out.kept hq).cell 0, (HX1.out.kept hq).cell 1, (HX1.out.kept hq).cell 2, (HX1.out.kept hq).cell 3, (HX1.out.kept hq).cell 4, (HX1.out.kept hq).cell 5, (HX1.out.kept hq).cell 6, (HX1.out.kept hq).cell 7, (HX1.out.kept hq).cell 8, (HX1.out.kept hq).cell 9, (HX1.out.kept hq).cell 10, (HX1.out.kept hq).cell 11, (HX1.out.kept hq).cell 12⟩)
        have hqq : (tb != tb) = false := by cases tb <;> rfl
        clear htb
        go_wp2_with fail
        refine wp_region_below (by kernel_rfl) (by kernel_rfl) ?_
        iterate 7
          first
            | (refine skipB (by rfl) ?_
               simp only [Act.put, List.setIfInBounds_toArray, List.set_cons_zero, List.set_cons_succ])
            | (refine stepB (by rfl) ?_
               apply Exists.intro
               refine ⟨fun wq hq => ?_, ?_⟩
               · obtain ⟨c0, c1, c2, c3, c4, c5, c6, c7, c8, c9, c10, c11, c12⟩ := HC.out wq hq
                 go_simp
                 first
                   | done
                   | rfl
                   | (go_at_call 9; ((with_reducible refine ((HT9 _ hq).out).mono ?_); exact fun e w'' ⟨he, hb⟩ => ⟨he, by have := below_next hq hb; simpa using this⟩))
                   | (go_at_call 10; ((with_reducible refine ((HT10 _ hq).out).mono ?_); exact fun e w'' ⟨he, hb⟩ => ⟨he, by have := below_next hq hb; simpa using this⟩))
               simp only [Act.put, List.setIfInBounds_toArray, List.set_cons_zero, List.set_cons_succ])
        refine wpQuiet_nil ?_
        intro wz hz
        have hbz : Below W1.heap.size W1 wz := hz
        have HXz := hide (HX1.out.kept hbz)
        have HDz := hide (HD1.out.kept hbz)
        have HFXz := hide (FV.ok_kept HFX1.out hbz)
        clear hz hbz HT9 HT10 HC HX1 HD1 HFX1 HFX HD
        have a0 : wz.cell? ⟨v, 0, none⟩ = some (.int .i64 x.f.ty) := HXz.out.cell 0
        have a1 : wz.cell? ⟨v, 1, none⟩ = some (.int .i64 x.f.fl) := HXz.out.cell 1
        have a2 : wz.cell? ⟨v, 2, none⟩ = some (.int .i64 x.f.st) := HXz.out.cell 2
        have a3 : wz.cell? ⟨v, 3, none⟩ = some (.int .i64 x.f.pad) := HXz.out.cell 3
        have a4 : wz.cell? ⟨v, 4, none⟩ = some (.slice x.D x.dn x.dc) := HXz.out.cell 4
        have a5 : wz.cell? ⟨v, 5, none⟩ = some (.slice x.S x.sn x.sc) := HXz.out.cell 5
        have a6 : wz.cell? ⟨v, 6, none⟩ = some (.int .i64 x.f.wt) := HXz.out.cell 6
        have a7 : wz.cell? ⟨v, 7, none⟩ = some (.int .i64 x.f.par) := HXz.out.cell 7
        have a8 : wz.cell? ⟨v, 8, none⟩ = some (.bool x.f.alone) := HXz.out.cell 8
        have a9 : wz.cell? ⟨v, 9, none⟩ = some (.int .i64 x.f.prom) := HXz.out.cell 9
        have a10 : wz.cell? ⟨v, 10, none⟩ = some (.int .i64 x.f.last) := HXz.out.cell 10
        have a11 : wz.cell? ⟨v, 11, none⟩ = some (.int .i64 x.f.code) := HXz.out.cell 11
        have a12 : wz.cell? ⟨v, 12, none⟩ = some (.int .i64 x.f.step) := HXz.out.cell 12
        obtain ⟨s, hs⟩ : ∃ s, stepL M fs x.f = s := ⟨_, rfl⟩
        have HST := hide hs
        obtain ⟨fs', r, is, er⟩ := s
        have HBD : Hid ((∀ y ∈ fs', y.sets.length ≤ 100) ∧ r.sets.length ≤ 100 ∧ r.data.length ≤ 100000) := hide (by
          have h1 := step_sets M fs x.f (by rw [← hfs]; exact HSET.out) (by rw [HFI.out.ok.sl]; exact hs2)
          have h2 := HFI.out.ok.dl
          rw [hs] at h1
          dsimp only at h1
          refine ⟨h1.1, h1.2.1, ?_⟩
          have h3 := h1.2.2
          rw [← hfs, h2] at h3
          omega)
        have HLN : Hid (fs'.length ≤ n + 1 ∧ (allD fs').length ≤ 2000 * (i + 1)) := hide (by
          have h1 := step_len M fs x.f
          have h2 := HFI.out.ok.dl
          rw [hs] at h1
          dsimp only at h1
          rw [← hfs, List.length_map, HNUM.out] at h1
          omega)
        have hop : Calls Try.prog 11 #[.pointer (some ⟨g, 0, none⟩), .agg #[.int .i64 x.f.ty, .int .i64 x.f.fl, .int .i64 x.f.st, .int .i64 x.f.pad, .slice x.D x.dn x.dc, .slice x.S x.sn x.sc, .int .i64 x.f.wt, .int .i64 x.f.par, .bool x.f.alone, .int .i64 x.f.prom, .int .i64 x.f.last, .int .i64 x.f.code, .int .i64 x.f.step]] wz fun e w' => ∃ (F' : List Nat) (D S : Option Addr) (dn dc sn sc : Nat), e = .returned (.tuple #[.agg #[.int .i64 r.ty, .int .i64 r.fl, .int .i64 r.st, .int .i64 r.pad, .slice D dn dc, .slice S sn sc, .int .i64 r.wt, .int .i64 r.par, .bool r.alone, .int .i64 r.prom, .int .i64 r.last, .int .i64 r.code, .int .i64 r.step], .bool is, .int .i64 er]) ∧ AsmL w' g M fs' F' NoG ∧ Only F wz w' ∧ (∀ b ∈ F', b ∈ F ∨ wz.heap.size ≤ b) ∧ FS w' (fun b => b ∉ F') r D dn dc S sn sc := by
          have hfk : FS wz (fun b => b ∉ F) x.f x.D x.dn x.dc x.S x.sn x.sc := FS.mono HFXz.out (fun b _ hb hm => by have := HDz.out.ge b hm; omega)
          have := add_op g M F NoG fs x.f x.D x.S x.dn x.dc x.sn x.sc wz (fun _ h => h.elim) (by rw [← hfs]; exact HDz.out.a) HM0.out.1 HM0.out.2 (by rw [← hfs]; omega) (by omega) (by omega) HFI.out.fhi hfk
          rw [hs] at this
          exact this
        have HOP := hide hop
        clear hop
        go_wp2_with fail
        refine HOP.out.mono ?_
        rintro e w3 ⟨F', D1, S1, dn1, dc1, sn1, sc1, rfl, hA3, hO3, hF3, hf3⟩
        have HA3 := hide hA3
        have HX3 := hide (HXz.out.only hO3 HVF.out.1)
        have HFX3 : Hid (x.ok w3 (fun b => b < w.heap.size)) := hide (FS.only HFXz.out hO3 (fun b hb hm => by have := HDz.out.ge b hm; omega))
        have HR3 : Hid (RowF w3 (fun b => b ∉ F') A n c l) := hide (((HDz.out.r.mono (K' := fun b => b ∉ F ∧ b < wz.heap.size) (fun b hb hk => ⟨hk, hb⟩)).only hO3 (fun b hb => hb.1)).mono (fun b _ hb hm => by rcases hF3 b hm with h1 | h1; exact hb.1 h1; omega))
        have HB3 : Hid (Below w.heap.size w w3 ∧ ∀ b ∈ F', w.heap.size ≤ b) := hide ⟨HDz.out.bel.trans (hO3.below HDz.out.bel.size HDz.out.ge), fun b hb => by
          rcases hF3 b hb with h1 | h1
          · exact HDz.out.ge b h1
          · have := HDz.out.bel.size; omega⟩
        have HF3 := hide hf3
        clear hA3 hO3 hF3 hf3 HOP HDz HXz HFXz
        obtain ⟨p9, hp9⟩ : ∃ p9, w3.heap.size = p9 := ⟨_, rfl⟩
        obtain ⟨z3, hz3⟩ : ∃ z3, w3.alloc (.cells #[.int .i64 0, .int .i64 0, .int .i64 0, .int .i64 0, .slice none 0 0, .slice none 0 0, .int .i64 0, .int .i64 0, .bool false, .int .i64 0, .int .i64 0, .int .i64 0, .int .i64 0] 30) = z3 := ⟨_, rfl⟩
        have HZ3 : Hid (Blk z3 p9 30 #[.int .i64 0, .int .i64 0, .int .i64 0, .int .i64 0, .slice none 0 0, .slice none 0 0, .int .i64 0, .int .i64 0, .bool false, .int .i64 0, .int .i64 0, .int .i64 0, .int .i64 0]) := hide (by rw [← hz3, ← hp9]; exact Blk.born _ _ _)
        obtain ⟨w4, hw4⟩ : ∃ w4, z3.setRow p9 #[.int .i64 r.ty, .int .i64 r.fl, .int .i64 r.st, .int .i64 r.pad, .slice D1 dn1 dc1, .slice S1 sn1 sc1, .int .i64 r.wt, .int .i64 r.par, .bool r.alone, .int .i64 r.prom, .int .i64 r.last, .int .i64 r.code, .int .i64 r.step] = w4 := ⟨_, rfl⟩
        have hb4 : Below w3.heap.size w3 w4 := by
          have h1 : Below w3.heap.size w3 z3 := by rw [← hz3]; exact (Below.refl _ _).alloc (Nat.le_refl _) _
          have h2 : Only [p9] z3 w4 := by rw [← hw4]; exact Only.setRow _ _ _ (List.mem_singleton.2 rfl)
          exact h1.trans (h2.below h1.size (fun b hb => by rw [List.mem_singleton.1 hb]; omega))
        have HT4 : Hid (Blk w4 p9 30 #[.int .i64 r.ty, .int .i64 r.fl, .int .i64 r.st, .int .i64 r.pad, .slice D1 dn1 dc1, .slice S1 sn1 sc1, .int .i64 r.wt, .int .i64 r.par, .bool r.alone, .int .i64 r.prom, .int .i64 r.last, .int .i64 r.code, .int .i64 r.step]) := hide (by rw [← hw4]; exact HZ3.out.setRow _)
        have HA4 := hide (HA3.out.kept hb4)
        have HX4 := hide (HX3.out.kept hb4)
        have HFX4 := hide (FV.ok_kept HFX3.out hb4)
        have HR4 := hide (HR3.out.kept hb4)
        have HF4 := hide (HF3.out.kept hb4)
        have HB4 : Hid (Below w.heap.size w w4) := hide (below_nextB HB3.out.1 HB3.out.1.size hb4)
        clear hb4 HA3 HX3 HFX3 HR3 HF3
        have b0 : w4.cell? ⟨v, 0, none⟩ = some (.int .i64 x.f.ty) := HX4.out.cell 0
        have b1 : w4.cell? ⟨v, 1, none⟩ = some (.int .i64 x.f.fl) := HX4.out.cell 1
        have b2 : w4.cell? ⟨v, 2, none⟩ = some (.int .i64 x.f.st) := HX4.out.cell 2
        have b3 : w4.cell? ⟨v, 3, none⟩ = some (.int .i64 x.f.pad) := HX4.out.cell 3
        have b4 : w4.cell? ⟨v, 4, none⟩ = some (.slice x.D x.dn x.dc) := HX4.out.cell 4
        have b5 : w4.cell? ⟨v, 5, none⟩ = some (.slice x.S x.sn x.sc) := HX4.out.cell 5
        have b6 : w4.cell? ⟨v, 6, none⟩ = some (.int .i64 x.f.wt) := HX4.out.cell 6
        have b7 : w4.cell? ⟨v, 7, none⟩ = some (.int .i64 x.f.par) := HX4.out.cell 7
        have b8 : w4.cell? ⟨v, 8, none⟩ = some (.bool x.f.alone) := HX4.out.cell 8
        have b9 : w4.cell? ⟨v, 9, none⟩ = some (.int .i64 x.f.prom) := HX4.out.cell 9
        have b10 : w4.cell? ⟨v, 10, none⟩ = some (.int .i64 x.f.last) := HX4.out.cell 10
        have b11 : w4.cell? ⟨v, 11, none⟩ = some (.int .i64 x.f.code) := HX4.out.cell 11
        have b12 : w4.cell? ⟨v, 12, none⟩ = some (.int .i64 x.f.step) := HX4.out.cell 12
        have hrop : Calls Try.prog 12 #[.slice A n c, .agg #[.int .i64 x.f.ty, .int .i64 x.f.fl, .int .i64 x.f.st, .int .i64 x.f.pad, .slice x.D x.dn x.dc, .slice x.S x.sn x.sc, .int .i64 x.f.wt, .int .i64 x.f.par, .bool x.f.alone, .int .i64 x.f.prom, .int .i64 x.f.last, .int .i64 x.f.code, .int .i64 x.f.step], .int .i64 u] w4 fun e w' => ∃ (A' : Option Addr) (n' c' : Nat) (l' : List FV) (D S : Option Addr) (dn dc sn sc : Nat), e = .returned (.tuple #[.slice A' n' c', .agg #[.int .i64 r.ty, .int .i64 r.fl, .int .i64 r.st, .int .i64 r.pad, .slice D dn dc, .slice S sn sc, .int .i64 r.wt, .int .i64 r.par, .bool r.alone, .int .i64 r.prom, .int .i64 r.last, .int .i64 r.code, .int .i64 r.step], .bool is, .int .i64 er]) ∧ RowF w' (fun b => b ∉ F' ∨ w4.heap.size ≤ b) A' n' c' l' ∧ l'.map (·.f) = fs' ∧ FS w' (fun b => b ∉ F' ∨ w4.heap.size ≤ b) r D dn dc S sn sc ∧ Below w4.heap.size w4 w' := by
          have hfk : FS w4 (fun b => b ∉ F') x.f x.D x.dn x.dc x.S x.sn x.sc := FS.mono HFX4.out (fun b _ hb hm => by have := HB3.out.2 b hm; omega)
          have := radd_op (fun b => b ∉ F') A n c l u M x.f x.D x.S x.dn x.dc x.sn x.sc w4 HM.out.symm HR4.out (by omega) (by omega) HFI.out.fhi hfk
          rw [HFSS.out, HST.out] at this
          exact this
        have HROP := hide hrop
        clear hrop
        go_wp2_with (((with_reducible refine wpList_store_row (o := { dst := none, op := .store 30 (.tmp 9) (.tmp 43), type := _, pos := _, after := _, guard := none }) rfl 30 (.tmp 9) (.tmp 43) rfl p9 #[.int .i64 r.ty, .int .i64 r.fl, .int .i64 r.st, .int .i64 r.pad, .slice D1 dn1 dc1, .slice S1 sn1 sc1, .int .i64 r.wt, .int .i64 r.par, .bool r.alone, .int .i64 r.prom, .int .i64 r.last, .int .i64 r.code, .int .i64 r.step] ?_ ?_ 30 #[.int .i64 0, .int .i64 0, .int .i64 0, .int .i64 0, .slice none 0 0, .slice none 0 0, .int .i64 0, .int .i64 0, .bool false, .int .i64 0, .int .i64 0, .int .i64 0, .int .i64 0] ?_ ?_ ?_ ?_ ?_); rfl; rfl; exact HZ3.out; kernel_rfl; rfl; simp [Value.oneCell']))
        refine HROP.out.mono ?_
        rintro e w5 ⟨A', n', c', l', D2, S2, dn2, dc2, sn2, sc2, rfl, hr5, hl5, hf5, hb5⟩
        have HLT4 := hide HA4.out.lt
        have HR5 : Hid (RowF w5 (fun b => b ∉ F') A' n' c' l') := hide (hr5.mono (fun b _ hb hm => by rcases hb with hb | hb; exact hb hm; have := HLT4.out b hm; omega))
        have HF5 : Hid (FS w5 (fun b => b ∉ F') r D2 dn2 dc2 S2 sn2 sc2) := hide (hf5.mono (fun b _ hb hm => by rcases hb with hb | hb; exact hb hm; have := HLT4.out b hm; omega))
        have HFF := hide hl5
        have HA5 := hide (HA4.out.kept hb5)
        have HT5 := hide (HT4.out.kept hb5)
        have HG5 := hide (HF4.out.kept hb5)
        have HB5 := hide (below_nextB HB4.out HB4.out.size hb5)
        clear hr5 hl5 hf5 hb5 HROP HA4 HX4 HFX4 HR4 HF4 HT4
        obtain ⟨p13, hp13⟩ : ∃ p13, w5.heap.size = p13 := ⟨_, rfl⟩
        obtain ⟨z5, hz5⟩ : ∃ z5, w5.alloc (.cells #[.int .i64 0, .int .i64 0, .int .i64 0, .int .i64 0, .slice none 0 0, .slice none 0 0, .int .i64 0, .int .i64 0, .bool false, .int .i64 0, .int .i64 0, .int .i64 0, .int .i64 0] 30) = z5 := ⟨_, rfl⟩
        have HZ5 : Hid (Blk z5 p13 30 #[.int .i64 0, .int .i64 0, .int .i64 0, .int .i64 0, .slice none 0 0, .slice none 0 0, .int .i64 0, .int .i64 0, .bool false, .int .i64 0, .int .i64 0, .int .i64 0, .int .i64 0]) := hide (by rw [← hz5, ← hp13]; exact Blk.born _ _ _)
        obtain ⟨w6, hw6⟩ : ∃ w6, z5.setRow p13 #[.int .i64 r.ty, .int .i64 r.fl, .int .i64 r.st, .int .i64 r.pad, .slice D2 dn2 dc2, .slice S2 sn2 sc2, .int .i64 r.wt, .int .i64 r.par, .bool r.alone, .int .i64 r.prom, .int .i64 r.last, .int .i64 r.code, .int .i64 r.step] = w6 := ⟨_, rfl⟩
        have hb6 : Below w5.heap.size w5 w6 := by
          have h1 : Below w5.heap.size w5 z5 := by rw [← hz5]; exact (Below.refl _ _).alloc (Nat.le_refl _) _
          have h2 : Only [p13] z5 w6 := by rw [← hw6]; exact Only.setRow _ _ _ (List.mem_singleton.2 rfl)
          exact h1.trans (h2.below h1.size (fun b hb => by rw [List.mem_singleton.1 hb]; omega))
        have HT6 : Hid (Blk w6 p13 30 #[.int .i64 r.ty, .int .i64 r.fl, .int .i64 r.st, .int .i64 r.pad, .slice D2 dn2 dc2, .slice S2 sn2 sc2, .int .i64 r.wt, .int .i64 r.par, .bool r.alone, .int .i64 r.prom, .int .i64 r.last, .int .i64 r.code, .int .i64 r.step]) := hide (by rw [← hw6]; exact HZ5.out.setRow _)
        have HQ6 := hide (HT5.out.kept hb6)
        have HD6 : Hid (Duo w w6 g M A' n' c' l' F') := hide ⟨by rw [HFF.out]; exact HA5.out.kept hb6, HR5.out.kept hb6, HB3.out.2, below_nextB HB5.out HB5.out.size hb6⟩
        have HG6 := hide (HG5.out.kept hb6)
        have HF6 := hide (HF5.out.kept hb6)
        clear hb6 HA5 HT5 HG5 HB5 HR5 HF5 HB3 HB4
        have HO13 : Hid (Calls Try.prog 13 #[.pointer (some ⟨g, 0, none⟩)] w6 fun e w' => e = .returned (.tuple #[.int .i64 (stL fs'), .bool (onL fs')]) ∧ w6 = w') := hide (by
          obtain ⟨c1, c4⟩ := asmL_heads HD6.out.a
          have := open_any g _ _ w6 c1 c4
          rw [HFF.out] at this
          have e : (if onL fs' then stL fs' else 0) = stL fs' := by cases fs' <;> rfl
          rw [e] at this
          exact this)
        have HSAME : Hid (Calls Try.prog 14 #[.agg #[.int .i64 r.ty, .int .i64 r.fl, .int .i64 r.st, .int .i64 r.pad, .slice D1 dn1 dc1, .slice S1 sn1 sc1, .int .i64 r.wt, .int .i64 r.par, .bool r.alone, .int .i64 r.prom, .int .i64 r.last, .int .i64 r.code, .int .i64 r.step], .agg #[.int .i64 r.ty, .int .i64 r.fl, .int .i64 r.st, .int .i64 r.pad, .slice D2 dn2 dc2, .slice S2 sn2 sc2, .int .i64 r.wt, .int .i64 r.par, .bool r.alone, .int .i64 r.prom, .int .i64 r.last, .int .i64 r.code, .int .i64 r.step]] w6 fun e w' => e = .returned (.bool true) ∧ Below w6.heap.size w6 w') := hide (by
          obtain rfl : dn2 = dn1 := HF6.out.dl.symm.trans HG6.out.dl
          obtain rfl : sn2 = sn1 := HF6.out.sl.symm.trans HG6.out.sl
          exact same14 r D1 S1 D2 S2 dn2 dc1 sn2 sc1 dc2 sc2 w6 (by have h1 := HBD.out.2.2; have h2 := HF6.out.dl; omega) (by have h1 := HBD.out.2.1; have h2 := HF6.out.sl; omega) HG6.out.dl HG6.out.sl HG6.out.d.sees.sees HF6.out.d.sees.sees HG6.out.s.sees.sees HF6.out.s.sees.sees)
        have q1 : (is != is) = false := by cases is <;> rfl
        have q2 : (er != er) = false := by simp
        have d0 : w6.cell? ⟨p9, 0, none⟩ = some (.int .i64 r.ty) := HQ6.out.cell 0
        have d1 : w6.cell? ⟨p9, 1, none⟩ = some (.int .i64 r.fl) := HQ6.out.cell 1
        have d2 : w6.cell? ⟨p9, 2, none⟩ = some (.int .i64 r.st) := HQ6.out.cell 2
        have d3 : w6.cell? ⟨p9, 3, none⟩ = some (.int .i64 r.pad) := HQ6.out.cell 3
        have d4 : w6.cell? ⟨p9, 4, none⟩ = some (.slice D1 dn1 dc1) := HQ6.out.cell 4
        have d5 : w6.cell? ⟨p9, 5, none⟩ = some (.slice S1 sn1 sc1) := HQ6.out.cell 5
        have d6 : w6.cell? ⟨p9, 6, none⟩ = some (.int .i64 r.wt) := HQ6.out.cell 6
        have d7 : w6.cell? ⟨p9, 7, none⟩ = some (.int .i64 r.par) := HQ6.out.cell 7
        have d8 : w6.cell? ⟨p9, 8, none⟩ = some (.bool r.alone) := HQ6.out.cell 8
        have d9 : w6.cell? ⟨p9, 9, none⟩ = some (.int .i64 r.prom) := HQ6.out.cell 9
        have d10 : w6.cell? ⟨p9, 10, none⟩ = some (.int .i64 r.last) := HQ6.out.cell 10
        have d11 : w6.cell? ⟨p9, 11, none⟩ = some (.int .i64 r.code) := HQ6.out.cell 11
        have d12 : w6.cell? ⟨p9, 12, none⟩ = some (.int .i64 r.step) := HQ6.out.cell 12
        have e0 : w6.cell? ⟨p13, 0, none⟩ = some (.int .i64 r.ty) := HT6.out.cell 0
        have e1 : w6.cell? ⟨p13, 1, none⟩ = some (.int .i64 r.fl) := HT6.out.cell 1
        have e2 : w6.cell? ⟨p13, 2, none⟩ = some (.int .i64 r.st) := HT6.out.cell 2
        have e3 : w6.cell? ⟨p13, 3, none⟩ = some (.int .i64 r.pad) := HT6.out.cell 3
        have e4 : w6.cell? ⟨p13, 4, none⟩ = some (.slice D2 dn2 dc2) := HT6.out.cell 4
        have e5 : w6.cell? ⟨p13, 5, none⟩ = some (.slice S2 sn2 sc2) := HT6.out.cell 5
        have e6 : w6.cell? ⟨p13, 6, none⟩ = some (.int .i64 r.wt) := HT6.out.cell 6
        have e7 : w6.cell? ⟨p13, 7, none⟩ = some (.int .i64 r.par) := HT6.out.cell 7
        have e8 : w6.cell? ⟨p13, 8, none⟩ = some (.bool r.alone) := HT6.out.cell 8
        have e9 : w6.cell? ⟨p13, 9, none⟩ = some (.int .i64 r.prom) := HT6.out.cell 9
        have e10 : w6.cell? ⟨p13, 10, none⟩ = some (.int .i64 r.last) := HT6.out.cell 10
        have e11 : w6.cell? ⟨p13, 11, none⟩ = some (.int .i64 r.code) := HT6.out.cell 11
        have e12 : w6.cell? ⟨p13, 12, none⟩ = some (.int .i64 r.step) := HT6.out.cell 12
        have hnum' := HD6.out.r.num
        cases l' with
        | nil =>
          have e1 : fs' = [] := HFF.out.symm
          subst e1
          simp at hnum'
          subst hnum'
          have h13 : Calls Try.prog 13 #[.pointer (some ⟨g, 0, none⟩)] w6 fun e w' => e = .returned (.tuple #[.int .i64 0, .bool false]) ∧ w6 = w' := HO13.out
          clear HO13
          go_wp2_with (first | ((with_reducible refine wpList_store_row (o := { dst := none, op := .store 30 (.tmp 13) (.tmp 52), type := _, pos := _, after := _, guard := none }) rfl 30 (.tmp 13) (.tmp 52) rfl p13 #[.int .i64 r.ty, .int .i64 r.fl, .int .i64 r.st, .int .i64 r.pad, .slice D2 dn2 dc2, .slice S2 sn2 sc2, .int .i64 r.wt, .int .i64 r.par, .bool r.alone, .int .i64 r.prom, .int .i64 r.last, .int .i64 r.code, .int .i64 r.step] ?_ ?_ 30 #[.int .i64 0, .int .i64 0, .int .i64 0, .int .i64 0, .slice none 0 0, .slice none 0 0, .int .i64 0, .int .i64 0, .bool false, .int .i64 0, .int .i64 0, .int .i64 0, .int .i64 0] ?_ ?_ ?_ ?_ ?_); rfl; rfl; exact HZ5.out; kernel_rfl; rfl; simp [Value.oneCell']) | (go_at_call 13; refine h13.mono ?_; rintro e w7 ⟨rfl, rfl⟩))
          refine HSAME.out.mono ?_
          rintro e w7 ⟨rfl, hb⟩
          have HD7 := hide (HD6.out.kept hb)
          clear hb HSAME HD6 HQ6 HT6 HG6 HF6
          go_wp2_with fail
          go_roundw
          case rel => exact ⟨i + 1, 0, c', A', [], F', rfl, by go_num, by omega, HD7, hide ⟨Nat.zero_le _, Nat.zero_le _, fun y hy => by cases hy⟩⟩
          case measure => simp [intOf]; omega
        | cons y ys =>
          have e1 : fs' = y.f :: ys.map (·.f) := HFF.out.symm
          have h13 : Calls Try.prog 13 #[.pointer (some ⟨g, 0, none⟩)] w6 fun e w' => e = .returned (.tuple #[.int .i64 y.f.st, .bool true]) ∧ w6 = w' := by
            have := HO13.out
            rw [e1] at this
            exact this
          obtain ⟨gm, om, rfl, _, hcs⟩ := HD6.out.r.at (i := 0) (x := y) rfl
          have m2 : w6.cell? ⟨gm, om + 2, none⟩ = some (.int .i64 y.f.st) := by have := hcs 2 _ rfl; rwa [Nat.zero_mul, Nat.zero_add] at this
          have i5 : (n' : Int) > 0 := by simp at hnum'; omega
          have i6 : (0 : Int) < (n' : Int) := i5
          have q3 : (y.f.st != y.f.st) = false := by simp
          have HNN := hide hnum'
          clear HO13 hcs hnum' e1
          go_wp2_with (first | ((with_reducible refine wpList_store_row (o := { dst := none, op := .store 30 (.tmp 13) (.tmp 52), type := _, pos := _, after := _, guard := none }) rfl 30 (.tmp 13) (.tmp 52) rfl p13 #[.int .i64 r.ty, .int .i64 r.fl, .int .i64 r.st, .int .i64 r.pad, .slice D2 dn2 dc2, .slice S2 sn2 sc2, .int .i64 r.wt, .int .i64 r.par, .bool r.alone, .int .i64 r.prom, .int .i64 r.last, .int .i64 r.code, .int .i64 r.step] ?_ ?_ 30 #[.int .i64 0, .int .i64 0, .int .i64 0, .int .i64 0, .slice none 0 0, .slice none 0 0, .int .i64 0, .int .i64 0, .bool false, .int .i64 0, .int .i64 0, .int .i64 0, .int .i64 0] ?_ ?_ ?_ ?_ ?_); rfl; rfl; exact HZ5.out; kernel_rfl; rfl; simp [Value.oneCell']) | (go_at_call 13; refine h13.mono ?_; rintro e w7 ⟨rfl, rfl⟩))
          refine HSAME.out.mono ?_
          rintro e w7 ⟨rfl, hb⟩
          have HD7 := hide (HD6.out.kept hb)
          clear hb HSAME HD6 HQ6 HT6 HG6 HF6
          go_wp2_with fail
          go_roundw
          case rel => exact ⟨i + 1, n', c', _, y :: ys, F', rfl, by go_num, by omega, HD7, hide ⟨by have h1 := HLN.out.1; rw [← HFF.out, List.length_map, HNN.out] at h1; omega, by rw [HFF.out]; exact HLN.out.2, by rw [HFF.out]; exact HBD.out.1⟩⟩
          case measure => simp [intOf]; omega
      · go_wp2_with fail
        refine (alive_any _).mono ?_
        rintro e w7 ⟨rfl, hb⟩
        have HB7 := hide (below_nextB HD.out.bel HD.out.bel.size hb)
        clear hb
        go_wp2_with fail
        go_ret
        exact ⟨rfl, HB7.out⟩
end Go.Proofs.Ytpjibdnoiioaoaa
