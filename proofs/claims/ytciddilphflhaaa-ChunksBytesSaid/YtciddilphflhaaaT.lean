/- The reference's Cut. -/
import Derived.Test.YtciddilphflhaaaQ
namespace Go.Proofs.Ytciddilphflhaaa
open Go.RowKit
set_option linter.unusedSimpArgs false

theorem szAt_le {zs : List Int} {M : Nat} (h1 : 1 ≤ M) (h : ∀ z ∈ zs, z ≤ (M : Int)) (k : Nat) : szAt zs k ≤ M := by
  unfold szAt
  by_cases hk : k % zs.length < zs.length
  · have := h (zs[k % zs.length]) (List.getElem_mem _)
    rw [List.getD_eq_getElem?_getD, List.getElem?_eq_getElem hk]
    simp only [Option.getD_some]
    omega
  · rw [List.getD_eq_getElem?_getD, List.getElem?_eq_none (by omega)]
    simp only [Option.getD_none]
    omega
theorem step_room {zs : List Int} {M : Nat} {f : Int} {s : CSt} (y : Int) (h : ∀ k, szAt zs k ≤ M) (hs : s.room ≤ M) : (s.step zs f y).room ≤ M := by
  unfold CSt.step
  split
  · have := h s.at_; dsimp only; omega
  · dsimp only; omega
theorem run_room {zs : List Int} {M : Nat} {f : Int} {s : CSt} (b : List Int) (h : ∀ k, szAt zs k ≤ M) (hs : s.room ≤ M) : (s.run zs f b).room ≤ M := by
  induction b using snoc_ind with
  | h0 => exact hs
  | h1 b y ih => rw [run_snoc]; exact step_room y h ih
/-- The size at a place, as it is read. -/
theorem szAt_get {zs : List Int} {k : Nat} {z : Int} (h : zs[k % zs.length]? = some z) : szAt zs k = (max z 1).toNat := by
  unfold szAt
  rw [List.getD_eq_getElem?_getD, h]
  rfl

set_option maxRecDepth 100000 in
theorem rcut_none (A Z : Option Addr) (n c cz : Nat) (l : CL) (w : World) (hl : l.length = n) (hn : n ≤ 5000) (ht : tot l ≤ 5000) (hs : Chunks w A l) :
    Calls Try.prog 12 #[.slice A n c, .slice Z 0 cz] w (JPost (joinC l) w) := by
  go_enter Try.func12, Try.ntmps12
  go_wp2_with fail
  refine (rjoin_any A n c l w hl hn ht hs).mono ?_
  rintro e w1 ⟨A1, n1, c1, hs1, rfl, ho, hb⟩
  go_wp2_with fail
  go_ret
  exact ⟨_, _, _, hs1, rfl, ho, hb⟩

set_option maxRecDepth 100000 in
set_option maxHeartbeats 8000000 in
theorem rcut_some (A Z : Option Addr) (n c nz cz : Nat) (l : CL) (zs : List Int) (w : World) (hl : l.length = n) (hn : n ≤ 5000) (ht : tot l ≤ 5000) (hs : Chunks w A l) (hlz : zs.length = nz) (hnz : 0 < nz) (hnz2 : nz ≤ 5000) (hz : Sees w Z (zs.map (Value.int .i64))) (hzw : ∀ z ∈ zs, z ≤ 9223372036854775807) :
    Calls Try.prog 12 #[.slice A n c, .slice Z nz cz] w (JPost (cutC zs l) w) := by
  have HLN := hide hl
  have HT := hide ht
  have HC := hide hs
  have HLZ := hide hlz
  have HZ : Hid (∀ w', Below w.heap.size w w' → Sees w' Z (zs.map (Value.int .i64))) := hide (fun w' hb => by
    intro j u hu
    obtain ⟨b', o', e, hc⟩ := hz j u hu
    exact ⟨b', o', e, (hb.cell (p := ⟨b', o' + j, none⟩) (World.block_lt_of_cell? _ _ hc)).trans hc⟩)
  have HSZ : Hid (∀ k, szAt zs k ≤ 9223372036854775807) := hide (szAt_le (by decide) (fun z h => by have := hzw z h; omega))
  have z0 : ((nz : Int) == 0) = false := by simp; omega
  clear hl hs ht hlz hz hzw
  go_enter Try.func12, Try.ntmps12
  go_wp2_with fail
  go_loopw [5, 6, 7] (fun ov av iv wr => ∃ (i a n1 c1 : Nat) (A1 : Option Addr) (hs : HL), ov = .slice A1 n1 c1 ∧ av = .int .i64 (a : Nat) ∧ iv = .int .i64 (i : Nat) ∧ i ≤ n ∧ Hid ((cutS zs (l.take i)).at_ = a) ∧ Hid (OwnC w.heap.size wr A1 n1 c1 hs (cutS zs (l.take i)).out) ∧ Hid (Below w.heap.size w wr)) (fun _ _ iv _ => n - (intOf iv).toNat)
  case atStart => exact ⟨0, 0, 0, 0, none, [], rfl, rfl, rfl, Nat.zero_le _, hide rfl, hide (OwnC.nil _ _), hide (Below.refl _ _)⟩
  case round =>
    obtain ⟨i, a, n1, c1, A1, hs, rfl, rfl, rfl, hi, HAt, HO, HW⟩ := hrel
    by_cases hlt : i < n
    · have hil : i < l.length := by have := HLN.out; omega
      obtain ⟨f, b, hd⟩ : ∃ f b, l[i] = (f, b) := ⟨_, _, rfl⟩
      have hg : l[i]? = some (f, b) := by rw [List.getElem?_eq_getElem hil, hd]
      obtain ⟨ga, oa, D, cd, rfl, a0, a1, _, _, hsb⟩ := HC.out i f b hg
      have HSB := hide hsb
      obtain ⟨m, hm⟩ : ∃ m, b.length = m := ⟨_, rfl⟩
      have HM := hide hm
      have hm5 : m ≤ 5000 := by have h1 := tot_at hg; have := HT.out; simp at h1; omega
      rw [hm] at a1
      obtain ⟨s0, hs0⟩ : ∃ s0, cutS zs (l.take i) = s0 := ⟨_, rfl⟩
      have HJ : Hid (cutS zs (l.take (i + 1)) = ⟨(s0.run zs f b).out, (s0.run zs f b).at_, 0⟩) := hide (by rw [cutS_take hg, hs0]; rfl)
      have HR0 : Hid (s0.room = 0) := hide (by rw [← hs0]; exact cutS_room _ _)
      have HA := hide (show ∀ wq, Below w.heap.size w wq → wq.cell? ⟨ga, oa + i * 2, none⟩ = some (.int .i64 f) ∧ wq.cell? ⟨ga, oa + i * 2 + 1, none⟩ = some (.slice D m cd) from fun wq hb => ⟨(hb.cell (World.block_lt_of_cell? _ _ a0)).trans a0, (hb.cell (World.block_lt_of_cell? _ _ a1)).trans a1⟩)
      have HTJ : Hid (tot s0.out + m ≤ 5000 ∧ s0.out.length + m ≤ 5000 ∧ s0.at_ + m ≤ 5000) := hide (by
        have h1 := cut_all zs (l.take i)
        unfold cutC at h1
        rw [hs0] at h1
        have h2 := tot_take hg
        have h3 := tot_le l (i + 1)
        have h5 := HT.out
        simp at h2
        omega)
      have i1 : (i : Int) < (n : Int) := by omega
      have i3 : (0 : Int) ≤ (i : Int) := by omega
      rw [hs0] at HAt HO
      clear hd hg hsb hm hil a0 a1 hs0
      go_wp2_with fail
      go_loopw [5, 6, 8, 9] (fun ov av rv kv wr => ∃ (k a rm n1 c1 : Nat) (A1 : Option Addr) (hs : HL), ov = .slice A1 n1 c1 ∧ av = .int .i64 (a : Nat) ∧ rv = .int .i64 (rm : Nat) ∧ kv = .int .i64 (k : Nat) ∧ k ≤ m ∧ Hid ((s0.run zs f (b.take k)).at_ = a ∧ (s0.run zs f (b.take k)).room = rm) ∧ Hid (OwnC w.heap.size wr A1 n1 c1 hs (s0.run zs f (b.take k)).out) ∧ Hid (Below w.heap.size w wr)) (fun _ _ _ kv _ => m - (intOf kv).toNat)
      case atStart => exact ⟨0, a, 0, n1, c1, A1, hs, rfl, rfl, rfl, rfl, Nat.zero_le _, hide ⟨HAt.out, HR0.out⟩, HO, HW⟩
      case round =>
        clear HO HW HAt
        obtain ⟨k, a, rm, n1, c1, A1, hs, rfl, rfl, rfl, rfl, hk, HAt, HO, HW⟩ := hrel
        obtain ⟨a0, a1⟩ := HA.out wr HW.out
        by_cases hkm : k < m
        · have hkl : k < b.length := by have := HM.out; omega
          obtain ⟨y, hy⟩ : ∃ y, b[k]? = some y := ⟨_, List.getElem?_eq_getElem hkl⟩
          obtain ⟨gb, ob, rfl, y0⟩ := seen_byte HSB.out hy
          obtain ⟨r, hr⟩ : ∃ r, s0.run zs f (b.take k) = r := ⟨_, rfl⟩
          have HX : Hid (s0.run zs f (b.take (k + 1)) = r.step zs f y) := hide (by rw [take_snoc hy, run_snoc, hr])
          have HB : Hid (tot r.out + 1 ≤ 5000 ∧ r.out.length + 1 ≤ 5000 ∧ r.at_ + 1 ≤ 5000 ∧ r.Fine f ∧ r.room ≤ 9223372036854775807) := hide (by
            rw [← hr]
            have h1 := run_all (zs := zs) (fine_zero (f := f) HR0.out) (b.take k)
            have h2 := run_room (f := f) (b.take k) HSZ.out (s := s0) (by rw [HR0.out]; exact Nat.zero_le _)
            have h3 := HTJ.out
            simp at h1
            refine ⟨?_, ?_, ?_, h1.1, h2⟩ <;> omega)
          rw [hr] at HO HAt
          have HS : Hid (∀ w', Below w.heap.size w w' → w'.cell? ⟨ga, oa + i * 2 + 1, none⟩ = some (.slice (some ⟨gb, ob, none⟩) m cd) ∧ w'.cell? ⟨gb, ob + k, none⟩ = some (.int .u8 y)) := hide (fun w' hb => ⟨(HA.out w' hb).2, (hb.cell (World.block_lt_of_cell? _ _ y0)).trans y0⟩)
          have k1 : (k : Int) < (m : Int) := by omega
          have k3 : (0 : Int) ≤ (k : Int) := by omega
          have hrm : rm ≤ 9223372036854775807 := by have := HAt.out.2; have := HB.out; omega
          have ha5 : a + 1 ≤ 5000 := by have := HAt.out.1; have := HB.out; omega
          clear hr hkl hy y0
          by_cases hrm0 : rm = 0
          · subst hrm0
            obtain ⟨z, hz⟩ : ∃ z, zs[a % nz]? = some z := ⟨_, List.getElem?_eq_getElem (by rw [HLZ.out]; exact Nat.mod_lt _ hnz)⟩
            obtain ⟨gz, oz, rfl, hcz⟩ := HZ.out wr HW.out (a % nz) (.int .i64 z) (by rw [List.getElem?_map, hz]; rfl)
            have HSA : Hid (szAt zs a = (max z 1).toNat) := hide (szAt_get (by rw [HLZ.out]; exact hz))
            have HZB : Hid (szAt zs a ≤ 9223372036854775807) := hide (HSZ.out a)
            obtain ⟨j, hj⟩ : ∃ j, a % nz = j := ⟨_, rfl⟩
            have hjn : j < nz := by rw [← hj]; exact Nat.mod_lt _ hnz
            have hmod : (a : Int).tmod (nz : Int) = (j : Int) := by rw [← hj]; rfl
            rw [hj] at hcz
            have HXS : Hid (r.step zs f y = ⟨r.out ++ [(f, [y])], a + 1, szAt zs a - 1⟩) := hide (by unfold CSt.step; rw [if_pos HAt.out.2, HAt.out.1])
            have j1 : (j : Int) < (nz : Int) := by omega
            have j3 : (0 : Int) ≤ (j : Int) := by omega
            have jw : IntKind.i64.wrap (j : Int) = (j : Int) := by rw [IntKind.wrap_i64]; omega
            have hnn := HO.out.num
            have hn15 : n1 + 1 ≤ 5000 := by have := HB.out; omega
            clear hz hj
            by_cases hz1 : z < 1
            · have hz1d : decide (z < 1) = true := by simpa using hz1
              go_wp2_with (at_builtin; go_loud (refine wpList_chunk rfl (.tmp 44) (.tmp 51) rfl w.heap.size n1 c1 _ _ f (.slice none 0 0) rfl (HO.out.own.alloc _) wr.heap.size rfl (Blk.born wr 33 _) rfl (by omega) (by have := HW.out.size; simp; omega) ?_))
              intro A2 c2 w2 ho hg
              obtain ⟨hs2, ho2⟩ := HO.out.bare ((Below.refl _ _).alloc (Nat.le_refl _) _) ho hg
              have HW2 : Hid (Below w.heap.size w w2) := hide ((HW.out.alloc HW.out.size _).grown hg (by have := HW.out.size; simp; omega) (own_row_ge HO.out.own))
              clear ho hg HO HW a0 a1 hcz
              obtain ⟨g, q, hs0, B, p, cb, rfl, hqe, hlc⟩ := ho2.toLast
              have HL2 := hide hlc
              have hp : p ≤ 5000 := by have h2 := hlc.lp; simp at h2; omega
              clear hlc ho2
              obtain rfl : q = n1 := by omega
              clear hqe
              go_wp2_with fail
              obtain ⟨e0, e1, e2, inn, hge⟩ := HL2.out.facts
              have HIN := hide inn
              have hlp := HL2.out.lp
              have e1A : (w2.alloc (.cells #[.int .u8 y] 5)).cell? ⟨g, q * 2 + 1, none⟩ = some (.slice B p cb) := (HL2.out.kept ((Below.refl _ _).alloc (Nat.le_refl _) _)).facts.2.1
              have hWs := HW2.out.size
              obtain ⟨s1, s2⟩ := HS.out w2 HW2.out
              have q1 : (q : Int) < (q : Int) + 1 := by omega
              have q3 : (0 : Int) ≤ (q : Int) := by omega
              have qw : IntKind.i64.wrap (q : Int) = (q : Int) := by rw [IntKind.wrap_i64]; omega
              clear inn
              refine wp_region_held_drew (S := fun w' => w'.cell? ⟨ga, oa + i * 2 + 1, none⟩ = some (.slice (some ⟨gb, ob, none⟩) m cd) ∧ w'.cell? ⟨gb, ob + k, none⟩ = some (.int .u8 y)) (by kernel_rfl) (⟨s1, s2⟩) (fun hHeld => ?_)
              refine wpAnyH_take (i := 0) (v := ?_) rfl (by kernel_rfl) (by kernel_rfl) (by kernel_rfl) (fun _ _ _ h => h) (Or.inl ⟨by rfl, ?hy⟩) (by assumption) ?_
              case hy => intro w hSw; (try dsimp only at hSw); go_simp; (try with_reducible rfl)
              try simp only [Act.put, List.setIfInBounds_toArray, List.set_cons_zero, List.set_cons_succ]
              refine wpAnyH_take (i := 1) (v := ?_) rfl (by kernel_rfl) (by kernel_rfl) (by kernel_rfl) (fun _ _ _ h => h) (Or.inl ⟨by rfl, ?hy⟩) (by assumption) ?_
              case hy => intro w hSw; (try dsimp only at hSw); go_simp; (try with_reducible rfl)
              try simp only [Act.put, List.setIfInBounds_toArray, List.set_cons_zero, List.set_cons_succ]
              refine wpAnyH_take (i := 2) (v := ?_) rfl (by kernel_rfl) (by kernel_rfl) (by kernel_rfl) (fun _ _ _ h => h) (Or.inl ⟨by rfl, ?hy⟩) (by assumption) ?_
              case hy => intro w hSw; (try dsimp only at hSw); go_simp; (try with_reducible rfl)
              try simp only [Act.put, List.setIfInBounds_toArray, List.set_cons_zero, List.set_cons_succ]
              refine wpAnyH_take (i := 3) (v := ?_) rfl (by kernel_rfl) (by kernel_rfl) (by kernel_rfl) (fun _ _ _ h => h) (Or.inl ⟨by rfl, ?hy⟩) (by assumption) ?_
              case hy => intro w hSw; (try dsimp only at hSw); go_simp; (try with_reducible rfl)
              try simp only [Act.put, List.setIfInBounds_toArray, List.set_cons_zero, List.set_cons_succ]
              refine wpAnyH_take (i := 4) (v := ?_) rfl (by kernel_rfl) (by kernel_rfl) (by kernel_rfl) (fun _ _ _ h => h) (Or.inl ⟨by rfl, ?hy⟩) (by assumption) ?_
              case hy => intro w hSw; (try dsimp only at hSw); go_simp; (try with_reducible rfl)
              try simp only [Act.put, List.setIfInBounds_toArray, List.set_cons_zero, List.set_cons_succ]
              refine wpAnyH_take (i := 5) (v := ?_) rfl (by kernel_rfl) (by kernel_rfl) (by kernel_rfl) (fun _ _ _ h => h) (Or.inl ⟨by rfl, ?hy⟩) (by assumption) ?_
              case hy => intro w hSw; (try dsimp only at hSw); go_simp; (try with_reducible rfl)
              try simp only [Act.put, List.setIfInBounds_toArray, List.set_cons_zero, List.set_cons_succ]
              refine wpAnyH_take (i := 6) (v := ?_) rfl (by kernel_rfl) (by kernel_rfl) (by kernel_rfl) (fun _ _ _ h => h) (Or.inl ⟨by rfl, ?hy⟩) (by assumption) ?_
              case hy => intro w hSw; (try dsimp only at hSw); go_simp; (try with_reducible rfl)
              try simp only [Act.put, List.setIfInBounds_toArray, List.set_cons_zero, List.set_cons_succ]
              refine wpAnyH_take (i := 7) (v := ?_) rfl (by kernel_rfl) (by kernel_rfl) (by kernel_rfl) (fun _ _ _ h => h) (Or.inl ⟨by rfl, ?hy⟩) (by assumption) ?_
              case hy => intro w hSw; (try dsimp only at hSw); go_simp; (try with_reducible rfl)
              try simp only [Act.put, List.setIfInBounds_toArray, List.set_cons_zero, List.set_cons_succ]
              refine wpAnyH_take (i := 8) (v := ?_) rfl (by kernel_rfl) (by kernel_rfl) (by kernel_rfl) (fun _ _ _ h => h) (Or.inl ⟨by rfl, ?hy⟩) (by assumption) ?_
              case hy => intro w hSw; (try dsimp only at hSw); go_simp; (try with_reducible rfl)
              try simp only [Act.put, List.setIfInBounds_toArray, List.set_cons_zero, List.set_cons_succ]
              refine wpAnyH_take (i := 9) (v := ?_) rfl (by kernel_rfl) (by kernel_rfl) (by kernel_rfl) (fun _ _ _ h => h) (Or.inl ⟨by rfl, ?hy⟩) (by assumption) ?_
              case hy => intro w hSw; (try dsimp only at hSw); go_simp; (try with_reducible rfl)
              try simp only [Act.put, List.setIfInBounds_toArray, List.set_cons_zero, List.set_cons_succ]
              refine wpAnyH_take (i := 11) (v := ?_) rfl (by kernel_rfl) (by kernel_rfl) (by kernel_rfl) (fun _ _ _ h => h) (Or.inl ⟨by rfl, ?hy⟩) (by assumption) ?_
              case hy => intro w hSw; (try dsimp only at hSw); go_simp; (try with_reducible rfl)
              try simp only [Act.put, List.setIfInBounds_toArray, List.set_cons_zero, List.set_cons_succ]
              refine wpAnyH_take (i := 12) (v := ?_) rfl (by kernel_rfl) (by kernel_rfl) (by kernel_rfl) (fun _ _ _ h => h) (Or.inl ⟨by rfl, ?hy⟩) (by assumption) ?_
              case hy => intro w hSw; (try dsimp only at hSw); go_simp; (try with_reducible rfl)
              try simp only [Act.put, List.setIfInBounds_toArray, List.set_cons_zero, List.set_cons_succ]
              refine wpAnyH_take (i := 13) (v := ?_) rfl (by kernel_rfl) (by kernel_rfl) (by kernel_rfl) (fun _ _ _ h => h) (Or.inl ⟨by rfl, ?hy⟩) (by assumption) ?_
              case hy => intro w hSw; (try dsimp only at hSw); go_simp; (try with_reducible rfl)
              try simp only [Act.put, List.setIfInBounds_toArray, List.set_cons_zero, List.set_cons_succ]
              refine wpAnyH_take (i := 14) (v := ?_) rfl (by kernel_rfl) (by kernel_rfl) (by kernel_rfl) (fun _ _ _ h => h) (Or.inl ⟨by rfl, ?hy⟩) (by assumption) ?_
              case hy => intro w hSw; (try dsimp only at hSw); go_simp; (try with_reducible rfl)
              try simp only [Act.put, List.setIfInBounds_toArray, List.set_cons_zero, List.set_cons_succ]
              refine wpAnyH_take (i := 15) (v := ?_) rfl (by kernel_rfl) (by kernel_rfl) (by kernel_rfl) (fun _ _ _ h => h) (Or.inl ⟨by rfl, ?hy⟩) (by assumption) ?_
              case hy => intro w hSw; (try dsimp only at hSw); go_simp; (try with_reducible rfl)
              try simp only [Act.put, List.setIfInBounds_toArray, List.set_cons_zero, List.set_cons_succ]
              refine wpAnyH_take (i := 16) (v := ?_) rfl (by kernel_rfl) (by kernel_rfl) (by kernel_rfl) (fun _ _ _ h => h) (Or.inl ⟨by rfl, ?hy⟩) (by assumption) ?_
              case hy => intro w hSw; (try dsimp only at hSw); go_simp; (try with_reducible rfl)
              try simp only [Act.put, List.setIfInBounds_toArray, List.set_cons_zero, List.set_cons_succ]
              refine wpAnyH_take (i := 17) (v := ?_) rfl (by kernel_rfl) (by kernel_rfl) (by kernel_rfl) (fun _ _ _ h => h) (Or.inl ⟨by rfl, ?hy⟩) (by assumption) ?_
              case hy => intro w hSw; (try dsimp only at hSw); go_simp; (try with_reducible rfl)
              try simp only [Act.put, List.setIfInBounds_toArray, List.set_cons_zero, List.set_cons_succ]
              refine wpAnyH_take (i := 18) (v := ?_) rfl (by kernel_rfl) (by kernel_rfl) (by kernel_rfl) (fun _ _ _ h => h) (Or.inl ⟨by rfl, ?hy⟩) (by assumption) ?_
              case hy => intro w hSw; (try dsimp only at hSw); go_simp; (try with_reducible rfl)
              try simp only [Act.put, List.setIfInBounds_toArray, List.set_cons_zero, List.set_cons_succ]
              refine wpAnyH_ready (rs := [10, 19]) (by kernel_rfl) (by simp) ?_
              refine AllReadyH.cons rfl (fun K' hK => ?_) ?_
              · go_simp
                refine hK.out _ _ (HS.out _ HW2.out.drew) (fun hHeld => ?_)
                clear hK
                try simp only [Act.put, List.setIfInBounds_toArray, List.set_cons_zero, List.set_cons_succ]
                refine wpAnyH_ready (rs := [19]) (by kernel_rfl) (by simp) ?_
                refine AllReadyH.cons rfl (fun K' hK => ?_) ?_
                · go_simp
                  refine hK.out _ _ (HS.out _ (HW2.out.alloc HW2.out.size _).drew) (fun hHeld => ?_)
                  clear hK
                  try simp only [Act.put, List.setIfInBounds_toArray, List.set_cons_zero, List.set_cons_succ]
                  refine wpAnyH_ready (rs := [20]) (by kernel_rfl) (by simp) ?_
                  refine AllReadyH.cons rfl (fun K' hK => ?_) ?_
                  · refine step_bytes rfl (.tmp 63) (.tmp 72) rfl w.heap.size p cb B ([] : List Int) [y] (by rfl) (HIN.out.alloc _).drew hlp (some ⟨w2.heap.size, 0, none⟩) 1 1 (by rfl) rfl (born_at rfl).drew (by decide) (by omega) (by simp; omega) ?_
                    intro g' c' w4 ho hg hat
                    have hal : Below w2.heap.size w2 (w2.alloc (.cells #[.int .u8 y] 5)).drew := ((Below.refl _ _).alloc (Nat.le_refl _) _).drew
                    obtain ⟨x1, x2⟩ := HL2.out.outer hal hg
                    obtain ⟨hs4, ho4⟩ := HL2.out.more hal ho rfl hg hat
                    have HO4 := hide ho4
                    have HB4 : Hid (Below w.heap.size w w4) := hide ((below_nextB HW2.out HW2.out.size hal).grown hg (by simp; omega) (own_row_ge HIN.out))
                    clear ho hg hat ho4 hal
                    refine hK.out _ _ (HS.out _ HB4.out) (fun hHeld => ?_)
                    clear hK
                    try simp only [Act.put, List.setIfInBounds_toArray, List.set_cons_zero, List.set_cons_succ]
                    refine wpAnyH_take (i := 21) (v := ?_) rfl (by kernel_rfl) (by kernel_rfl) (by kernel_rfl) (fun _ _ _ h => h) (Or.inl ⟨by rfl, ?hy⟩) (by assumption) ?_
                    case hy => intro w hSw; (try dsimp only at hSw); go_simp; (try with_reducible rfl)
                    try simp only [Act.put, List.setIfInBounds_toArray, List.set_cons_zero, List.set_cons_succ]
                    refine wpAnyH_take (i := 22) (v := ?_) rfl (by kernel_rfl) (by kernel_rfl) (by kernel_rfl) (fun _ _ _ h => h) (Or.inl ⟨by rfl, ?hy⟩) (by assumption) ?_
                    case hy => intro w hSw; (try dsimp only at hSw); go_simp; (try with_reducible rfl)
                    try simp only [Act.put, List.setIfInBounds_toArray, List.set_cons_zero, List.set_cons_succ]
                    refine wpAnyH_ready (rs := [23]) (by kernel_rfl) (by simp) ?_
                    refine AllReadyH.cons rfl (fun K' hK => ?_) ?_
                    · go_simp
                      refine hK.out _ _ (HS.out _ (HB4.out.setCell hge _)) (fun hHeld => ?_)
                      clear hK
                      try simp only [Act.put, List.setIfInBounds_toArray, List.set_cons_zero, List.set_cons_succ]
                      refine wpAnyH_done (by kernel_rfl) ?_ _
                      try refine NoPanic.normal ?_
                      go_wp2_with fail
                      go_roundw
                      case rel => exact ⟨k + 1, a + 1, 0, q + 1, _, _, hs4, rfl, by go_num, by go_num, by go_num, by omega, hide (by rw [HX.out, HXS.out]; exact ⟨rfl, by first | rfl | (have := HSA.out; dsimp only; omega)⟩), hide (by rw [HX.out, HXS.out]; exact HO4.out), hide (HB4.out.setCell hge _)⟩
                      case measure => simp [intOf]; omega
                    · exact AllReadyH.nil
                  · exact AllReadyH.nil
                · exact AllReadyH.nil
              refine AllReadyH.cons rfl (fun K' hK => ?_) ?_
              · go_simp
                refine hK.out _ _ (HS.out _ (HW2.out.alloc HW2.out.size _).drew) (fun hHeld => ?_)
                clear hK
                try simp only [Act.put, List.setIfInBounds_toArray, List.set_cons_zero, List.set_cons_succ]
                refine wpAnyH_ready (rs := [10]) (by kernel_rfl) (by simp) ?_
                refine AllReadyH.cons rfl (fun K' hK => ?_) ?_
                · go_simp
                  refine hK.out _ _ (HS.out _ (HW2.out.alloc HW2.out.size _).drew) (fun hHeld => ?_)
                  clear hK
                  try simp only [Act.put, List.setIfInBounds_toArray, List.set_cons_zero, List.set_cons_succ]
                  refine wpAnyH_ready (rs := [20]) (by kernel_rfl) (by simp) ?_
                  refine AllReadyH.cons rfl (fun K' hK => ?_) ?_
                  · refine step_bytes rfl (.tmp 63) (.tmp 72) rfl w.heap.size p cb B ([] : List Int) [y] (by rfl) (HIN.out.alloc _).drew hlp (some ⟨w2.heap.size, 0, none⟩) 1 1 (by rfl) rfl (born_at rfl).drew (by decide) (by omega) (by simp; omega) ?_
                    intro g' c' w4 ho hg hat
                    have hal : Below w2.heap.size w2 (w2.alloc (.cells #[.int .u8 y] 5)).drew := ((Below.refl _ _).alloc (Nat.le_refl _) _).drew
                    obtain ⟨x1, x2⟩ := HL2.out.outer hal hg
                    obtain ⟨hs4, ho4⟩ := HL2.out.more hal ho rfl hg hat
                    have HO4 := hide ho4
                    have HB4 : Hid (Below w.heap.size w w4) := hide ((below_nextB HW2.out HW2.out.size hal).grown hg (by simp; omega) (own_row_ge HIN.out))
                    clear ho hg hat ho4 hal
                    refine hK.out _ _ (HS.out _ HB4.out) (fun hHeld => ?_)
                    clear hK
                    try simp only [Act.put, List.setIfInBounds_toArray, List.set_cons_zero, List.set_cons_succ]
                    refine wpAnyH_take (i := 21) (v := ?_) rfl (by kernel_rfl) (by kernel_rfl) (by kernel_rfl) (fun _ _ _ h => h) (Or.inl ⟨by rfl, ?hy⟩) (by assumption) ?_
                    case hy => intro w hSw; (try dsimp only at hSw); go_simp; (try with_reducible rfl)
                    try simp only [Act.put, List.setIfInBounds_toArray, List.set_cons_zero, List.set_cons_succ]
                    refine wpAnyH_take (i := 22) (v := ?_) rfl (by kernel_rfl) (by kernel_rfl) (by kernel_rfl) (fun _ _ _ h => h) (Or.inl ⟨by rfl, ?hy⟩) (by assumption) ?_
                    case hy => intro w hSw; (try dsimp only at hSw); go_simp; (try with_reducible rfl)
                    try simp only [Act.put, List.setIfInBounds_toArray, List.set_cons_zero, List.set_cons_succ]
                    refine wpAnyH_ready (rs := [23]) (by kernel_rfl) (by simp) ?_
                    refine AllReadyH.cons rfl (fun K' hK => ?_) ?_
                    · go_simp
                      refine hK.out _ _ (HS.out _ (HB4.out.setCell hge _)) (fun hHeld => ?_)
                      clear hK
                      try simp only [Act.put, List.setIfInBounds_toArray, List.set_cons_zero, List.set_cons_succ]
                      refine wpAnyH_done (by kernel_rfl) ?_ _
                      try refine NoPanic.normal ?_
                      go_wp2_with fail
                      go_roundw
                      case rel => exact ⟨k + 1, a + 1, 0, q + 1, _, _, hs4, rfl, by go_num, by go_num, by go_num, by omega, hide (by rw [HX.out, HXS.out]; exact ⟨rfl, by first | rfl | (have := HSA.out; dsimp only; omega)⟩), hide (by rw [HX.out, HXS.out]; exact HO4.out), hide (HB4.out.setCell hge _)⟩
                      case measure => simp [intOf]; omega
                    · exact AllReadyH.nil
                  · exact AllReadyH.nil
                · exact AllReadyH.nil
              · exact AllReadyH.nil
            · have hz1d : decide (z < 1) = false := by simpa using hz1
              obtain ⟨rz, hrz⟩ : ∃ rz, szAt zs a = rz := ⟨_, rfl⟩
              rw [hrz] at HSA HXS HZB
              have hzr : z = (rz : Int) := by have := HSA.out; omega
              subst hzr
              have hrz1 : 1 ≤ rz := by omega
              have hrz2 := HZB.out
              clear hrz
              go_wp2_with (at_builtin; go_loud (refine wpList_chunk rfl (.tmp 44) (.tmp 51) rfl w.heap.size n1 c1 _ _ f (.slice none 0 0) rfl (HO.out.own.alloc _) wr.heap.size rfl (Blk.born wr 33 _) rfl (by omega) (by have := HW.out.size; simp; omega) ?_))
              intro A2 c2 w2 ho hg
              obtain ⟨hs2, ho2⟩ := HO.out.bare ((Below.refl _ _).alloc (Nat.le_refl _) _) ho hg
              have HW2 : Hid (Below w.heap.size w w2) := hide ((HW.out.alloc HW.out.size _).grown hg (by have := HW.out.size; simp; omega) (own_row_ge HO.out.own))
              clear ho hg HO HW a0 a1 hcz
              obtain ⟨g, q, hs0, B, p, cb, rfl, hqe, hlc⟩ := ho2.toLast
              have HL2 := hide hlc
              have hp : p ≤ 5000 := by have h2 := hlc.lp; simp at h2; omega
              clear hlc ho2
              obtain rfl : q = n1 := by omega
              clear hqe
              go_wp2_with fail
              obtain ⟨e0, e1, e2, inn, hge⟩ := HL2.out.facts
              have HIN := hide inn
              have hlp := HL2.out.lp
              have e1A : (w2.alloc (.cells #[.int .u8 y] 5)).cell? ⟨g, q * 2 + 1, none⟩ = some (.slice B p cb) := (HL2.out.kept ((Below.refl _ _).alloc (Nat.le_refl _) _)).facts.2.1
              have hWs := HW2.out.size
              obtain ⟨s1, s2⟩ := HS.out w2 HW2.out
              have q1 : (q : Int) < (q : Int) + 1 := by omega
              have q3 : (0 : Int) ≤ (q : Int) := by omega
              have qw : IntKind.i64.wrap (q : Int) = (q : Int) := by rw [IntKind.wrap_i64]; omega
              clear inn
              refine wp_region_held_drew (S := fun w' => w'.cell? ⟨ga, oa + i * 2 + 1, none⟩ = some (.slice (some ⟨gb, ob, none⟩) m cd) ∧ w'.cell? ⟨gb, ob + k, none⟩ = some (.int .u8 y)) (by kernel_rfl) (⟨s1, s2⟩) (fun hHeld => ?_)
              refine wpAnyH_take (i := 0) (v := ?_) rfl (by kernel_rfl) (by kernel_rfl) (by kernel_rfl) (fun _ _ _ h => h) (Or.inl ⟨by rfl, ?hy⟩) (by assumption) ?_
              case hy => intro w hSw; (try dsimp only at hSw); go_simp; (try with_reducible rfl)
              try simp only [Act.put, List.setIfInBounds_toArray, List.set_cons_zero, List.set_cons_succ]
              refine wpAnyH_take (i := 1) (v := ?_) rfl (by kernel_rfl) (by kernel_rfl) (by kernel_rfl) (fun _ _ _ h => h) (Or.inl ⟨by rfl, ?hy⟩) (by assumption) ?_
              case hy => intro w hSw; (try dsimp only at hSw); go_simp; (try with_reducible rfl)
              try simp only [Act.put, List.setIfInBounds_toArray, List.set_cons_zero, List.set_cons_succ]
              refine wpAnyH_take (i := 2) (v := ?_) rfl (by kernel_rfl) (by kernel_rfl) (by kernel_rfl) (fun _ _ _ h => h) (Or.inl ⟨by rfl, ?hy⟩) (by assumption) ?_
              case hy => intro w hSw; (try dsimp only at hSw); go_simp; (try with_reducible rfl)
              try simp only [Act.put, List.setIfInBounds_toArray, List.set_cons_zero, List.set_cons_succ]
              refine wpAnyH_take (i := 3) (v := ?_) rfl (by kernel_rfl) (by kernel_rfl) (by kernel_rfl) (fun _ _ _ h => h) (Or.inl ⟨by rfl, ?hy⟩) (by assumption) ?_
              case hy => intro w hSw; (try dsimp only at hSw); go_simp; (try with_reducible rfl)
              try simp only [Act.put, List.setIfInBounds_toArray, List.set_cons_zero, List.set_cons_succ]
              refine wpAnyH_take (i := 4) (v := ?_) rfl (by kernel_rfl) (by kernel_rfl) (by kernel_rfl) (fun _ _ _ h => h) (Or.inl ⟨by rfl, ?hy⟩) (by assumption) ?_
              case hy => intro w hSw; (try dsimp only at hSw); go_simp; (try with_reducible rfl)
              try simp only [Act.put, List.setIfInBounds_toArray, List.set_cons_zero, List.set_cons_succ]
              refine wpAnyH_take (i := 5) (v := ?_) rfl (by kernel_rfl) (by kernel_rfl) (by kernel_rfl) (fun _ _ _ h => h) (Or.inl ⟨by rfl, ?hy⟩) (by assumption) ?_
              case hy => intro w hSw; (try dsimp only at hSw); go_simp; (try with_reducible rfl)
              try simp only [Act.put, List.setIfInBounds_toArray, List.set_cons_zero, List.set_cons_succ]
              refine wpAnyH_take (i := 6) (v := ?_) rfl (by kernel_rfl) (by kernel_rfl) (by kernel_rfl) (fun _ _ _ h => h) (Or.inl ⟨by rfl, ?hy⟩) (by assumption) ?_
              case hy => intro w hSw; (try dsimp only at hSw); go_simp; (try with_reducible rfl)
              try simp only [Act.put, List.setIfInBounds_toArray, List.set_cons_zero, List.set_cons_succ]
              refine wpAnyH_take (i := 7) (v := ?_) rfl (by kernel_rfl) (by kernel_rfl) (by kernel_rfl) (fun _ _ _ h => h) (Or.inl ⟨by rfl, ?hy⟩) (by assumption) ?_
              case hy => intro w hSw; (try dsimp only at hSw); go_simp; (try with_reducible rfl)
              try simp only [Act.put, List.setIfInBounds_toArray, List.set_cons_zero, List.set_cons_succ]
              refine wpAnyH_take (i := 8) (v := ?_) rfl (by kernel_rfl) (by kernel_rfl) (by kernel_rfl) (fun _ _ _ h => h) (Or.inl ⟨by rfl, ?hy⟩) (by assumption) ?_
              case hy => intro w hSw; (try dsimp only at hSw); go_simp; (try with_reducible rfl)
              try simp only [Act.put, List.setIfInBounds_toArray, List.set_cons_zero, List.set_cons_succ]
              refine wpAnyH_take (i := 9) (v := ?_) rfl (by kernel_rfl) (by kernel_rfl) (by kernel_rfl) (fun _ _ _ h => h) (Or.inl ⟨by rfl, ?hy⟩) (by assumption) ?_
              case hy => intro w hSw; (try dsimp only at hSw); go_simp; (try with_reducible rfl)
              try simp only [Act.put, List.setIfInBounds_toArray, List.set_cons_zero, List.set_cons_succ]
              refine wpAnyH_take (i := 11) (v := ?_) rfl (by kernel_rfl) (by kernel_rfl) (by kernel_rfl) (fun _ _ _ h => h) (Or.inl ⟨by rfl, ?hy⟩) (by assumption) ?_
              case hy => intro w hSw; (try dsimp only at hSw); go_simp; (try with_reducible rfl)
              try simp only [Act.put, List.setIfInBounds_toArray, List.set_cons_zero, List.set_cons_succ]
              refine wpAnyH_take (i := 12) (v := ?_) rfl (by kernel_rfl) (by kernel_rfl) (by kernel_rfl) (fun _ _ _ h => h) (Or.inl ⟨by rfl, ?hy⟩) (by assumption) ?_
              case hy => intro w hSw; (try dsimp only at hSw); go_simp; (try with_reducible rfl)
              try simp only [Act.put, List.setIfInBounds_toArray, List.set_cons_zero, List.set_cons_succ]
              refine wpAnyH_take (i := 13) (v := ?_) rfl (by kernel_rfl) (by kernel_rfl) (by kernel_rfl) (fun _ _ _ h => h) (Or.inl ⟨by rfl, ?hy⟩) (by assumption) ?_
              case hy => intro w hSw; (try dsimp only at hSw); go_simp; (try with_reducible rfl)
              try simp only [Act.put, List.setIfInBounds_toArray, List.set_cons_zero, List.set_cons_succ]
              refine wpAnyH_take (i := 14) (v := ?_) rfl (by kernel_rfl) (by kernel_rfl) (by kernel_rfl) (fun _ _ _ h => h) (Or.inl ⟨by rfl, ?hy⟩) (by assumption) ?_
              case hy => intro w hSw; (try dsimp only at hSw); go_simp; (try with_reducible rfl)
              try simp only [Act.put, List.setIfInBounds_toArray, List.set_cons_zero, List.set_cons_succ]
              refine wpAnyH_take (i := 15) (v := ?_) rfl (by kernel_rfl) (by kernel_rfl) (by kernel_rfl) (fun _ _ _ h => h) (Or.inl ⟨by rfl, ?hy⟩) (by assumption) ?_
              case hy => intro w hSw; (try dsimp only at hSw); go_simp; (try with_reducible rfl)
              try simp only [Act.put, List.setIfInBounds_toArray, List.set_cons_zero, List.set_cons_succ]
              refine wpAnyH_take (i := 16) (v := ?_) rfl (by kernel_rfl) (by kernel_rfl) (by kernel_rfl) (fun _ _ _ h => h) (Or.inl ⟨by rfl, ?hy⟩) (by assumption) ?_
              case hy => intro w hSw; (try dsimp only at hSw); go_simp; (try with_reducible rfl)
              try simp only [Act.put, List.setIfInBounds_toArray, List.set_cons_zero, List.set_cons_succ]
              refine wpAnyH_take (i := 17) (v := ?_) rfl (by kernel_rfl) (by kernel_rfl) (by kernel_rfl) (fun _ _ _ h => h) (Or.inl ⟨by rfl, ?hy⟩) (by assumption) ?_
              case hy => intro w hSw; (try dsimp only at hSw); go_simp; (try with_reducible rfl)
              try simp only [Act.put, List.setIfInBounds_toArray, List.set_cons_zero, List.set_cons_succ]
              refine wpAnyH_take (i := 18) (v := ?_) rfl (by kernel_rfl) (by kernel_rfl) (by kernel_rfl) (fun _ _ _ h => h) (Or.inl ⟨by rfl, ?hy⟩) (by assumption) ?_
              case hy => intro w hSw; (try dsimp only at hSw); go_simp; (try with_reducible rfl)
              try simp only [Act.put, List.setIfInBounds_toArray, List.set_cons_zero, List.set_cons_succ]
              refine wpAnyH_ready (rs := [10, 19]) (by kernel_rfl) (by simp) ?_
              refine AllReadyH.cons rfl (fun K' hK => ?_) ?_
              · go_simp
                refine hK.out _ _ (HS.out _ HW2.out.drew) (fun hHeld => ?_)
                clear hK
                try simp only [Act.put, List.setIfInBounds_toArray, List.set_cons_zero, List.set_cons_succ]
                refine wpAnyH_ready (rs := [19]) (by kernel_rfl) (by simp) ?_
                refine AllReadyH.cons rfl (fun K' hK => ?_) ?_
                · go_simp
                  refine hK.out _ _ (HS.out _ (HW2.out.alloc HW2.out.size _).drew) (fun hHeld => ?_)
                  clear hK
                  try simp only [Act.put, List.setIfInBounds_toArray, List.set_cons_zero, List.set_cons_succ]
                  refine wpAnyH_ready (rs := [20]) (by kernel_rfl) (by simp) ?_
                  refine AllReadyH.cons rfl (fun K' hK => ?_) ?_
                  · refine step_bytes rfl (.tmp 63) (.tmp 72) rfl w.heap.size p cb B ([] : List Int) [y] (by rfl) (HIN.out.alloc _).drew hlp (some ⟨w2.heap.size, 0, none⟩) 1 1 (by rfl) rfl (born_at rfl).drew (by decide) (by omega) (by simp; omega) ?_
                    intro g' c' w4 ho hg hat
                    have hal : Below w2.heap.size w2 (w2.alloc (.cells #[.int .u8 y] 5)).drew := ((Below.refl _ _).alloc (Nat.le_refl _) _).drew
                    obtain ⟨x1, x2⟩ := HL2.out.outer hal hg
                    obtain ⟨hs4, ho4⟩ := HL2.out.more hal ho rfl hg hat
                    have HO4 := hide ho4
                    have HB4 : Hid (Below w.heap.size w w4) := hide ((below_nextB HW2.out HW2.out.size hal).grown hg (by simp; omega) (own_row_ge HIN.out))
                    clear ho hg hat ho4 hal
                    refine hK.out _ _ (HS.out _ HB4.out) (fun hHeld => ?_)
                    clear hK
                    try simp only [Act.put, List.setIfInBounds_toArray, List.set_cons_zero, List.set_cons_succ]
                    refine wpAnyH_take (i := 21) (v := ?_) rfl (by kernel_rfl) (by kernel_rfl) (by kernel_rfl) (fun _ _ _ h => h) (Or.inl ⟨by rfl, ?hy⟩) (by assumption) ?_
                    case hy => intro w hSw; (try dsimp only at hSw); go_simp; (try with_reducible rfl)
                    try simp only [Act.put, List.setIfInBounds_toArray, List.set_cons_zero, List.set_cons_succ]
                    refine wpAnyH_take (i := 22) (v := ?_) rfl (by kernel_rfl) (by kernel_rfl) (by kernel_rfl) (fun _ _ _ h => h) (Or.inl ⟨by rfl, ?hy⟩) (by assumption) ?_
                    case hy => intro w hSw; (try dsimp only at hSw); go_simp; (try with_reducible rfl)
                    try simp only [Act.put, List.setIfInBounds_toArray, List.set_cons_zero, List.set_cons_succ]
                    refine wpAnyH_ready (rs := [23]) (by kernel_rfl) (by simp) ?_
                    refine AllReadyH.cons rfl (fun K' hK => ?_) ?_
                    · go_simp
                      refine hK.out _ _ (HS.out _ (HB4.out.setCell hge _)) (fun hHeld => ?_)
                      clear hK
                      try simp only [Act.put, List.setIfInBounds_toArray, List.set_cons_zero, List.set_cons_succ]
                      refine wpAnyH_done (by kernel_rfl) ?_ _
                      try refine NoPanic.normal ?_
                      go_wp2_with fail
                      go_roundw
                      case rel => exact ⟨k + 1, a + 1, rz - 1, q + 1, _, _, hs4, rfl, by go_num, by go_num, by go_num, by omega, hide (by rw [HX.out, HXS.out]; exact ⟨rfl, by first | rfl | (have := HSA.out; dsimp only; omega)⟩), hide (by rw [HX.out, HXS.out]; exact HO4.out), hide (HB4.out.setCell hge _)⟩
                      case measure => simp [intOf]; omega
                    · exact AllReadyH.nil
                  · exact AllReadyH.nil
                · exact AllReadyH.nil
              refine AllReadyH.cons rfl (fun K' hK => ?_) ?_
              · go_simp
                refine hK.out _ _ (HS.out _ (HW2.out.alloc HW2.out.size _).drew) (fun hHeld => ?_)
                clear hK
                try simp only [Act.put, List.setIfInBounds_toArray, List.set_cons_zero, List.set_cons_succ]
                refine wpAnyH_ready (rs := [10]) (by kernel_rfl) (by simp) ?_
                refine AllReadyH.cons rfl (fun K' hK => ?_) ?_
                · go_simp
                  refine hK.out _ _ (HS.out _ (HW2.out.alloc HW2.out.size _).drew) (fun hHeld => ?_)
                  clear hK
                  try simp only [Act.put, List.setIfInBounds_toArray, List.set_cons_zero, List.set_cons_succ]
                  refine wpAnyH_ready (rs := [20]) (by kernel_rfl) (by simp) ?_
                  refine AllReadyH.cons rfl (fun K' hK => ?_) ?_
                  · refine step_bytes rfl (.tmp 63) (.tmp 72) rfl w.heap.size p cb B ([] : List Int) [y] (by rfl) (HIN.out.alloc _).drew hlp (some ⟨w2.heap.size, 0, none⟩) 1 1 (by rfl) rfl (born_at rfl).drew (by decide) (by omega) (by simp; omega) ?_
                    intro g' c' w4 ho hg hat
                    have hal : Below w2.heap.size w2 (w2.alloc (.cells #[.int .u8 y] 5)).drew := ((Below.refl _ _).alloc (Nat.le_refl _) _).drew
                    obtain ⟨x1, x2⟩ := HL2.out.outer hal hg
                    obtain ⟨hs4, ho4⟩ := HL2.out.more hal ho rfl hg hat
                    have HO4 := hide ho4
                    have HB4 : Hid (Below w.heap.size w w4) := hide ((below_nextB HW2.out HW2.out.size hal).grown hg (by simp; omega) (own_row_ge HIN.out))
                    clear ho hg hat ho4 hal
                    refine hK.out _ _ (HS.out _ HB4.out) (fun hHeld => ?_)
                    clear hK
                    try simp only [Act.put, List.setIfInBounds_toArray, List.set_cons_zero, List.set_cons_succ]
                    refine wpAnyH_take (i := 21) (v := ?_) rfl (by kernel_rfl) (by kernel_rfl) (by kernel_rfl) (fun _ _ _ h => h) (Or.inl ⟨by rfl, ?hy⟩) (by assumption) ?_
                    case hy => intro w hSw; (try dsimp only at hSw); go_simp; (try with_reducible rfl)
                    try simp only [Act.put, List.setIfInBounds_toArray, List.set_cons_zero, List.set_cons_succ]
                    refine wpAnyH_take (i := 22) (v := ?_) rfl (by kernel_rfl) (by kernel_rfl) (by kernel_rfl) (fun _ _ _ h => h) (Or.inl ⟨by rfl, ?hy⟩) (by assumption) ?_
                    case hy => intro w hSw; (try dsimp only at hSw); go_simp; (try with_reducible rfl)
                    try simp only [Act.put, List.setIfInBounds_toArray, List.set_cons_zero, List.set_cons_succ]
                    refine wpAnyH_ready (rs := [23]) (by kernel_rfl) (by simp) ?_
                    refine AllReadyH.cons rfl (fun K' hK => ?_) ?_
                    · go_simp
                      refine hK.out _ _ (HS.out _ (HB4.out.setCell hge _)) (fun hHeld => ?_)
                      clear hK
                      try simp only [Act.put, List.setIfInBounds_toArray, List.set_cons_zero, List.set_cons_succ]
                      refine wpAnyH_done (by kernel_rfl) ?_ _
                      try refine NoPanic.normal ?_
                      go_wp2_with fail
                      go_roundw
                      case rel => exact ⟨k + 1, a + 1, rz - 1, q + 1, _, _, hs4, rfl, by go_num, by go_num, by go_num, by omega, hide (by rw [HX.out, HXS.out]; exact ⟨rfl, by first | rfl | (have := HSA.out; dsimp only; omega)⟩), hide (by rw [HX.out, HXS.out]; exact HO4.out), hide (HB4.out.setCell hge _)⟩
                      case measure => simp [intOf]; omega
                    · exact AllReadyH.nil
                  · exact AllReadyH.nil
                · exact AllReadyH.nil
              · exact AllReadyH.nil
          · have hrd : ((rm : Int) == 0) = false := by simp; omega
            obtain ⟨o1, cc, ho1⟩ := HB.out.2.2.2.1 (by have := HAt.out.2; omega)
            have HXS : Hid (r.step zs f y = ⟨o1 ++ [(f, cc ++ [y])], a, rm - 1⟩) := hide (by unfold CSt.step; rw [if_neg (by have := HAt.out.2; omega), ho1, addB_snoc, HAt.out.1, HAt.out.2])
            have HB5 : Hid (tot (o1 ++ [(f, cc)]) + 1 ≤ 5000 ∧ (o1 ++ [(f, cc)]).length + 1 ≤ 5000) := hide (by rw [← ho1]; have := HB.out; omega)
            rw [ho1] at HO
            clear ho1
            obtain ⟨g, q, hs0, B, p, cb, rfl, rfl, hlc⟩ := HO.out.toLast
            have HL2 := hide hlc
            have hq : q ≤ 5000 := by have h1 := HB5.out.2; have h2 := hlc.lq; simp at h1; omega
            have hp : p ≤ 5000 := by have h1 := HB5.out.1; have h2 := hlc.lp; rw [tot_snoc] at h1; simp at h1; omega
            clear hlc HO
            go_wp2_with fail
            obtain ⟨e0, e1, e2, inn, hge⟩ := HL2.out.facts
            have HIN := hide inn
            have hlp := HL2.out.lp
            have e1A : (wr.alloc (.cells #[.int .u8 y] 5)).cell? ⟨g, q * 2 + 1, none⟩ = some (.slice B p cb) := (HL2.out.kept ((Below.refl _ _).alloc (Nat.le_refl _) _)).facts.2.1
            have hWs := HW.out.size
            obtain ⟨s1, s2⟩ := HS.out wr HW.out
            have q1 : (q : Int) < (q : Int) + 1 := by omega
            have q3 : (0 : Int) ≤ (q : Int) := by omega
            have qw : IntKind.i64.wrap (q : Int) = (q : Int) := by rw [IntKind.wrap_i64]; omega
            clear inn
            refine wp_region_held_drew (S := fun w' => w'.cell? ⟨ga, oa + i * 2 + 1, none⟩ = some (.slice (some ⟨gb, ob, none⟩) m cd) ∧ w'.cell? ⟨gb, ob + k, none⟩ = some (.int .u8 y)) (by kernel_rfl) (⟨s1, s2⟩) (fun hHeld => ?_)
            refine wpAnyH_take (i := 0) (v := ?_) rfl (by kernel_rfl) (by kernel_rfl) (by kernel_rfl) (fun _ _ _ h => h) (Or.inl ⟨by rfl, ?hy⟩) (by assumption) ?_
            case hy => intro w hSw; (try dsimp only at hSw); go_simp; (try with_reducible rfl)
            try simp only [Act.put, List.setIfInBounds_toArray, List.set_cons_zero, List.set_cons_succ]
            refine wpAnyH_take (i := 1) (v := ?_) rfl (by kernel_rfl) (by kernel_rfl) (by kernel_rfl) (fun _ _ _ h => h) (Or.inl ⟨by rfl, ?hy⟩) (by assumption) ?_
            case hy => intro w hSw; (try dsimp only at hSw); go_simp; (try with_reducible rfl)
            try simp only [Act.put, List.setIfInBounds_toArray, List.set_cons_zero, List.set_cons_succ]
            refine wpAnyH_take (i := 2) (v := ?_) rfl (by kernel_rfl) (by kernel_rfl) (by kernel_rfl) (fun _ _ _ h => h) (Or.inl ⟨by rfl, ?hy⟩) (by assumption) ?_
            case hy => intro w hSw; (try dsimp only at hSw); go_simp; (try with_reducible rfl)
            try simp only [Act.put, List.setIfInBounds_toArray, List.set_cons_zero, List.set_cons_succ]
            refine wpAnyH_take (i := 3) (v := ?_) rfl (by kernel_rfl) (by kernel_rfl) (by kernel_rfl) (fun _ _ _ h => h) (Or.inl ⟨by rfl, ?hy⟩) (by assumption) ?_
            case hy => intro w hSw; (try dsimp only at hSw); go_simp; (try with_reducible rfl)
            try simp only [Act.put, List.setIfInBounds_toArray, List.set_cons_zero, List.set_cons_succ]
            refine wpAnyH_take (i := 4) (v := ?_) rfl (by kernel_rfl) (by kernel_rfl) (by kernel_rfl) (fun _ _ _ h => h) (Or.inl ⟨by rfl, ?hy⟩) (by assumption) ?_
            case hy => intro w hSw; (try dsimp only at hSw); go_simp; (try with_reducible rfl)
            try simp only [Act.put, List.setIfInBounds_toArray, List.set_cons_zero, List.set_cons_succ]
            refine wpAnyH_take (i := 5) (v := ?_) rfl (by kernel_rfl) (by kernel_rfl) (by kernel_rfl) (fun _ _ _ h => h) (Or.inl ⟨by rfl, ?hy⟩) (by assumption) ?_
            case hy => intro w hSw; (try dsimp only at hSw); go_simp; (try with_reducible rfl)
            try simp only [Act.put, List.setIfInBounds_toArray, List.set_cons_zero, List.set_cons_succ]
            refine wpAnyH_take (i := 6) (v := ?_) rfl (by kernel_rfl) (by kernel_rfl) (by kernel_rfl) (fun _ _ _ h => h) (Or.inl ⟨by rfl, ?hy⟩) (by assumption) ?_
            case hy => intro w hSw; (try dsimp only at hSw); go_simp; (try with_reducible rfl)
            try simp only [Act.put, List.setIfInBounds_toArray, List.set_cons_zero, List.set_cons_succ]
            refine wpAnyH_take (i := 7) (v := ?_) rfl (by kernel_rfl) (by kernel_rfl) (by kernel_rfl) (fun _ _ _ h => h) (Or.inl ⟨by rfl, ?hy⟩) (by assumption) ?_
            case hy => intro w hSw; (try dsimp only at hSw); go_simp; (try with_reducible rfl)
            try simp only [Act.put, List.setIfInBounds_toArray, List.set_cons_zero, List.set_cons_succ]
            refine wpAnyH_take (i := 8) (v := ?_) rfl (by kernel_rfl) (by kernel_rfl) (by kernel_rfl) (fun _ _ _ h => h) (Or.inl ⟨by rfl, ?hy⟩) (by assumption) ?_
            case hy => intro w hSw; (try dsimp only at hSw); go_simp; (try with_reducible rfl)
            try simp only [Act.put, List.setIfInBounds_toArray, List.set_cons_zero, List.set_cons_succ]
            refine wpAnyH_take (i := 9) (v := ?_) rfl (by kernel_rfl) (by kernel_rfl) (by kernel_rfl) (fun _ _ _ h => h) (Or.inl ⟨by rfl, ?hy⟩) (by assumption) ?_
            case hy => intro w hSw; (try dsimp only at hSw); go_simp; (try with_reducible rfl)
            try simp only [Act.put, List.setIfInBounds_toArray, List.set_cons_zero, List.set_cons_succ]
            refine wpAnyH_take (i := 11) (v := ?_) rfl (by kernel_rfl) (by kernel_rfl) (by kernel_rfl) (fun _ _ _ h => h) (Or.inl ⟨by rfl, ?hy⟩) (by assumption) ?_
            case hy => intro w hSw; (try dsimp only at hSw); go_simp; (try with_reducible rfl)
            try simp only [Act.put, List.setIfInBounds_toArray, List.set_cons_zero, List.set_cons_succ]
            refine wpAnyH_take (i := 12) (v := ?_) rfl (by kernel_rfl) (by kernel_rfl) (by kernel_rfl) (fun _ _ _ h => h) (Or.inl ⟨by rfl, ?hy⟩) (by assumption) ?_
            case hy => intro w hSw; (try dsimp only at hSw); go_simp; (try with_reducible rfl)
            try simp only [Act.put, List.setIfInBounds_toArray, List.set_cons_zero, List.set_cons_succ]
            refine wpAnyH_take (i := 13) (v := ?_) rfl (by kernel_rfl) (by kernel_rfl) (by kernel_rfl) (fun _ _ _ h => h) (Or.inl ⟨by rfl, ?hy⟩) (by assumption) ?_
            case hy => intro w hSw; (try dsimp only at hSw); go_simp; (try with_reducible rfl)
            try simp only [Act.put, List.setIfInBounds_toArray, List.set_cons_zero, List.set_cons_succ]
            refine wpAnyH_take (i := 14) (v := ?_) rfl (by kernel_rfl) (by kernel_rfl) (by kernel_rfl) (fun _ _ _ h => h) (Or.inl ⟨by rfl, ?hy⟩) (by assumption) ?_
            case hy => intro w hSw; (try dsimp only at hSw); go_simp; (try with_reducible rfl)
            try simp only [Act.put, List.setIfInBounds_toArray, List.set_cons_zero, List.set_cons_succ]
            refine wpAnyH_take (i := 15) (v := ?_) rfl (by kernel_rfl) (by kernel_rfl) (by kernel_rfl) (fun _ _ _ h => h) (Or.inl ⟨by rfl, ?hy⟩) (by assumption) ?_
            case hy => intro w hSw; (try dsimp only at hSw); go_simp; (try with_reducible rfl)
            try simp only [Act.put, List.setIfInBounds_toArray, List.set_cons_zero, List.set_cons_succ]
            refine wpAnyH_take (i := 16) (v := ?_) rfl (by kernel_rfl) (by kernel_rfl) (by kernel_rfl) (fun _ _ _ h => h) (Or.inl ⟨by rfl, ?hy⟩) (by assumption) ?_
            case hy => intro w hSw; (try dsimp only at hSw); go_simp; (try with_reducible rfl)
            try simp only [Act.put, List.setIfInBounds_toArray, List.set_cons_zero, List.set_cons_succ]
            refine wpAnyH_take (i := 17) (v := ?_) rfl (by kernel_rfl) (by kernel_rfl) (by kernel_rfl) (fun _ _ _ h => h) (Or.inl ⟨by rfl, ?hy⟩) (by assumption) ?_
            case hy => intro w hSw; (try dsimp only at hSw); go_simp; (try with_reducible rfl)
            try simp only [Act.put, List.setIfInBounds_toArray, List.set_cons_zero, List.set_cons_succ]
            refine wpAnyH_take (i := 18) (v := ?_) rfl (by kernel_rfl) (by kernel_rfl) (by kernel_rfl) (fun _ _ _ h => h) (Or.inl ⟨by rfl, ?hy⟩) (by assumption) ?_
            case hy => intro w hSw; (try dsimp only at hSw); go_simp; (try with_reducible rfl)
            try simp only [Act.put, List.setIfInBounds_toArray, List.set_cons_zero, List.set_cons_succ]
            refine wpAnyH_ready (rs := [10, 19]) (by kernel_rfl) (by simp) ?_
            refine AllReadyH.cons rfl (fun K' hK => ?_) ?_
            · go_simp
              refine hK.out _ _ (HS.out _ HW.out.drew) (fun hHeld => ?_)
              clear hK
              try simp only [Act.put, List.setIfInBounds_toArray, List.set_cons_zero, List.set_cons_succ]
              refine wpAnyH_ready (rs := [19]) (by kernel_rfl) (by simp) ?_
              refine AllReadyH.cons rfl (fun K' hK => ?_) ?_
              · go_simp
                refine hK.out _ _ (HS.out _ (HW.out.alloc HW.out.size _).drew) (fun hHeld => ?_)
                clear hK
                try simp only [Act.put, List.setIfInBounds_toArray, List.set_cons_zero, List.set_cons_succ]
                refine wpAnyH_ready (rs := [20]) (by kernel_rfl) (by simp) ?_
                refine AllReadyH.cons rfl (fun K' hK => ?_) ?_
                · refine step_bytes rfl (.tmp 63) (.tmp 72) rfl w.heap.size p cb B cc [y] (by rfl) (HIN.out.alloc _).drew hlp (some ⟨wr.heap.size, 0, none⟩) 1 1 (by rfl) rfl (born_at rfl).drew (by decide) (by omega) (by simp; omega) ?_
                  intro g' c' w4 ho hg hat
                  have hal : Below wr.heap.size wr (wr.alloc (.cells #[.int .u8 y] 5)).drew := ((Below.refl _ _).alloc (Nat.le_refl _) _).drew
                  obtain ⟨x1, x2⟩ := HL2.out.outer hal hg
                  obtain ⟨hs4, ho4⟩ := HL2.out.more hal ho rfl hg hat
                  have HO4 := hide ho4
                  have HB4 : Hid (Below w.heap.size w w4) := hide ((below_nextB HW.out HW.out.size hal).grown hg (by simp; omega) (own_row_ge HIN.out))
                  clear ho hg hat ho4 hal
                  refine hK.out _ _ (HS.out _ HB4.out) (fun hHeld => ?_)
                  clear hK
                  try simp only [Act.put, List.setIfInBounds_toArray, List.set_cons_zero, List.set_cons_succ]
                  refine wpAnyH_take (i := 21) (v := ?_) rfl (by kernel_rfl) (by kernel_rfl) (by kernel_rfl) (fun _ _ _ h => h) (Or.inl ⟨by rfl, ?hy⟩) (by assumption) ?_
                  case hy => intro w hSw; (try dsimp only at hSw); go_simp; (try with_reducible rfl)
                  try simp only [Act.put, List.setIfInBounds_toArray, List.set_cons_zero, List.set_cons_succ]
                  refine wpAnyH_take (i := 22) (v := ?_) rfl (by kernel_rfl) (by kernel_rfl) (by kernel_rfl) (fun _ _ _ h => h) (Or.inl ⟨by rfl, ?hy⟩) (by assumption) ?_
                  case hy => intro w hSw; (try dsimp only at hSw); go_simp; (try with_reducible rfl)
                  try simp only [Act.put, List.setIfInBounds_toArray, List.set_cons_zero, List.set_cons_succ]
                  refine wpAnyH_ready (rs := [23]) (by kernel_rfl) (by simp) ?_
                  refine AllReadyH.cons rfl (fun K' hK => ?_) ?_
                  · go_simp
                    refine hK.out _ _ (HS.out _ (HB4.out.setCell hge _)) (fun hHeld => ?_)
                    clear hK
                    try simp only [Act.put, List.setIfInBounds_toArray, List.set_cons_zero, List.set_cons_succ]
                    refine wpAnyH_done (by kernel_rfl) ?_ _
                    try refine NoPanic.normal ?_
                    go_wp2_with fail
                    go_roundw
                    case rel => exact ⟨k + 1, a, rm - 1, q + 1, _, _, hs4, rfl, rfl, by go_num, by go_num, by omega, hide (by rw [HX.out, HXS.out]; exact ⟨rfl, rfl⟩), hide (by rw [HX.out, HXS.out]; exact HO4.out), hide (HB4.out.setCell hge _)⟩
                    case measure => simp [intOf]; omega
                  · exact AllReadyH.nil
                · exact AllReadyH.nil
              · exact AllReadyH.nil
            refine AllReadyH.cons rfl (fun K' hK => ?_) ?_
            · go_simp
              refine hK.out _ _ (HS.out _ (HW.out.alloc HW.out.size _).drew) (fun hHeld => ?_)
              clear hK
              try simp only [Act.put, List.setIfInBounds_toArray, List.set_cons_zero, List.set_cons_succ]
              refine wpAnyH_ready (rs := [10]) (by kernel_rfl) (by simp) ?_
              refine AllReadyH.cons rfl (fun K' hK => ?_) ?_
              · go_simp
                refine hK.out _ _ (HS.out _ (HW.out.alloc HW.out.size _).drew) (fun hHeld => ?_)
                clear hK
                try simp only [Act.put, List.setIfInBounds_toArray, List.set_cons_zero, List.set_cons_succ]
                refine wpAnyH_ready (rs := [20]) (by kernel_rfl) (by simp) ?_
                refine AllReadyH.cons rfl (fun K' hK => ?_) ?_
                · refine step_bytes rfl (.tmp 63) (.tmp 72) rfl w.heap.size p cb B cc [y] (by rfl) (HIN.out.alloc _).drew hlp (some ⟨wr.heap.size, 0, none⟩) 1 1 (by rfl) rfl (born_at rfl).drew (by decide) (by omega) (by simp; omega) ?_
                  intro g' c' w4 ho hg hat
                  have hal : Below wr.heap.size wr (wr.alloc (.cells #[.int .u8 y] 5)).drew := ((Below.refl _ _).alloc (Nat.le_refl _) _).drew
                  obtain ⟨x1, x2⟩ := HL2.out.outer hal hg
                  obtain ⟨hs4, ho4⟩ := HL2.out.more hal ho rfl hg hat
                  have HO4 := hide ho4
                  have HB4 : Hid (Below w.heap.size w w4) := hide ((below_nextB HW.out HW.out.size hal).grown hg (by simp; omega) (own_row_ge HIN.out))
                  clear ho hg hat ho4 hal
                  refine hK.out _ _ (HS.out _ HB4.out) (fun hHeld => ?_)
                  clear hK
                  try simp only [Act.put, List.setIfInBounds_toArray, List.set_cons_zero, List.set_cons_succ]
                  refine wpAnyH_take (i := 21) (v := ?_) rfl (by kernel_rfl) (by kernel_rfl) (by kernel_rfl) (fun _ _ _ h => h) (Or.inl ⟨by rfl, ?hy⟩) (by assumption) ?_
                  case hy => intro w hSw; (try dsimp only at hSw); go_simp; (try with_reducible rfl)
                  try simp only [Act.put, List.setIfInBounds_toArray, List.set_cons_zero, List.set_cons_succ]
                  refine wpAnyH_take (i := 22) (v := ?_) rfl (by kernel_rfl) (by kernel_rfl) (by kernel_rfl) (fun _ _ _ h => h) (Or.inl ⟨by rfl, ?hy⟩) (by assumption) ?_
                  case hy => intro w hSw; (try dsimp only at hSw); go_simp; (try with_reducible rfl)
                  try simp only [Act.put, List.setIfInBounds_toArray, List.set_cons_zero, List.set_cons_succ]
                  refine wpAnyH_ready (rs := [23]) (by kernel_rfl) (by simp) ?_
                  refine AllReadyH.cons rfl (fun K' hK => ?_) ?_
                  · go_simp
                    refine hK.out _ _ (HS.out _ (HB4.out.setCell hge _)) (fun hHeld => ?_)
                    clear hK
                    try simp only [Act.put, List.setIfInBounds_toArray, List.set_cons_zero, List.set_cons_succ]
                    refine wpAnyH_done (by kernel_rfl) ?_ _
                    try refine NoPanic.normal ?_
                    go_wp2_with fail
                    go_roundw
                    case rel => exact ⟨k + 1, a, rm - 1, q + 1, _, _, hs4, rfl, rfl, by go_num, by go_num, by omega, hide (by rw [HX.out, HXS.out]; exact ⟨rfl, rfl⟩), hide (by rw [HX.out, HXS.out]; exact HO4.out), hide (HB4.out.setCell hge _)⟩
                    case measure => simp [intOf]; omega
                  · exact AllReadyH.nil
                · exact AllReadyH.nil
              · exact AllReadyH.nil
            · exact AllReadyH.nil
        · obtain rfl : k = m := by omega
          have HE : Hid (b.take k = b) := hide (List.take_of_length_le (by have := HM.out; omega))
          rw [HE.out] at HO HAt
          go_wp2_with fail
          go_roundw
          case rel => exact ⟨i + 1, a, n1, c1, A1, hs, rfl, rfl, by go_num, by omega, hide (by rw [HJ.out]; exact HAt.out.1), hide (by rw [HJ.out]; exact HO.out), HW⟩
          case measure => simp [intOf]; omega
    · have HE : Hid (l.take i = l) := hide (List.take_of_length_le (by have := HLN.out; omega))
      go_wp2_with fail
      go_ret
      refine ⟨_, _, _, hs, rfl, ?_, HW.out⟩
      have := HO.out
      rwa [HE.out] at this
    end Go.Proofs.Ytciddilphflhaaa
