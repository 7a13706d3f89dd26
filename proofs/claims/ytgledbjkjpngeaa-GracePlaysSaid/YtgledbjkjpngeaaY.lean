/- GracePlays's walk. -/
import Derived.Test.YtgledbjkjpngeaaX
import Derived.Deep.RegionWith
namespace Go.Proofs.Ytgledbjkjpngeaa
open Go.RowKit Go.Maps

section
variable {w0 w : World} {g T : Nat} {M M0 : Int} {s : St} {F : List Nat} {rb : Nat} {bs : List (List Bool)} {vs : List Value} {A1 A2 : Option Addr} {n1 c1 n2 c2 : Nat}
theorem duo_len (h : Duo w0 w g T M M0 s F rb s.ids bs vs A1 n1 c1 A2 n2 c2) (hok : s.Ok) (wq : World) (hq : Below w.heap.size w wq) :
    Calls Try.prog 16 #[.pointer (some ⟨g, 0, none⟩)] wq fun e w' => e = .returned (.int .i64 (n1 : Nat)) ∧ Below wq.heap.size wq w' :=
  (len_any g T M s F wq (hide (h.a.kept hq))).mono fun e w' hh => ⟨by rw [hh.1, hok.lb, h.r.l1], by rw [← hh.2]; exact Below.refl _ _⟩
theorem duo_can (x : Int) (h : Duo w0 w g T M M0 s F rb s.ids bs vs A1 n1 c1 A2 n2 c2) (hp : Plain M M0 s bs) (hl : s.ids.length ≤ 7) (hx : (Lit.int .i64 x).wf = true) (wq : World) (hq : Below w.heap.size w wq) (q : Bool) (hc : s.can M x = q) :
    Calls Try.prog 10 #[.pointer (some ⟨g, 0, none⟩), .int .i64 x] wq fun e w' => e = .returned (.bool q) ∧ Below wq.heap.size wq w' := by
  subst hc
  exact can_any g T M x s F wq (by omega) (hide hp.ok) (hide hx) (hide (h.a.kept hq))
theorem duo_rcan (x : Int) (h : Duo w0 w g T M M0 s F rb s.ids bs vs A1 n1 c1 A2 n2 c2) (hp : Plain M M0 s bs) (hl : s.ids.length ≤ 7) (wq : World) (hq : Below w.heap.size w wq) (q : Bool) (hc : s.can M x = q) :
    Calls Try.prog 11 #[.agg #[.int .i64 M0, .slice A1 n1 c1, .slice A2 n2 c2], .int .i64 x] wq fun e w' => e = .returned (.bool q) ∧ Below wq.heap.size wq w' := by
  have h1 := h.r.l1
  have h2 := h.r.l2
  have h3 := fits_few hp.fits hl
  subst hc
  rw [← h.can hp]
  exact rcan_any M0 x _ A1 A2 n1 c1 n2 c2 s.ids bs vs wq (by omega) (by omega) (h.r.kept hq)
end
theorem keep_ids (M : Int) (s : St) (x : Int) : (s.keep M x).ids = s.ids := by
  unfold St.keep
  split
  · split <;> rfl
  · rfl
theorem close_wf {s : St} {x : Int} (hx : (Lit.int .i64 x).wf = true) (h : ∀ y ∈ s.ids, (Lit.int .i64 y).wf = true) : ∀ y ∈ (s.close x).ids, (Lit.int .i64 y).wf = true := by
  unfold St.close
  split
  · exact h
  · intro y hy
    rcases List.mem_append.1 hy with h1 | h1
    · exact h y h1
    · rw [List.mem_singleton.1 h1]; exact hx

set_option maxRecDepth 100000 in
theorem plays_far (A : Option Addr) (n c : Nat) (u : Int) (w : World) (h : 30 < n) (_hn : n ≤ maxLen) : Calls Try.prog 3 #[.int .i64 u, .slice A n c] w fun e w' => e = .returned (.bool true) ∧ Below w.heap.size w w' := by
  go_enter Try.func3, Try.ntmps3
  go_wp2_with fail
  refine (alive_any _).mono ?_
  rintro e w1 ⟨rfl, hb⟩
  go_wp2_with fail
  go_ret
  exact ⟨rfl, hb⟩

set_option maxRecDepth 100000 in
theorem plays_many (A : Option Addr) (n c : Nat) (u : Int) (l : List (Bool × Int)) (w : World) (h : n ≤ 30) (m : Nat) (hm7 : 7 < m) (hm30 : m ≤ 30) (HM : Hid (shut l = m)) (HL : Hid (l.length = n)) (HS : Hid (Deeds w A l)) : Calls Try.prog 3 #[.int .i64 u, .slice A n c] w fun e w' => e = .returned (.bool true) ∧ Below w.heap.size w w' := by
  go_enter Try.func3, Try.ntmps3
  go_wp2_with fail
  refine (shut_any A n c l w h HL HS).mono ?_
  rintro e w0 ⟨rfl, rfl⟩
  rw [HM.out]
  go_wp2_with fail
  refine (alive_any _).mono ?_
  rintro e w1 ⟨rfl, hb⟩
  go_wp2_with fail
  go_ret
  exact ⟨rfl, hb⟩

set_option maxRecDepth 100000 in
set_option maxHeartbeats 8000000 in
theorem plays_near (A : Option Addr) (n c : Nat) (u M : Int) (l : List (Bool × Int)) (w : World) (h : n ≤ 30) (m : Nat) (hm7 : m ≤ 7) (HM : Hid (shut l = m)) (HU : Hid (M = if u < 0 then 0 else u)) (HL : Hid (l.length = n)) (HS : Hid (Deeds w A l)) : Calls Try.prog 3 #[.int .i64 u, .slice A n c] w fun e w' => e = .returned (.bool true) ∧ Below w.heap.size w w' := by
  go_enter Try.func3, Try.ntmps3
  go_wp2_with fail
  refine (shut_any A n c l w h HL HS).mono ?_
  rintro e w0 ⟨rfl, rfl⟩
  rw [HM.out]
  go_wp2_with fail
  refine (new_any u M w HU).mono ?_
  rintro e w1 ⟨rfl, hG1, hb1⟩
  have HG1 := hide hG1
  have HB1 := hide hb1
  clear hG1 hb1
  go_wp2_with fail
  refine (rnew_any u w1).mono ?_
  rintro e w2 ⟨A2, rfl, hr2, hb2⟩
  have HP0 : Hid (Plain M u .empty [[]]) := hide ⟨by rw [HU.out]; split <;> split <;> omega, empty_ok, fits_empty _, base_empty _⟩
  have H0 : Hid (Duo w (w2.alloc (.cells #[.int .i64 u, .slice none 0 0, .slice A2 1 1] 30)) w.heap.size 0 M u .empty [w.heap.size] w2.heap.size St.empty.ids [[]] [.slice none 0 0] none 0 0 A2 1 1) := hide (by
    have e1 := HG1.out.inF w.heap.size (List.mem_singleton.2 rfl)
    have e2 := hb2.size
    have e3 := HB1.out.size
    have hal : Below w2.heap.size w2 (w2.alloc (.cells #[.int .i64 u, .slice none 0 0, .slice A2 1 1] 30)) := (Below.refl _ _).alloc (Nat.le_refl _) _
    exact ⟨(HG1.out.kept hb2).kept hal, (hr2.mono (K' := fun b => b ∉ [w.heap.size] ∧ b ≠ w2.heap.size) fun b hb hk => ⟨fun hm => by have := List.mem_singleton.1 hm; omega, by omega⟩).kept hal, Blk.born w2 30 _, fun hm => by have := List.mem_singleton.1 hm; omega, by omega, fun c hc => by have := List.mem_singleton.1 hc; omega, below_nextB (below_nextB HB1.out HB1.out.size hb2) (by omega) hal⟩)
  go_wp2_with fail
  obtain ⟨gm, hgm⟩ : ∃ gm, w.heap.size = gm := ⟨_, rfl⟩
  obtain ⟨rb, hrb⟩ : ∃ rb, w2.heap.size = rb := ⟨_, rfl⟩
  rw [hgm, hrb] at H0
  rw [hgm, hrb]
  clear hr2 hb2 HG1 HB1 hgm hrb
  go_loopw [30] (fun ii wr => ∃ (k T : Nat) (s : St) (F : List Nat) (bs : List (List Bool)) (vs : List Value) (A1 : Option Addr) (n1 c1 : Nat) (A2 : Option Addr) (n2 c2 : Nat), ii = .int .i64 (k : Nat) ∧ k ≤ n ∧ Hid (T ≤ k ∧ s.ids.length ≤ shut (l.take k)) ∧ Hid (∀ y ∈ s.ids, (Lit.int .i64 y).wf = true) ∧ Hid (Plain M u s bs) ∧ Hid (Duo w wr gm T M u s F rb s.ids bs vs A1 n1 c1 A2 n2 c2)) (fun ii _ => n - (intOf ii).toNat)
  case atStart => exact ⟨0, 0, .empty, _, _, _, _, _, _, _, _, _, rfl, Nat.zero_le _, hide ⟨Nat.le_refl _, Nat.zero_le _⟩, hide (fun y hy => by cases hy), HP0, H0⟩
  case round =>
    clear H0 HP0
    obtain ⟨k, T, s, F, bs, vs, A1, n1, c1, A2, n2, c2, rfl, hk, HK, HY, HP, H0⟩ := hrel
    by_cases hlt : k < n
    · have hki : (k : Int) < (n : Int) := by omega
      have hkl : k < l.length := by have := HL.out; omega
      obtain ⟨kp, x, hst⟩ : ∃ kp x, l[k] = (kp, x) := ⟨_, _, rfl⟩
      have HSN := hide (shut_snoc (k := k) (b := kp) (x := x) (by rw [List.getElem?_eq_getElem hkl, hst]))
      have HSL := hide (And.intro (shut_le l k) (shut_le l (k + 1)))
      obtain ⟨hwf, bb, oo, rfl, t0, t1⟩ := HS.out k kp x (by rw [List.getElem?_eq_getElem hkl, hst])
      have hbb : bb < w.heap.size := World.block_lt_of_cell? w _ t0
      have s0 := (H0.out.bel.cell (p := ⟨bb, oo + k * 2, none⟩) hbb).trans t0
      have s1 := (H0.out.bel.cell (p := ⟨bb, oo + k * 2 + 1, none⟩) hbb).trans t1
      have HWF := hide hwf
      have HT : Hid (s.ids.length ≤ 7 ∧ T ≤ 30) := hide (by have := HK.out; have := HSL.out; have := HM.out; omega)
      clear t0 t1 hst hkl hwf
      have H1 := hide (H0.out.kept ((Below.refl _ wr).alloc (Nat.le_refl _) (.cells #[.bool kp, .int .i64 x] 33)))
      have HD1 := hide (Blk.born wr 33 #[.bool kp, .int .i64 x])
      have HDF : Hid (wr.heap.size ∉ F) := hide (fun hm => Nat.lt_irrefl _ (H0.out.a.inF _ hm))
      have HDR : Hid (wr.heap.size ≠ rb) := hide (fun e => Nat.lt_irrefl _ (e ▸ H0.out.box.lt))
      obtain ⟨q, hq⟩ : ∃ q, s.can M x = q := ⟨_, rfl⟩
      have HQ := hide hq
      clear hq
      have HC : Hid (∀ wq, Below (wr.alloc (.cells #[.bool kp, .int .i64 x] 33)).heap.size (wr.alloc (.cells #[.bool kp, .int .i64 x] 33)) wq → wq.cell? ⟨wr.heap.size, 1, none⟩ = some (.int .i64 x) ∧ wq.cell? ⟨rb, 0, none⟩ = some (.int .i64 u) ∧ wq.cell? ⟨rb, 1, none⟩ = some (.slice A1 n1 c1) ∧ wq.cell? ⟨rb, 2, none⟩ = some (.slice A2 n2 c2)) := hide (fun wq hb => ⟨(HD1.out.kept hb).cell 1, blk_cells (H1.out.box.kept hb)⟩)
      go_wp2_with fail
      refine wp_region_below (by kernel_rfl) (by kernel_rfl) ?_
      iterate 9
        first
          | (refine skipB (by rfl) ?_
             simp only [Act.put, List.setIfInBounds_toArray, List.set_cons_zero, List.set_cons_succ])
          | (refine stepB (by rfl) ?_
             apply Exists.intro
             refine ⟨fun wq hq => ?_, ?_⟩
             · obtain ⟨c0, c1, c2, c3⟩ := HC.out wq hq
               go_simp
               first
                 | done
                 | rfl
                 | (go_at_call 10; ((with_reducible refine (duo_can x H1.out HP.out HT.out.1 HWF.out _ (by simpa using hq) q HQ.out).mono ?_); exact fun e w'' ⟨he, hb⟩ => ⟨he, by have := below_next hq hb; simpa using this⟩))
                 | (go_at_call 11; ((with_reducible refine (duo_rcan x H1.out HP.out HT.out.1 _ (by simpa using hq) q HQ.out).mono ?_); exact fun e w'' ⟨he, hb⟩ => ⟨he, by have := below_next hq hb; simpa using this⟩))
             simp only [Act.put, List.setIfInBounds_toArray, List.set_cons_zero, List.set_cons_succ])
      refine wpQuiet_nil ?_
      intro wz hz
      have H2 := hide (H1.out.kept (by simpa using hz))
      have HD2 := hide (HD1.out.kept (by simpa using hz))
      have d0 : wz.cell? ⟨wr.heap.size, 0, none⟩ = some (.bool kp) := HD2.out.cell 0
      have d1 : wz.cell? ⟨wr.heap.size, 1, none⟩ = some (.int .i64 x) := HD2.out.cell 1
      clear H0 H1 HD1 HC s0 s1 hz
      cases kp
      · go_wp2_with fail
        refine (close_op gm T M x s F wz (by have := HT.out.1; omega) (by have := HT.out.2; omega) HP.out.ok HWF.out H2.out.a).mono ?_
        intro e v1 hv
        obtain ⟨q1, hq1⟩ : ∃ q1, s.fresh x = q1 := ⟨_, rfl⟩
        rw [hq1] at hv
        have HQ1 := hide hq1
        clear hq1
        obtain ⟨he, F1, h3, hblk⟩ := H2.out.op hv
        subst he
        obtain ⟨hd3, hn3⟩ := hblk _ _ _ HD2.out HDF.out
        have K1 := hide h3
        have HD3 := hide hd3
        clear h3 hblk hv hd3 hn3 d0 d1
        have d1 : v1.cell? ⟨wr.heap.size, 1, none⟩ = some (.int .i64 x) := HD3.out.cell 1
        obtain ⟨b0, b1, b2⟩ := blk_cells K1.out.box
        go_wp2_with fail
        refine (rclose_op M u x s _ A1 A2 n1 c1 n2 c2 bs vs v1 K1.out.r HP.out (by have h1 := close_len s x; have h2 := HK.out.2; have h3 := HSN.out; have h4 := HSL.out.2; have h5 := HM.out; simp at h3; omega)).mono ?_
        rintro e v2 ⟨A3, n3, c3, A4, n4, c4, vs4, bs4, rfl, hr4, hp4, hb4⟩
        rw [HQ1.out]
        have HP4 := hide hp4
        have HB4 := hide hb4
        have K2 := hide (K1.out.set (c2' := c4) hb4 hr4)
        obtain ⟨z0, z1, z2⟩ := blk_cells (K1.out.box.kept hb4)
        obtain ⟨f0, f1, f2⟩ := blk_free (K1.out.box.kept hb4)
        have HT4 : Hid ((s.close x).ids.length ≤ 7 ∧ (s.close x).ids.length ≤ shut (List.take (k + 1) l)) := hide (by have h1 := close_len s x; have h2 := HK.out.2; have h3 := HSN.out; have h4 := HSL.out.2; have h5 := HM.out; simp at h3; omega)
        have HY4 : Hid (∀ y ∈ (s.close x).ids, (Lit.int .i64 y).wf = true) := hide (close_wf HWF.out HY.out)
        have HTK := hide HK.out.1
        clear hr4 hp4 hb4 H2 HP HSN HSL HT HK HY
        obtain ⟨s4, hs4⟩ : ∃ s4, (s.close x) = s4 := ⟨_, rfl⟩
        rw [hs4] at K1 K2 HP4 HT4 HY4
        clear hs4
        go_wp2_with fail
        obtain ⟨W, hW⟩ : ∃ W, ((v2.setCell ⟨rb, 0, none⟩ (.int .i64 u)).setCell ⟨rb, 1, none⟩ (.slice A3 n3 c3)).setCell ⟨rb, 2, none⟩ (.slice A4 n4 c4) = W := ⟨_, rfl⟩
        rw [hW] at K2
        rw [hW]
        clear hW K1 z0 z1 z2 f0 f1 f2 b0 b1 b2 d1
        have HC : Hid (∀ wq, Below W.heap.size W wq → wq.cell? ⟨rb, 0, none⟩ = some (.int .i64 u) ∧ wq.cell? ⟨rb, 1, none⟩ = some (.slice A3 n3 c3) ∧ wq.cell? ⟨rb, 2, none⟩ = some (.slice A4 n4 c4)) := hide (fun wq hb => blk_cells (K2.out.box.kept hb))
        refine wp_region_below (by kernel_rfl) (by kernel_rfl) ?_
        iterate 11
          first
            | (refine skipB (by rfl) ?_
               simp only [Act.put, List.setIfInBounds_toArray, List.set_cons_zero, List.set_cons_succ])
            | (refine stepB (by rfl) ?_
               apply Exists.intro
               refine ⟨fun wq hq => ?_, ?_⟩
               · obtain ⟨c0, c1, c2⟩ := HC.out wq hq
                 go_simp
                 first
                   | done
                   | rfl
                   | (go_at_call 16; ((with_reducible refine (duo_len K2.out HP4.out.ok _ hq).mono ?_); exact fun e w'' ⟨he, hb⟩ => ⟨he, by have := below_next hq hb; simpa using this⟩))
               simp only [Act.put, List.setIfInBounds_toArray, List.set_cons_zero, List.set_cons_succ])
        refine wpQuiet_nil ?_
        intro wz hz
        have K3 := hide (K2.out.kept hz)
        clear K2 HC hz
        obtain ⟨e0, e1, e2⟩ := blk_cells K3.out.box
        have hn37 : n3 ≤ 7 := by have := K3.out.r.l1; have := HT4.out.1; omega
        go_wp2_with fail
        go_loopw [81] (fun jj wy => ∃ (j : Nat), jj = .int .i64 (j : Nat) ∧ j ≤ n3 ∧ Hid (Duo w wy gm (T + 1) M u s4 F1 rb s4.ids bs4 vs4 A3 n3 c3 A4 n4 c4)) (fun jj _ => n3 - (intOf jj).toNat)
        case atStart => exact ⟨0, rfl, Nat.zero_le _, K3⟩
        case round =>
          clear K3 e0 e1 e2
          obtain ⟨j, rfl, hj, K3⟩ := hrel
          by_cases hjl : j < n3
          · have hji : (j : Int) < (n3 : Int) := by omega
            have hjk : j < s4.ids.length := by have := K3.out.r.l1; omega
            obtain ⟨y, hy⟩ : ∃ y, s4.ids[j] = y := ⟨_, rfl⟩
            have HWY := hide (HY4.out y (by rw [← hy]; exact List.getElem_mem _))
            obtain ⟨ba, oa, hA, hc⟩ := K3.out.r.s1.sees j (.int .i64 y) (by rw [List.getElem?_map, List.getElem?_eq_getElem hjk, hy]; rfl)
            subst hA
            obtain ⟨q5, hq5⟩ : ∃ q5, s4.can M y = q5 := ⟨_, rfl⟩
            have HQ5 := hide hq5
            clear hq5 hy hjk
            go_wp2_with fail
            have HC := hide (fun wq hb => blk_cells (K3.out.box.kept (w' := wq) hb))
            refine wp_region_below (by kernel_rfl) (by kernel_rfl) ?_
            iterate 7
              first
                | (refine skipB (by rfl) ?_
                   simp only [Act.put, List.setIfInBounds_toArray, List.set_cons_zero, List.set_cons_succ])
                | (refine stepB (by rfl) ?_
                   apply Exists.intro
                   refine ⟨fun wq hq => ?_, ?_⟩
                   · obtain ⟨c0, c1, c2⟩ := HC.out wq hq
                     go_simp
                     first
                       | done
                       | rfl
                       | (go_at_call 10; ((with_reducible refine (duo_can y K3.out HP4.out HT4.out.1 HWY.out _ hq q5 HQ5.out).mono ?_); exact fun e w'' ⟨he, hb⟩ => ⟨he, by have := below_next hq hb; simpa using this⟩))
                       | (go_at_call 11; ((with_reducible refine (duo_rcan y K3.out HP4.out HT4.out.1 _ hq q5 HQ5.out).mono ?_); exact fun e w'' ⟨he, hb⟩ => ⟨he, by have := below_next hq hb; simpa using this⟩))
                   simp only [Act.put, List.setIfInBounds_toArray, List.set_cons_zero, List.set_cons_succ])
            refine wpQuiet_nil ?_
            intro wz hz
            have K5 := hide (K3.out.kept hz)
            go_wp2_with fail
            go_roundw
            case rel => exact ⟨j + 1, by go_num, by omega, K5⟩
            case measure => simp [intOf]; omega
          · go_wp2_with fail
            go_roundw
            case rel => exact ⟨k + 1, T + 1, s4, F1, bs4, vs4, A3, n3, c3, A4, n4, c4, by go_num, by omega, hide (by have := HTK.out; have := HT4.out; omega), HY4, HP4, K3⟩
            case measure => simp [intOf]; omega
      · go_wp2_with fail
        refine (keep_op gm T M x s F wz (by have := HT.out.1; omega) (by have := HT.out.2; omega) HP.out.ok HWF.out H2.out.a).mono ?_
        intro e v1 hv
        rw [HQ.out] at hv
        obtain ⟨he, F1, h3, hblk⟩ := H2.out.op hv
        subst he
        obtain ⟨hd3, hn3⟩ := hblk _ _ _ HD2.out HDF.out
        have K1 := hide h3
        have HD3 := hide hd3
        clear h3 hblk hv hd3 hn3 d0 d1
        have d1 : v1.cell? ⟨wr.heap.size, 1, none⟩ = some (.int .i64 x) := HD3.out.cell 1
        obtain ⟨b0, b1, b2⟩ := blk_cells K1.out.box
        go_wp2_with fail
        refine (rkeep_op M u x s _ A1 A2 n1 c1 n2 c2 bs vs v1 K1.out.r HP.out HT.out.1).mono ?_
        rintro e v2 ⟨A3, n3, c3, A4, n4, c4, vs4, bs4, rfl, hr4, hp4, hb4⟩
        rw [HQ.out]
        have HP4 := hide hp4
        have HB4 := hide hb4
        have K2 := hide (K1.out.set (c2' := c4) hb4 hr4)
        obtain ⟨z0, z1, z2⟩ := blk_cells (K1.out.box.kept hb4)
        obtain ⟨f0, f1, f2⟩ := blk_free (K1.out.box.kept hb4)
        have HT4 : Hid ((s.keep M x).ids.length ≤ 7 ∧ (s.keep M x).ids.length ≤ shut (List.take (k + 1) l)) := hide (by have h1 := keep_len M s x; have h2 := HK.out.2; have h3 := HSN.out; have h4 := HT.out.1; simp at h3; omega)
        have HY4 : Hid (∀ y ∈ (s.keep M x).ids, (Lit.int .i64 y).wf = true) := hide (by rw [keep_ids]; exact HY.out)
        have HTK := hide HK.out.1
        clear hr4 hp4 hb4 H2 HP HSN HSL HT HK HY
        obtain ⟨s4, hs4⟩ : ∃ s4, (s.keep M x) = s4 := ⟨_, rfl⟩
        rw [hs4] at K1 K2 HP4 HT4 HY4
        clear hs4
        go_wp2_with fail
        obtain ⟨W, hW⟩ : ∃ W, ((v2.setCell ⟨rb, 0, none⟩ (.int .i64 u)).setCell ⟨rb, 1, none⟩ (.slice A3 n3 c3)).setCell ⟨rb, 2, none⟩ (.slice A4 n4 c4) = W := ⟨_, rfl⟩
        rw [hW] at K2
        rw [hW]
        clear hW K1 z0 z1 z2 f0 f1 f2 b0 b1 b2 d1
        have HC : Hid (∀ wq, Below W.heap.size W wq → wq.cell? ⟨rb, 0, none⟩ = some (.int .i64 u) ∧ wq.cell? ⟨rb, 1, none⟩ = some (.slice A3 n3 c3) ∧ wq.cell? ⟨rb, 2, none⟩ = some (.slice A4 n4 c4)) := hide (fun wq hb => blk_cells (K2.out.box.kept hb))
        refine wp_region_below (by kernel_rfl) (by kernel_rfl) ?_
        iterate 11
          first
            | (refine skipB (by rfl) ?_
               simp only [Act.put, List.setIfInBounds_toArray, List.set_cons_zero, List.set_cons_succ])
            | (refine stepB (by rfl) ?_
               apply Exists.intro
               refine ⟨fun wq hq => ?_, ?_⟩
               · obtain ⟨c0, c1, c2⟩ := HC.out wq hq
                 go_simp
                 first
                   | done
                   | rfl
                   | (go_at_call 16; ((with_reducible refine (duo_len K2.out HP4.out.ok _ hq).mono ?_); exact fun e w'' ⟨he, hb⟩ => ⟨he, by have := below_next hq hb; simpa using this⟩))
               simp only [Act.put, List.setIfInBounds_toArray, List.set_cons_zero, List.set_cons_succ])
        refine wpQuiet_nil ?_
        intro wz hz
        have K3 := hide (K2.out.kept hz)
        clear K2 HC hz
        obtain ⟨e0, e1, e2⟩ := blk_cells K3.out.box
        have hn37 : n3 ≤ 7 := by have := K3.out.r.l1; have := HT4.out.1; omega
        go_wp2_with fail
        go_loopw [81] (fun jj wy => ∃ (j : Nat), jj = .int .i64 (j : Nat) ∧ j ≤ n3 ∧ Hid (Duo w wy gm (T + 1) M u s4 F1 rb s4.ids bs4 vs4 A3 n3 c3 A4 n4 c4)) (fun jj _ => n3 - (intOf jj).toNat)
        case atStart => exact ⟨0, rfl, Nat.zero_le _, K3⟩
        case round =>
          clear K3 e0 e1 e2
          obtain ⟨j, rfl, hj, K3⟩ := hrel
          by_cases hjl : j < n3
          · have hji : (j : Int) < (n3 : Int) := by omega
            have hjk : j < s4.ids.length := by have := K3.out.r.l1; omega
            obtain ⟨y, hy⟩ : ∃ y, s4.ids[j] = y := ⟨_, rfl⟩
            have HWY := hide (HY4.out y (by rw [← hy]; exact List.getElem_mem _))
            obtain ⟨ba, oa, hA, hc⟩ := K3.out.r.s1.sees j (.int .i64 y) (by rw [List.getElem?_map, List.getElem?_eq_getElem hjk, hy]; rfl)
            subst hA
            obtain ⟨q5, hq5⟩ : ∃ q5, s4.can M y = q5 := ⟨_, rfl⟩
            have HQ5 := hide hq5
            clear hq5 hy hjk
            go_wp2_with fail
            have HC := hide (fun wq hb => blk_cells (K3.out.box.kept (w' := wq) hb))
            refine wp_region_below (by kernel_rfl) (by kernel_rfl) ?_
            iterate 7
              first
                | (refine skipB (by rfl) ?_
                   simp only [Act.put, List.setIfInBounds_toArray, List.set_cons_zero, List.set_cons_succ])
                | (refine stepB (by rfl) ?_
                   apply Exists.intro
                   refine ⟨fun wq hq => ?_, ?_⟩
                   · obtain ⟨c0, c1, c2⟩ := HC.out wq hq
                     go_simp
                     first
                       | done
                       | rfl
                       | (go_at_call 10; ((with_reducible refine (duo_can y K3.out HP4.out HT4.out.1 HWY.out _ hq q5 HQ5.out).mono ?_); exact fun e w'' ⟨he, hb⟩ => ⟨he, by have := below_next hq hb; simpa using this⟩))
                       | (go_at_call 11; ((with_reducible refine (duo_rcan y K3.out HP4.out HT4.out.1 _ hq q5 HQ5.out).mono ?_); exact fun e w'' ⟨he, hb⟩ => ⟨he, by have := below_next hq hb; simpa using this⟩))
                   simp only [Act.put, List.setIfInBounds_toArray, List.set_cons_zero, List.set_cons_succ])
            refine wpQuiet_nil ?_
            intro wz hz
            have K5 := hide (K3.out.kept hz)
            go_wp2_with fail
            go_roundw
            case rel => exact ⟨j + 1, by go_num, by omega, K5⟩
            case measure => simp [intOf]; omega
          · go_wp2_with fail
            go_roundw
            case rel => exact ⟨k + 1, T + 1, s4, F1, bs4, vs4, A3, n3, c3, A4, n4, c4, by go_num, by omega, hide (by have := HTK.out; have := HT4.out; omega), HY4, HP4, K3⟩
            case measure => simp [intOf]; omega
    · go_wp2_with fail
      refine (alive_any _).mono ?_
      rintro e w3 ⟨rfl, hb⟩
      have HF := hide (H0.out.kept hb)
      clear hb
      go_wp2_with fail
      go_ret
      exact ⟨rfl, HF.out.bel⟩

theorem plays_any (A : Option Addr) (n c : Nat) (u : Int) (l : List (Bool × Int)) (w : World) (hl : l.length = n) (hm : n ≤ maxLen) (hs : Deeds w A l) : Calls Try.prog 3 #[.int .i64 u, .slice A n c] w fun e w' => e = .returned (.bool true) ∧ Below w.heap.size w w' := by
  by_cases h : 30 < n
  · exact plays_far A n c u w h hm
  · by_cases h7 : 7 < shut l
    · exact plays_many A n c u l w (by omega) (shut l) h7 (by have := shut_len l; omega) (hide rfl) (hide hl) (hide hs)
    · exact plays_near A n c u _ l w (by omega) (shut l) (by omega) (hide rfl) (hide rfl) (hide hl) (hide hs)
end Go.Proofs.Ytgledbjkjpngeaa
