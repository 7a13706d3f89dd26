/- GraceFew's walk. -/
import Derived.Test.YtgledbjkjpngeaaR
namespace Go.Proofs.Ytgledbjkjpngeaa
open Go.RowKit Go.Maps

/-! ### Plain laws -/
def Zero (s : St) : Prop := (∀ b ∈ s.kp, b = 0) ∧ ∀ b ∈ s.bz, b = 0
theorem zero_close {s : St} (x : Int) (h : Zero s) : Zero (s.close x) := by
  unfold St.close
  split
  · exact h
  · refine ⟨fun b hb => ?_, fun b hb => ?_⟩
    · rw [List.mem_append, List.mem_singleton] at hb
      rcases hb with hb | hb
      · exact h.1 b hb
      · exact hb
    · rw [List.mem_append, List.mem_singleton] at hb
      rcases hb with hb | hb
      · exact h.2 b hb
      · exact hb
theorem pos_close (s : St) (x : Int) : (posI (s.close x).ids x).isSome = true := by
  unfold St.close
  split
  · assumption
  · dsimp only
    rw [posI_snoc]
    split <;> simp
theorem pos_stays {s : St} (x y : Int) (h : (posI s.ids y).isSome = true) : (posI (s.close x).ids y).isSome = true := by
  unfold St.close
  split
  · exact h
  · dsimp only
    rw [posI_snoc]
    cases hp : posI s.ids y with
    | none => rw [hp] at h; cases h
    | some i => rfl
theorem zero_can {M : Int} {s : St} {x : Int} (hM : 0 < M) (h : Zero s) (hx : (posI s.ids x).isSome = true) : s.can M x = true := by
  unfold St.can
  cases hp : posI s.ids x with
  | none => rw [hp] at hx; cases hx
  | some i =>
    dsimp only
    rw [Bool.and_eq_true, List.all_eq_true]
    refine ⟨by simp; omega, fun n hn => ?_⟩
    have := h.2 n (List.mem_of_mem_drop hn)
    simp; omega
theorem can_never (s : St) (x : Int) : s.can 0 x = false := by
  unfold St.can
  cases posI s.ids x <;> rfl
theorem few_can {M : Int} {s : St} {x : Int} (hok : s.Ok) (hM : (s.ids.length : Int) ≤ M) (hx : (posI s.ids x).isSome = true) : s.can M x = true := by
  unfold St.can
  cases hp : posI s.ids x with
  | none => rw [hp] at hx; cases hx
  | some i =>
    have hil := posI_lt hp
    dsimp only
    rw [Bool.and_eq_true, List.all_eq_true]
    refine ⟨by simp; omega, fun n hn => ?_⟩
    obtain ⟨t, ht⟩ := List.getElem?_of_mem hn
    rw [List.getElem?_drop] at ht
    have hl := (List.getElem?_eq_some_iff.1 ht).1
    rw [hok.lb] at hl
    rw [hok.ct _ hl] at ht
    have h1 : s.sure (s.from i + t) i = false := by unfold St.sure; simp <;> omega
    have h2 : s.cov (s.from i + t) < s.ids.length := cntb_lt h1 _ hil
    have h3 := Option.some.inj ht
    rw [h3] at h2
    simp; omega
theorem keep_ids (M : Int) (s : St) (x : Int) : (s.keep M x).ids = s.ids := by
  unfold St.keep
  split
  · split <;> rfl
  · rfl
theorem zero_empty : Zero .empty := ⟨fun b hb => by (cases hb), fun b hb => by (cases hb)⟩

set_option maxRecDepth 10000 in
theorem few_far (A : Option Addr) (n c : Nat) (u : Int) (w : World) (h : 60 < n) (_hn : n ≤ maxLen) : Calls Try.prog 5 #[.int .u8 u, .slice A n c] w fun e w' => e = .returned (.bool true) ∧ Below w.heap.size w w' := by
  go_enter Try.func5, Try.ntmps5
  go_wp2_with fail
  refine (alive_any _).mono ?_
  rintro e w1 ⟨rfl, hb⟩
  go_wp2_with fail
  go_ret
  exact ⟨rfl, hb⟩

set_option maxRecDepth 10000 in
set_option maxHeartbeats 4000000 in
theorem few_near (A : Option Addr) (n c : Nat) (u : Int) (l : List Int) (w : World) (h : n ≤ 60) (hu1 : 0 ≤ u) (hu2 : u ≤ 255) (HL : Hid (l.length = n)) (HS : Hid (Sees w A (l.map (Value.int .i64)))) (HW : Hid (∀ x ∈ l, (Lit.int .i64 x).wf = true)) : Calls Try.prog 5 #[.int .u8 u, .slice A n c] w fun e w' => e = .returned (.bool true) ∧ Below w.heap.size w w' := by
  obtain ⟨q, hq⟩ : ∃ q : Bool, decide (0 < u) = q := ⟨_, rfl⟩
  have HQ := hide hq
  have HZC : Hid (∀ s x, Zero s → (posI s.ids x).isSome = true → s.can u x = q) := hide (fun s x h1 h2 => by
    rw [← hq]
    by_cases hu : 0 < u
    · rw [zero_can hu h1 h2, decide_eq_true hu]
    · have : u = 0 := by omega
      rw [this, can_never]; rfl)
  have HFC : Hid (∀ s x, St.Ok s → (s.ids.length : Int) ≤ u → (posI s.ids x).isSome = true → s.can u x = true ∧ q = true) := hide (fun s x h1 h2 h3 => ⟨few_can h1 h2 h3, by
    rw [← hq]
    obtain ⟨i, hi⟩ := Option.isSome_iff_exists.1 h3
    have := posI_lt hi
    exact decide_eq_true (by omega)⟩)
  go_enter Try.func5, Try.ntmps5
  go_wp2_with fail
  refine (new_any u u _ (hide (by rw [if_neg (by omega)]))).mono ?_
  rintro e w1 ⟨rfl, hG1, hb1⟩
  have HG2 : Hid (Gr (w1.alloc (.cells #[.int .i64 0, .map none, .map none, .slice none 0 0] 43)) w1.heap.size 0 .empty [w1.heap.size] 0) :=
    hide ⟨none, 0, none, none, ⟨Blk.born _ _ _, World.ownsRow_nil _ _ _ _, (fun b hb => by cases hb), .inl ⟨rfl, rfl, rfl⟩, List.mem_singleton.2 rfl, fun b hb => by rw [List.mem_singleton.1 hb]; simp⟩⟩
  have H0 : Hid (Two w (w1.alloc (.cells #[.int .i64 0, .map none, .map none, .slice none 0 0] 43)) w.heap.size u .empty [w.heap.size] 0 w1.heap.size 0 .empty [w1.heap.size] 0) := hide ⟨hG1.kept ((Below.refl _ _).alloc (Nat.le_refl _) _), HG2.out, empty_ok, empty_ok, (fun c hc => by rw [List.mem_singleton.1 hc]; exact Nat.le_refl _), (fun c hc => by rw [List.mem_singleton.1 hc]; exact hb1.size), (fun c hc hm => by
    have h1 := List.mem_singleton.1 hc
    have h2 := List.mem_singleton.1 hm
    have h3 := hG1.inF c hc
    omega), hb1.alloc hb1.size _⟩
  obtain ⟨gm, hgm⟩ : ∃ gm, w.heap.size = gm := ⟨_, rfl⟩
  obtain ⟨gn, hgn⟩ : ∃ gn, w1.heap.size = gn := ⟨_, rfl⟩
  rw [hgm, hgn] at H0
  rw [hgm]
  have HGN := hide hgn
  clear hG1 hb1 HG2 hgm hgn hq
  go_wp2_with fail
  rw [HGN.out]
  go_loopw [24] (fun ii wr => ∃ (k T1 T2 : Nat) (s : St) (F1 F2 : List Nat), ii = .int .i64 (k : Nat) ∧ k ≤ n ∧ Hid (s.ids.length ≤ k ∧ T1 ≤ 10 * k ∧ T2 ≤ 10 * k) ∧ Hid (Zero s ∧ ∀ x ∈ l.take k, (posI s.ids x).isSome = true) ∧ Hid (Two w wr gm u s F1 T1 gn 0 s F2 T2)) (fun ii _ => n - (intOf ii).toNat)
  case atStart => exact ⟨0, 0, 0, .empty, _, _, rfl, Nat.zero_le _, hide ⟨Nat.le_refl _, Nat.le_refl _, Nat.le_refl _⟩, hide ⟨zero_empty, by simp⟩, H0⟩
  case round =>
    clear H0
    obtain ⟨k, T1, T2, s, F1, F2, rfl, hk, HK, HZ, H0⟩ := hrel
    by_cases hlt : k < n
    · have hki : (k : Int) < (n : Int) := by omega
      have hkl : k < l.length := by have := HL.out; omega
      obtain ⟨x, hst⟩ : ∃ x, l[k] = x := ⟨_, rfl⟩
      obtain ⟨bb, oo, rfl, t0⟩ := HS.out k (.int .i64 x) (by rw [List.getElem?_map, List.getElem?_eq_getElem hkl, hst]; rfl)
      have hbb : bb < w.heap.size := World.block_lt_of_cell? w _ t0
      have s0 := (H0.out.bel.cell (p := ⟨bb, oo + k, none⟩) hbb).trans t0
      have HWF := hide (HW.out x (by rw [← hst]; exact List.getElem_mem hkl))
      have HTK : Hid (l.take (k + 1) = l.take k ++ [x]) := hide (by rw [List.take_succ_eq_append_getElem hkl, hst])
      have HB : Hid (s.ids.length ≤ 999 ∧ T1 + 10 ≤ 1000000 ∧ T2 + 10 ≤ 1000000) := hide (by have := HK.out; omega)
      clear t0 hst hkl
      have HCL := hide (close_len s x)
      have HS1 : Hid ((s.close x).ids.length ≤ 1000) := hide (by have := HB.out; have := HCL.out; omega)
      have HZ1 : Hid (Zero (s.close x) ∧ ∀ y ∈ l.take (k + 1), (posI (s.close x).ids y).isSome = true) := hide ⟨zero_close x HZ.out.1, fun y hy => by
        rw [HTK.out, List.mem_append, List.mem_singleton] at hy
        rcases hy with hy | hy
        · exact pos_stays x y (HZ.out.2 y hy)
        · rw [hy]; exact pos_close s x⟩
      have HC1 := hide (HZC.out (s.close x) x HZ1.out.1 (pos_close s x))
      have HC2 := hide (can_never (s.close x) x)
      go_wp2_with fail
      refine (close_op gm T1 u x s F1 _ (by have := HB.out; omega) (by have := HB.out; omega) H0.out.oka HWF.out H0.out.a).mono ?_
      intro e v1 hv
      obtain ⟨he, G1, h3⟩ := H0.out.left (close_ok x H0.out.oka) hv
      subst he
      obtain ⟨fr, hfr⟩ : ∃ fr, s.fresh x = fr := ⟨_, rfl⟩
      have HFR := hide hfr
      rw [hfr]
      have K1 := hide h3
      clear h3 hv hfr s0
      go_wp2_with fail
      refine (can_op gm (T1 + 1) u x (s.close x) G1 _ HS1.out (by have := HB.out; omega) K1.out.oka HWF.out K1.out.a).mono ?_
      intro e v2 hv
      obtain ⟨he, G2, h3⟩ := K1.out.left K1.out.oka hv
      subst he
      rw [HC1.out]
      have K2 := hide h3
      have hq := HQ.out
      clear h3 hv
      go_wp2_with fail
      refine (close_nil x _).mono ?_
      rintro e v3 ⟨rfl, rfl⟩
      go_wp2_with fail
      refine (can_nil x _).mono ?_
      rintro e v3 ⟨rfl, hb⟩
      have K3 := hide (K2.out.kept hb)
      clear hb
      go_wp2_with fail
      refine (keep_nil x _).mono ?_
      rintro e v4 ⟨rfl, hb⟩
      have K4 := hide (K3.out.kept hb)
      clear hb
      go_wp2_with fail
      refine (close_op gn T2 0 x s F2 _ (by have := HB.out; omega) (by have := HB.out; omega) K4.out.okb HWF.out K4.out.b).mono ?_
      intro e v5 hv
      obtain ⟨he, G5, h3⟩ := K4.out.right (close_ok x K4.out.okb) hv
      subst he
      rw [HFR.out]
      have K5 := hide h3
      clear h3 hv
      go_wp2_with fail
      refine (can_op gn (T2 + 1) 0 x (s.close x) G5 _ HS1.out (by have := HB.out; omega) K5.out.okb HWF.out K5.out.b).mono ?_
      intro e v6 hv
      obtain ⟨he, G6, h3⟩ := K5.out.right K5.out.okb hv
      subst he
      rw [HC2.out]
      have K6 := hide h3
      clear h3 hv
      go_wp2_with fail
      go_roundw
      case rel => exact ⟨k + 1, _, _, s.close x, _, _, by go_num, by omega, hide (by have := HK.out; have := HCL.out; omega), HZ1, K6⟩
      case measure => simp [intOf]; omega
    · have HALL : Hid (∀ x ∈ l, (posI s.ids x).isSome = true) := hide (fun x hx => HZ.out.2 x (by rw [List.take_of_length_le (by have := HL.out; omega)]; exact hx))
      have HZO : Hid ((s.ids.length : Int) ≤ u ∨ Zero s) := hide (.inr HZ.out.1)
      have HB0 : Hid (s.ids.length ≤ 60 ∧ T1 ≤ 600 ∧ T2 ≤ 600) := hide (by have := HK.out; omega)
      obtain ⟨N, hN⟩ : ∃ N, s.ids.length = N := ⟨_, rfl⟩
      have HLB := hide (H0.out.okb.lb.trans hN)
      have HIN := hide hN
      have hNb : N ≤ 60 := by rw [← hN]; exact HB0.out.1
      clear HZ HK hN
      go_wp2_with fail
      go_loopw [65] (fun ii wr => ∃ (k T1' : Nat) (s' : St) (F1 : List Nat), ii = .int .i64 (k : Nat) ∧ k ≤ n ∧ Hid (s'.ids = s.ids) ∧ Hid (T1' ≤ 600 + 10 * k) ∧ Hid ((N : Int) ≤ u ∨ Zero s') ∧ Hid (Two w wr gm u s' F1 T1' gn 0 s F2 T2)) (fun ii _ => n - (intOf ii).toNat)
      case atStart => exact ⟨0, T1, s, F1, rfl, Nat.zero_le _, hide rfl, hide (by have := HB0.out; omega), hide (by rw [← HIN.out]; exact HZO.out), H0⟩
      case round =>
        clear H0 HZO
        obtain ⟨k, T1', s', F1, rfl, hk, HID, HT, HZO, H0⟩ := hrel
        have HNI : Hid (s'.ids.length = N) := hide (by rw [HID.out]; exact HIN.out)
        have HLM : Hid (s'.bz.length = N) := hide (by rw [H0.out.oka.lb, HNI.out])
        by_cases hlt : k < n
        · have hki : (k : Int) < (n : Int) := by omega
          have hkl : k < l.length := by have := HL.out; omega
          obtain ⟨x, hst⟩ : ∃ x, l[k] = x := ⟨_, rfl⟩
          obtain ⟨bb, oo, rfl, t0⟩ := HS.out k (.int .i64 x) (by rw [List.getElem?_map, List.getElem?_eq_getElem hkl, hst]; rfl)
          have hbb : bb < w.heap.size := World.block_lt_of_cell? w _ t0
          have s0 := (H0.out.bel.cell (p := ⟨bb, oo + k, none⟩) hbb).trans t0
          have HWF := hide (HW.out x (by rw [← hst]; exact List.getElem_mem hkl))
          have HP : Hid ((posI s'.ids x).isSome = true) := hide (by rw [HID.out]; exact HALL.out x (by rw [← hst]; exact List.getElem_mem hkl))
          clear t0 hst hkl
          have HB1 : Hid (s'.ids.length ≤ 1000 ∧ T1' + 10 ≤ 1000000) := hide (by have := HT.out; have := HNI.out; omega)
          by_cases hnu : (N : Int) ≤ u
          · have hcq := HFC.out s' x H0.out.oka (by rw [HNI.out]; exact hnu) HP.out
            have HC := hide hcq.1
            have hqt := HQ.out
            rw [hcq.2] at hqt
            clear hcq
            go_wp2_with fail
            refine (can_op gm T1' u x s' F1 _ HB1.out.1 (by have := HB1.out; omega) H0.out.oka HWF.out H0.out.a).mono ?_
            intro e v1 hv
            obtain ⟨he, G1, h3⟩ := H0.out.left H0.out.oka hv
            subst he
            rw [HC.out]
            have K1 := hide h3
            clear h3 hv
            go_wp2_with fail
            refine (len_any gm _ u s' G1 _ (hide K1.out.a)).mono ?_
            rintro e v2 ⟨rfl, rfl⟩
            rw [HLM.out]
            go_wp2_with fail
            refine (keep_op gm (T1' + 1) u x s' G1 _ HB1.out.1 (by have := HB1.out; omega) K1.out.oka HWF.out K1.out.a).mono ?_
            intro e v3 hv
            obtain ⟨he, G3, h3⟩ := K1.out.left (keep_ok x K1.out.oka) hv
            subst he
            rw [HC.out]
            have K3 := hide h3
            clear h3 hv
            go_wp2_with fail
            go_roundw
            case rel => exact ⟨k + 1, _, s'.keep u x, _, by go_num, by omega, hide ((keep_ids u s' x).trans HID.out), hide (by have := HT.out; omega), hide (.inl hnu), K3⟩
            case measure => simp [intOf]; omega
          · have hz : Zero s' := by
              rcases HZO.out with h1 | h1
              · exact absurd h1 hnu
              · exact h1
            have HC := hide (HZC.out s' x hz HP.out)
            have HZ2 : Hid ((N : Int) ≤ u ∨ Zero s') := hide (.inr hz)
            have hq := HQ.out
            clear hz
            go_wp2_with fail
            refine (can_op gm T1' u x s' F1 _ HB1.out.1 (by have := HB1.out; omega) H0.out.oka HWF.out H0.out.a).mono ?_
            intro e v1 hv
            obtain ⟨he, G1, h3⟩ := H0.out.left H0.out.oka hv
            subst he
            rw [HC.out]
            have K1 := hide h3
            clear h3 hv
            go_wp2_with fail
            refine (len_any gm _ u s' G1 _ (hide K1.out.a)).mono ?_
            rintro e v2 ⟨rfl, rfl⟩
            rw [HLM.out]
            go_wp2_with fail
            go_roundw
            case rel => exact ⟨k + 1, _, s', _, by go_num, by omega, HID, hide (by have := HT.out; omega), HZ2, K1⟩
            case measure => simp [intOf]; omega
        · go_wp2_with fail
          refine (len_nil _).mono ?_
          rintro e v1 ⟨rfl, rfl⟩
          go_wp2_with fail
          refine (len_any gn T2 0 s F2 _ (hide H0.out.b)).mono ?_
          rintro e v1 ⟨rfl, rfl⟩
          rw [HLB.out]
          go_wp2_with fail
          refine (len_any gm T1' u s' F1 _ (hide H0.out.a)).mono ?_
          rintro e v1 ⟨rfl, rfl⟩
          rw [HLM.out]
          go_wp2_with fail
          refine (alive_any _).mono ?_
          rintro e v2 ⟨rfl, hb⟩
          have HF := hide (H0.out.kept hb)
          clear hb
          go_wp2_with fail
          go_ret
          exact ⟨rfl, HF.out.bel⟩

theorem few_any (A : Option Addr) (n c : Nat) (u : Int) (l : List Int) (w : World) (hu : 0 ≤ u ∧ u ≤ 255) (hl : l.length = n) (hm : n ≤ maxLen) (hs : Sees w A (l.map (Value.int .i64))) (hw : ∀ x ∈ l, (Lit.int .i64 x).wf = true) : Calls Try.prog 5 #[.int .u8 u, .slice A n c] w fun e w' => e = .returned (.bool true) ∧ Below w.heap.size w w' := by
  by_cases h : 60 < n
  · exact few_far A n c u w h hm
  · exact few_near A n c u l w (by omega) hu.1 hu.2 (hide hl) (hide hs) (hide hw)
end Go.Proofs.Ytgledbjkjpngeaa
