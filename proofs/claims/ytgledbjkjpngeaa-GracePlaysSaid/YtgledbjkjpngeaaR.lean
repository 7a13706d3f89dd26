/- GraceMore's walk. -/
import Derived.Test.YtgledbjkjpngeaaQ
import Derived.Deep.RegionWith
namespace Go.Proofs.Ytgledbjkjpngeaa
open Go.RowKit Go.Maps

/-! ### Plain laws: who can keep more can do all that who can keep less can -/
theorem can_mono {M N : Int} {s : St} {x : Int} (hM : 0 ≤ M) (h : M ≤ N) (hc : s.can M x = true) : s.can N x = true := by
  unfold St.can at hc ⊢
  cases hp : posI s.ids x with
  | none => rw [hp] at hc; cases hc
  | some i =>
    rw [hp] at hc
    dsimp only at hc ⊢
    rw [Bool.and_eq_true, List.all_eq_true] at hc ⊢
    refine ⟨?_, fun n hn => ?_⟩
    · have := hc.1; simp at this ⊢; omega
    · have := hc.2 n hn; simp at this ⊢; omega
theorem keep_same {M N : Int} {s : St} {x : Int} (h1 : s.can M x = true) (h2 : s.can N x = true) : s.keep M x = s.keep N x := by unfold St.keep; rw [h1, h2]
theorem bump_end {k : Nat} {b : List Nat} (h : b.length ≤ k) : bump k b = b := by
  unfold bump
  rw [List.take_of_length_le h, List.drop_eq_nil_of_le h]; simp
theorem can_again {M : Int} {s : St} {x : Int} (hok : s.Ok) (hc : s.can M x = true) : (s.keep M x).can M x = true ∧ (s.keep M x).keep M x = s.keep M x := by
  obtain ⟨i, hp⟩ := can_pos hc
  have hil := posI_lt hp
  have e : s.keep M x = ⟨s.ids, s.kp.set i (s.ids.length - i), bump (s.from i) s.bz⟩ := by unfold St.keep; rw [hc, hp]; rfl
  have hfi : (St.mk s.ids (s.kp.set i (s.ids.length - i)) (bump (s.from i) s.bz)).from i = s.ids.length := by
    unfold St.from; dsimp only
    rw [List.getD_eq_getElem?_getD, List.getElem?_set_self (by rw [hok.lk]; exact hil)]
    simp <;> omega
  have hcan : (St.mk s.ids (s.kp.set i (s.ids.length - i)) (bump (s.from i) s.bz)).can M x = true := by
    unfold St.can at hc ⊢
    (try dsimp only)
    rw [hp] at hc ⊢
    dsimp only at hc ⊢
    rw [hfi, List.drop_eq_nil_of_le (by rw [bump_length, hok.lb]; exact Nat.le_refl _)]
    rw [Bool.and_eq_true] at hc
    rw [hc.1]; rfl
  rw [e]
  refine ⟨hcan, ?_⟩
  unfold St.keep
  rw [hcan]
  dsimp only
  rw [hp]
  dsimp only
  rw [if_pos rfl, hfi]
  simp only [List.set_set]
  congr 1
  exact bump_end (by rw [bump_length, hok.lb]; exact Nat.le_refl _)
theorem close_len (s : St) (x : Int) : (s.close x).ids.length ≤ s.ids.length + 1 := by
  unfold St.close
  split
  · omega
  · simp
theorem keep_len (M : Int) (s : St) (x : Int) : (s.keep M x).ids.length = s.ids.length := by
  unfold St.keep
  split
  · split <;> rfl
  · rfl

/-- A slice of deeds, as it is seen. -/
def Deeds (w : World) (A : Option Addr) (l : List (Bool × Int)) : Prop :=
  ∀ i k x, l[i]? = some (k, x) → (Lit.int .i64 x).wf = true ∧ ∃ b o, A = some ⟨b, o, none⟩ ∧ w.cell? ⟨b, o + i * 2, none⟩ = some (.bool k) ∧ w.cell? ⟨b, o + i * 2 + 1, none⟩ = some (.int .i64 x)

set_option maxRecDepth 10000 in
theorem more_far (A : Option Addr) (n c : Nat) (u v : Int) (w : World) (h : 60 < n) (_hn : n ≤ maxLen) : Calls Try.prog 4 #[.int .u8 u, .int .u8 v, .slice A n c] w fun e w' => e = .returned (.bool true) ∧ Below w.heap.size w w' := by
  go_enter Try.func4, Try.ntmps4
  go_wp2_with fail
  refine (alive_any _).mono ?_
  rintro e w1 ⟨rfl, hb⟩
  go_wp2_with fail
  go_ret
  exact ⟨rfl, hb⟩

set_option maxRecDepth 10000 in
set_option maxHeartbeats 4000000 in
theorem more_near (A : Option Addr) (n c : Nat) (u v : Int) (l : List (Bool × Int)) (w : World) (h : n ≤ 60) (hu : 0 ≤ u ∧ u ≤ 255) (hv : 0 ≤ v ∧ v ≤ 255) (HL : Hid (l.length = n)) (HS : Hid (Deeds w A l)) : Calls Try.prog 4 #[.int .u8 u, .int .u8 v, .slice A n c] w fun e w' => e = .returned (.bool true) ∧ Below w.heap.size w w' := by
  obtain ⟨hu1, hu2⟩ := hu
  obtain ⟨hv1, hv2⟩ := hv
  go_enter Try.func4, Try.ntmps4
  go_wp2_with fail
  refine (new_any u u _ (hide (by rw [if_neg (by omega)]))).mono ?_
  rintro e w1 ⟨rfl, hG1, hb1⟩
  have HG1 := hide hG1
  have HB1 := hide hb1
  clear hG1 hb1
  go_wp2_with fail
  refine (new_any (u + v) (u + v) _ (hide (by rw [if_neg (by omega)]))).mono ?_
  rintro e w2 ⟨rfl, hG2, hb2⟩
  have H0 : Hid (Two w w2 w.heap.size u .empty [w.heap.size] 0 w1.heap.size (u + v) .empty [w1.heap.size] 0) := hide ⟨HG1.out.kept hb2, hG2, empty_ok, empty_ok, (fun c hc => by rw [List.mem_singleton.1 hc]; exact Nat.le_refl _), (fun c hc => by rw [List.mem_singleton.1 hc]; exact HB1.out.size), (fun c hc hm => by
    have h1 := List.mem_singleton.1 hc
    have h2 := List.mem_singleton.1 hm
    have h3 := HG1.out.inF c hc
    omega), below_nextB HB1.out HB1.out.size hb2⟩
  obtain ⟨gm, hgm⟩ : ∃ gm, w.heap.size = gm := ⟨_, rfl⟩
  obtain ⟨gn, hgn⟩ : ∃ gn, w1.heap.size = gn := ⟨_, rfl⟩
  rw [hgm, hgn] at H0
  rw [hgm, hgn]
  clear hG2 hb2 HG1 HB1 hgn hgm
  go_wp2_with fail
  go_loopw [32] (fun ii wr => ∃ (k T1 T2 : Nat) (s : St) (F1 F2 : List Nat), ii = .int .i64 (k : Nat) ∧ k ≤ n ∧ Hid (s.ids.length ≤ k ∧ T1 ≤ 10 * k ∧ T2 ≤ 10 * k) ∧ Hid (Two w wr gm u s F1 T1 gn (u + v) s F2 T2)) (fun ii _ => n - (intOf ii).toNat)
  case atStart => exact ⟨0, 0, 0, .empty, _, _, rfl, Nat.zero_le _, hide ⟨Nat.le_refl _, Nat.le_refl _, Nat.le_refl _⟩, H0⟩
  case round =>
    clear H0
    obtain ⟨k, T1, T2, s, F1, F2, rfl, hk, HK, H0⟩ := hrel
    by_cases hlt : k < n
    · have hki : (k : Int) < (n : Int) := by omega
      have hkl : k < l.length := by have := HL.out; omega
      obtain ⟨kp, x, hst⟩ : ∃ kp x, l[k] = (kp, x) := ⟨_, _, rfl⟩
      obtain ⟨hwf, bb, oo, rfl, t0, t1⟩ := HS.out k kp x (by rw [List.getElem?_eq_getElem hkl, hst])
      have hbb : bb < w.heap.size := World.block_lt_of_cell? w _ t0
      have s0 := (H0.out.bel.cell (p := ⟨bb, oo + k * 2, none⟩) hbb).trans t0
      have s1 := (H0.out.bel.cell (p := ⟨bb, oo + k * 2 + 1, none⟩) hbb).trans t1
      have HWF := hide hwf
      have HB : Hid (s.ids.length ≤ 1000 ∧ T1 + 10 ≤ 1000000 ∧ T2 + 10 ≤ 1000000) := hide (by have := HK.out; omega)
      clear t0 t1 hst hkl hwf
      have hgl : wr.heap.size < wr.heap.size + 1 := by omega
      have H1 := hide (H0.out.born 33 #[.bool kp, .int .i64 x])
      cases kp
      · go_wp2_with fail
        have H2 := hide (H1.out.kept (Below.refl _ _).drew)
        have HM := hide (close_ok x H1.out.two.oka)
        have HCL := hide (close_len s x)
        go_region_with (first
          | (go_at_call 14; refine (close_op gm T1 u x s F1 _ HB.out.1 (by have := HB.out.2.1; omega) HNN.out.two.oka HWF.out HNN.out.two.a).mono ?_; intro e v2 hv; obtain ⟨he, G1, h3⟩ := HNN.out.left HM.out hv; subst he; have HZ := hide h3; clear h3 hv)
          | (go_at_call 14; refine (close_op gn T2 (u + v) x s F2 _ HB.out.1 (by have := HB.out.2.2; omega) HMM.out.two.okb HWF.out HMM.out.two.b).mono ?_; intro e v2 hv; obtain ⟨he, G2, h3⟩ := HMM.out.right HM.out hv; subst he; have HZ := hide h3; clear h3 hv)
          | (go_at_call 14; refine (close_op gm T1 u x s F1 _ HB.out.1 (by have := HB.out.2.1; omega) H2.out.two.oka HWF.out H2.out.two.a).mono ?_; intro e v1 hv; obtain ⟨he, G1, h3⟩ := H2.out.left HM.out hv; subst he; have HMM := hide h3; clear h3 hv; have d1 : v1.cell? ⟨wr.heap.size, 1, none⟩ = some (.int .i64 x) := HMM.out.blk.cell 1)
          | (go_at_call 14; refine (close_op gn T2 (u + v) x s F2 _ HB.out.1 (by have := HB.out.2.2; omega) H2.out.two.okb HWF.out H2.out.two.b).mono ?_; intro e v1 hv; obtain ⟨he, G2, h3⟩ := H2.out.right HM.out hv; subst he; have HNN := hide h3; clear h3 hv; have d1 : v1.cell? ⟨wr.heap.size, 1, none⟩ = some (.int .i64 x) := HNN.out.blk.cell 1))
        all_goals
          go_wp2_with fail
          go_roundw
          case rel => exact ⟨k + 1, T1 + 1, T2 + 1, s.close x, G1, G2, by go_num, by omega, hide (by have := HK.out; have := HCL.out; omega), HZ.out.two |> hide⟩
          case measure => simp [intOf]; omega
      · by_cases hc : s.can u x = true
        · have hcn := can_mono hu1 (show u ≤ u + v by omega) hc
          have hag := can_again H1.out.two.oka hc
          have hks := keep_same hc hcn
          have HC := hide (And.intro hc (And.intro hcn (And.intro hag hks)))
          have HLN := hide (keep_len u s x)
          clear hc hcn hag hks
          go_wp2_with fail
          refine (can_op gm T1 u x s F1 _ HB.out.1 (by have := HB.out.2.1; omega) H1.out.two.oka HWF.out H1.out.two.a).mono ?_
          intro e v1 hv
          obtain ⟨he, G1, h3⟩ := H1.out.left H1.out.two.oka hv
          subst he
          rw [HC.out.1]
          have K1 := hide h3
          have d1 : v1.cell? ⟨wr.heap.size, 1, none⟩ = some (.int .i64 x) := K1.out.blk.cell 1
          clear h3 hv
          go_wp2_with fail
          refine (can_op gn T2 (u + v) x s F2 _ HB.out.1 (by have := HB.out.2.2; omega) K1.out.two.okb HWF.out K1.out.two.b).mono ?_
          intro e v2 hv
          obtain ⟨he, G2, h3⟩ := K1.out.right K1.out.two.okb hv
          subst he
          rw [HC.out.2.1]
          have K2 := hide h3
          have d1 : v2.cell? ⟨wr.heap.size, 1, none⟩ = some (.int .i64 x) := K2.out.blk.cell 1
          clear h3 hv
          go_wp2_with fail
          refine (keep_op gm (T1 + 1) u x s G1 _ HB.out.1 (by have := HB.out.2.1; omega) K2.out.two.oka HWF.out K2.out.two.a).mono ?_
          intro e v3 hv
          obtain ⟨he, G3, h3⟩ := K2.out.left (keep_ok x K2.out.two.oka) hv
          subst he
          rw [HC.out.1]
          have K3 := hide h3
          have d1 : v3.cell? ⟨wr.heap.size, 1, none⟩ = some (.int .i64 x) := K3.out.blk.cell 1
          clear h3 hv
          go_wp2_with fail
          refine (keep_op gn (T2 + 1) (u + v) x s G2 _ HB.out.1 (by have := HB.out.2.2; omega) K3.out.two.okb HWF.out K3.out.two.b).mono ?_
          intro e v4 hv
          obtain ⟨he, G4, h3⟩ := K3.out.right (keep_ok x K3.out.two.okb) hv
          subst he
          rw [HC.out.2.1]
          rw [← HC.out.2.2.2] at h3
          have K4 := hide h3
          have d1 : v4.cell? ⟨wr.heap.size, 1, none⟩ = some (.int .i64 x) := K4.out.blk.cell 1
          clear h3 hv
          go_wp2_with fail
          refine (can_op gm (T1 + 1 + 1) u x (s.keep u x) G3 _ (by rw [HLN.out]; exact HB.out.1) (by have := HB.out.2.1; omega) K4.out.two.oka HWF.out K4.out.two.a).mono ?_
          intro e v5 hv
          obtain ⟨he, G5, h3⟩ := K4.out.left K4.out.two.oka hv
          subst he
          rw [HC.out.2.2.1.1]
          have K5 := hide h3
          have d1 : v5.cell? ⟨wr.heap.size, 1, none⟩ = some (.int .i64 x) := K5.out.blk.cell 1
          clear h3 hv
          go_wp2_with fail
          refine (keep_op gm (T1 + 1 + 1 + 1) u x (s.keep u x) G5 _ (by rw [HLN.out]; exact HB.out.1) (by have := HB.out.2.1; omega) K5.out.two.oka HWF.out K5.out.two.a).mono ?_
          intro e v6 hv
          obtain ⟨he, G6, h3⟩ := K5.out.left (keep_ok x K5.out.two.oka) hv
          subst he
          rw [HC.out.2.2.1.1]
          rw [HC.out.2.2.1.2] at h3
          have K6 := hide h3
          have d1 : v6.cell? ⟨wr.heap.size, 1, none⟩ = some (.int .i64 x) := K6.out.blk.cell 1
          clear h3 hv
          go_wp2_with fail
          go_roundw
          case rel => exact ⟨k + 1, _, _, s.keep u x, _, _, by go_num, by omega, hide (by have := HK.out; have := HLN.out; omega), hide K6.out.two⟩
          case measure => simp [intOf]; omega
        · have hcf : s.can u x = false := by simpa using hc
          have HC := hide hcf
          clear hc hcf
          go_wp2_with fail
          refine (can_op gm T1 u x s F1 _ HB.out.1 (by have := HB.out.2.1; omega) H1.out.two.oka HWF.out H1.out.two.a).mono ?_
          intro e v1 hv
          obtain ⟨he, G1, h3⟩ := H1.out.left H1.out.two.oka hv
          subst he
          rw [HC.out]
          have K1 := hide h3
          clear h3 hv
          go_wp2_with fail
          go_roundw
          case rel => exact ⟨k + 1, T1 + 1, T2, s, G1, F2, by go_num, by omega, hide (by have := HK.out; omega), hide K1.out.two⟩
          case measure => simp [intOf]; omega
    · go_wp2_with fail
      refine (alive_any _).mono ?_
      rintro e w3 ⟨rfl, hb⟩
      have HF := hide (H0.out.kept hb)
      clear hb
      go_wp2_with fail
      go_ret
      exact ⟨rfl, HF.out.bel⟩
end Go.Proofs.Ytgledbjkjpngeaa
