/- The reference's functions on sets: the same, one more, one less; where a number stands. -/
import Derived.Test.YtgledbjkjpngeaaB
namespace Go.Proofs.Ytgledbjkjpngeaa
open Go.RowKit Go.Maps

theorem Inn.at {w : World} {K : Nat → Prop} {A : Option Addr} {n c : Nat} {b : List Bool} (h : Inn w K (.slice A n c) b) {j : Nat} (hj : j < n) : n = b.length ∧ ∃ bb oo, A = some ⟨bb, oo, none⟩ ∧ w.cell? ⟨bb, oo + j, none⟩ = some (.bool (isIn b j)) := by
  obtain ⟨A', c', e, _, h⟩ := h
  injection e with e1 e2 e3
  subst e1 e2
  obtain ⟨g, o, _, _, h1, _, _, h4⟩ := h j _ (isIn_get hj)
  exact ⟨rfl, g, o, h1, h4⟩
theorem Inn.form {w : World} {K : Nat → Prop} {v : Value} {b : List Bool} (h : Inn w K v b) : ∃ A c, v = .slice A b.length c := by
  obtain ⟨A, c, e, _⟩ := h; exact ⟨A, c, e⟩

set_option maxRecDepth 10000 in
theorem same_any (v u : Value) (a b : List Bool) (n : Nat) (q : Bool) (K : Nat → Prop) (w : World) (hn : n ≤ 100) (ha : a.length = n) (hb : b.length = n) (h1 : Inn w K v a) (h2 : Inn w K u b) (hq : decide (a = b) = q) :
    Calls Try.prog 23 #[v, u] w fun e w' => e = .returned (.bool q) ∧ Below w.heap.size w w' := by
  obtain ⟨A, c, rfl⟩ := h1.form
  obtain ⟨B, d, rfl⟩ := h2.form
  rw [ha] at h1 ⊢
  rw [hb] at h2 ⊢
  have HA := hide h1
  have HB := hide h2
  have HLA := hide ha
  have HLB := hide hb
  have HQ := hide hq
  clear h1 h2 ha hb hq
  go_enter Try.func23, Try.ntmps23
  go_wp2_with fail
  go_loopw [5] (fun ii wr => ∃ (k : Nat), ii = .int .i64 (k : Nat) ∧ k ≤ n ∧ Hid (∀ j, j < k → isIn a j = isIn b j) ∧ Below w.heap.size w wr) (fun ii _ => n - (intOf ii).toNat)
  case atStart => exact ⟨0, rfl, Nat.zero_le _, hide (fun j hj => absurd hj (by omega)), Below.refl _ _⟩
  case round =>
    obtain ⟨k, rfl, hk, HE, hbel⟩ := hrel
    by_cases hlt : k < n
    · have hki : (k : Int) < (n : Int) := by omega
      obtain ⟨-, b1, o1, rfl, c1⟩ := (HA.out.kept hbel).at hlt
      obtain ⟨-, b2, o2, rfl, c2⟩ := (HB.out.kept hbel).at hlt
      obtain ⟨x, hx⟩ : ∃ x, isIn a k = x := ⟨_, rfl⟩
      obtain ⟨y, hy⟩ : ∃ y, isIn b k = y := ⟨_, rfl⟩
      rw [hx] at c1
      rw [hy] at c2
      have HX := hide hx
      have HY := hide hy
      clear hx hy
      cases x <;> cases y
      all_goals first
        |
          (have HE1 : Hid (∀ j, j < k + 1 → isIn a j = isIn b j) := hide (fun j hj => by
             by_cases e : j < k
             · exact HE.out j e
             · have : j = k := by omega
               rw [this, HX.out, HY.out])
           go_wp2_with fail
           go_quiet (fail)
           go_wp2_with fail
           go_roundw
           case rel => exact ⟨k + 1, by go_num, by omega, HE1, below_drewN hbel _⟩
           case measure => simp [intOf]; omega)
        |
          (have HN : Hid (q = false) := hide (by
             rw [← HQ.out]
             refine decide_eq_false (fun e => ?_)
             have h1 := HX.out
             rw [e, HY.out] at h1
             cases h1)
           go_wp2_with fail
           go_quiet (fail)
           go_wp2_with fail
           go_ret
           exact ⟨by rw [HN.out]; rfl, below_drewN hbel _⟩)
    · have HN : Hid (q = true) := hide (by
        rw [← HQ.out]
        exact decide_eq_true (isIn_ext (HLA.out.trans HLB.out.symm) (fun j hj => HE.out j (by have := HLB.out; omega))))
      go_wp2_with fail
      go_ret
      exact ⟨by rw [HN.out]; rfl, hbel⟩

set_option maxRecDepth 10000 in
set_option maxHeartbeats 2000000 in
theorem with_any (base : Nat) (K : Nat → Prop) (A : Option Addr) (n c L : Nat) (vs : List Value) (bs : List (List Bool)) (u : Value) (b : List Bool) (w : World) (hn : n ≤ 1000) (hL : L ≤ 100) (hbase : base ≤ w.heap.size)
    (hown : w.ownsRow base 48 1 (.slice A n c) n vs) (hs : Sets w K vs bs) (hl : ∀ x ∈ bs, x.length = L) (hu : Inn w K u b) (hb : b.length = L) :
    Calls Try.prog 21 #[.slice A n c, u] w fun e w' => ∃ A' n' c' vs', e = .returned (.slice A' n' c') ∧ w'.ownsRow base 48 1 (.slice A' n' c') n' vs' ∧ Sets w' K vs' (ins bs b) ∧ w.grownBy w' (Value.slice A n c).ownBlock := by
  obtain ⟨D, d, rfl⟩ := hu.form
  rw [hb] at hu ⊢
  have HO := hide hown
  have HS := hide hs
  have HL := hide hl
  have HU := hide hu
  have HBL := hide hb
  have HBA := hide hbase
  have HN : Hid (bs.length = n ∧ vs.length = n) := hide (by have := hown.1; have := hs.1; omega)
  clear hown hs hl hu hbase hb
  go_enter Try.func21, Try.ntmps21
  go_wp2_with fail
  go_loopw [5] (fun ii wr => ∃ (k : Nat), ii = .int .i64 (k : Nat) ∧ k ≤ n ∧ Hid (∀ j x, j < k → bs[j]? = some x → x ≠ b) ∧ Hid (Below w.heap.size w wr)) (fun ii _ => n - (intOf ii).toNat)
  case atStart => exact ⟨0, rfl, Nat.zero_le _, hide (fun j x hj => absurd hj (by omega)), hide (Below.refl _ _)⟩
  case round =>
    obtain ⟨k, rfl, hk, HE, HW⟩ := hrel
    by_cases hlt : k < n
    · have hki : (k : Int) < (n : Int) := by omega
      obtain ⟨x, hx⟩ : ∃ x, bs[k]? = some x := ⟨_, List.getElem?_eq_getElem (by have := HN.out; omega)⟩
      have HX := hide hx
      obtain ⟨v, hv, hi⟩ := HS.out.2 k x hx
      have HI := hide (hi.kept HW.out)
      have HXL : Hid (x.length = L) := hide (HL.out x (List.mem_of_getElem? hx))
      obtain ⟨bb, oo, rfl, t0⟩ := (Sees.of_own (own_kept HO.out HW.out)) k v hv
      clear hx hv hi
      obtain ⟨q, hq⟩ : ∃ q, decide (x = b) = q := ⟨_, rfl⟩
      have HQ := hide hq
      clear hq
      have HU1 := hide (HU.out.kept HW.out)
      go_wp2_with fail
      refine (same_any v _ x b L q K _ hL HXL.out HBL.out HI.out HU1.out HQ.out).mono ?_
      rintro e w1 ⟨rfl, hb1⟩
      have HW1 := hide (below_nextB HW.out HW.out.size hb1)
      clear hb1 t0
      cases q
      · go_wp2_with fail
        go_roundw
        case rel => exact ⟨k + 1, by go_num, by omega, hide (fun j y hj hy => by
          by_cases e : j < k
          · exact HE.out j y e hy
          · have e2 : j = k := by omega
            subst e2
            rw [HX.out] at hy
            rw [← Option.some.inj hy]
            exact of_decide_eq_false HQ.out), HW1⟩
        case measure => simp [intOf]; omega
      · go_wp2_with fail
        go_ret
        have hmem : b ∈ bs := by
          have := of_decide_eq_true HQ.out
          rw [← this]; exact List.mem_of_getElem? HX.out
        refine ⟨_, _, _, vs, rfl, own_kept HO.out HW1.out, ?_, grown_of_below HW1.out _⟩
        unfold ins
        rw [if_pos hmem]
        exact HS.out.map fun v b h => h.kept HW1.out
    · have hmem : b ∉ bs := fun hm => by
        obtain ⟨j, hj⟩ := List.getElem?_of_mem hm
        have hjl := (List.getElem?_eq_some_iff.1 hj).1
        have := HN.out
        exact HE.out j b (by omega) hj rfl
      have HM := hide hmem
      clear hmem
      have HOW := hide (own_kept HO.out HW.out)
      have HB2 : Hid (base ≤ wr.heap.size) := hide (Nat.le_trans HBA.out HW.out.size)
      go_wp2_with (at_builtin; go_loud (refine wpList_push rfl (.tmp 19) (.tmp 21) 28 rfl base 48 Try.info48 rfl Try.underlying28 A n c _ _ rfl HOW.out wr.heap.size rfl rfl rfl (by unfold maxLen; omega) (by omega) HB2.out ?_))
      intro g' c' w2 hown2 hg
      go_wp2_with fail
      go_ret
      have hgw : w.grownBy w2 (Value.slice A n c).ownBlock := by
        have h1 : Below w.heap.size w (wr.alloc (.cells #[.slice D L d] 48)) := HW.out.alloc HW.out.size _
        exact ⟨hg.os.trans h1.os, hg.tape.trans h1.tape, hg.output.trans h1.output, Nat.le_trans h1.size hg.size, fun i hi hr => (hg.block i (Nat.lt_of_lt_of_le hi h1.size) hr).trans (h1.block i hi)⟩
      refine ⟨_, _, _, _, rfl, hown2, ?_, hgw⟩
      unfold ins
      rw [if_neg HM.out]
      refine (HS.out.map fun v b h => h.grown hgw (own_48 HO.out)).snoc (HU.out.grown hgw (own_48 HO.out))
end Go.Proofs.Ytgledbjkjpngeaa
