/- The reference's memory; where a number stands in it; whether some set has it. -/
import Derived.Test.YtgledbjkjpngeaaF
namespace Go.Proofs.Ytgledbjkjpngeaa
open Go.RowKit Go.Maps

/-- A slice that is seen, in a block that K names. -/
def SeesK (w : World) (K : Nat → Prop) (A : Option Addr) (xs : List Value) : Prop :=
  ∀ (j : Nat) (u : Value), xs[j]? = some u → ∃ b o, A = some ⟨b, o, none⟩ ∧ K b ∧ w.cell? ⟨b, o + j, none⟩ = some u
section
variable {w w' : World} {K K' : Nat → Prop} {A : Option Addr} {xs : List Value}
theorem SeesK.sees (h : SeesK w K A xs) : Sees w A xs := fun j u hj => by
  obtain ⟨b, o, h1, _, h2⟩ := h j u hj
  exact ⟨b, o, h1, h2⟩
theorem SeesK.mono (h : SeesK w K A xs) (hk : ∀ g, g < w.heap.size → K g → K' g) : SeesK w K' A xs := fun j u hj => by
  obtain ⟨b, o, h1, h2, h3⟩ := h j u hj
  exact ⟨b, o, h1, hk b (World.block_lt_of_cell? w _ h3) h2, h3⟩
theorem SeesK.blocks (h : SeesK w K A xs) (hb : ∀ g, g < w.heap.size → K g → w'.heap[g]? = w.heap[g]?) : SeesK w' K A xs := fun j u hj => by
  obtain ⟨b, o, h1, h2, h3⟩ := h j u hj
  exact ⟨b, o, h1, h2, (World.cell?_of_block (hb b (World.block_lt_of_cell? w _ h3) h2)).trans h3⟩
theorem seesK_own {base n c : Nat} {e : TypeId} (h : w.ownsRow base e 1 (.slice A n c) n xs) (hk : ∀ g, base ≤ g → K g) : SeesK w K A xs := fun j u hj => by
  obtain ⟨b, o, h1, h2⟩ := (Sees.of_own h) j u hj
  exact ⟨b, o, h1, hk b (own_row_ge h b (by rw [h1]; rfl)), h2⟩
end
/-- The reference's memory. -/
structure Ref (w : World) (K : Nat → Prop) (ids : List Int) (bs : List (List Bool)) (vs : List Value) (A1 : Option Addr) (n1 c1 : Nat) (A2 : Option Addr) (n2 : Nat) : Prop where
  l1 : ids.length = n1
  l2 : bs.length = n2
  nn : A1 = none → n1 = 0 ∧ c1 = 0
  s1 : SeesK w K A1 (ids.map (Value.int .i64))
  s2 : SeesK w K A2 vs
  st : Sets w K vs bs
  len : ∀ b ∈ bs, b.length = n1
section
variable {w w' : World} {K K' : Nat → Prop} {ids : List Int} {bs : List (List Bool)} {vs : List Value} {A1 A2 : Option Addr} {n1 c1 n2 : Nat}
theorem Ref.kept (h : Ref w K ids bs vs A1 n1 c1 A2 n2) (hb : Below w.heap.size w w') : Ref w' K ids bs vs A1 n1 c1 A2 n2 :=
  ⟨h.l1, h.l2, h.nn, h.s1.blocks fun g hg _ => hb.block g hg, h.s2.blocks fun g hg _ => hb.block g hg, h.st.map fun v b hi => hi.kept hb, h.len⟩
theorem Ref.only {F : List Nat} (h : Ref w K ids bs vs A1 n1 c1 A2 n2) (ho : Only F w w') (hF : ∀ g, K g → g ∉ F) : Ref w' K ids bs vs A1 n1 c1 A2 n2 :=
  ⟨h.l1, h.l2, h.nn, h.s1.blocks fun g hg hk => ho.block g hg (hF g hk), h.s2.blocks fun g hg hk => ho.block g hg (hF g hk), h.st.map fun v b hi => hi.only ho hF, h.len⟩
theorem Ref.mono (h : Ref w K ids bs vs A1 n1 c1 A2 n2) (hk : ∀ g, g < w.heap.size → K g → K' g) : Ref w K' ids bs vs A1 n1 c1 A2 n2 :=
  ⟨h.l1, h.l2, h.nn, h.s1.mono hk, h.s2.mono hk, h.st.map fun v b hi => hi.mono hk, h.len⟩
theorem Ref.at (h : Ref w K ids bs vs A1 n1 c1 A2 n2) {i : Nat} {b : List Bool} (hb : bs[i]? = some b) :
    ∃ bb oo D d, A2 = some ⟨bb, oo, none⟩ ∧ w.cell? ⟨bb, oo + i, none⟩ = some (.slice D n1 d) ∧ Inn w K (.slice D n1 d) b ∧ b.length = n1 := by
  obtain ⟨v, hv, hi⟩ := h.st.2 i b hb
  have hl := h.len b (List.mem_of_getElem? hb)
  obtain ⟨D, d, rfl⟩ := hi.formL hl
  obtain ⟨bb, oo, e, _, t0⟩ := h.s2 i _ hv
  exact ⟨bb, oo, D, d, e, t0, hi, hl⟩
end
def refV (M : Int) (A1 : Option Addr) (n1 c1 : Nat) (A2 : Option Addr) (n2 c2 : Nat) : Value := .agg #[.int .i64 M, .slice A1 n1 c1, .slice A2 n2 c2]

theorem posI_first : ∀ {l : List Int} {x : Int} {k : Nat}, l[k]? = some x → (∀ j, j < k → l[j]? ≠ some x) → posI l x = some k
  | [], x, k, h, _ => by simp at h
  | y :: l, x, 0, h, _ => by simp at h; subst h; unfold posI; rw [if_pos rfl]
  | y :: l, x, k + 1, h, hn => by
    have h0 := hn 0 (by omega)
    have hne : ¬ y = x := fun e => h0 (by rw [e]; rfl)
    unfold posI
    rw [if_neg hne, posI_first (by simpa using h) (fun j hj => by simpa using hn (j + 1) (by omega))]; rfl
theorem posI_nobody {l : List Int} {x : Int} (h : ∀ j : Nat, l[j]? ≠ some x) : posI l x = none := posI_none.2 fun hm => by
  obtain ⟨j, hj⟩ := List.getElem?_of_mem hm
  exact h j hj
/-- Where a number stands, or -1. -/
def atZ (ids : List Int) (x : Int) : Int := match posI ids x with
  | some i => (i : Nat)
  | none => -1

set_option maxRecDepth 10000 in
set_option maxHeartbeats 1000000 in
theorem at_any (M x : Int) (A1 A2 : Option Addr) (n1 c1 n2 c2 : Nat) (ids : List Int) (w : World) (hn : n1 ≤ 1000) (hl : ids.length = n1) (hs : Sees w A1 (ids.map (Value.int .i64))) :
    Calls Try.prog 18 #[.agg #[.int .i64 M, .slice A1 n1 c1, .slice A2 n2 c2], .int .i64 x] w fun e w' => e = .returned (.int .i64 (atZ ids x)) ∧ Below w.heap.size w w' := by
  have HS := hide hs
  have HL := hide hl
  clear hs hl
  go_enter Try.func18, Try.ntmps18
  go_wp2_with fail
  go_loopw [5] (fun ii wr => ∃ (k : Nat), ii = .int .i64 (k : Nat) ∧ k ≤ n1 ∧ Hid (∀ j, j < k → ids[j]? ≠ some x) ∧ Hid (Blk wr w.heap.size 30 #[.int .i64 M, .slice A1 n1 c1, .slice A2 n2 c2]) ∧ Hid (Below w.heap.size w wr)) (fun ii _ => n1 - (intOf ii).toNat)
  case atStart => exact ⟨0, rfl, Nat.zero_le _, hide (fun j hj => absurd hj (by omega)), hide (Blk.born _ _ _), hide ((Below.refl _ _).alloc (Nat.le_refl _) _)⟩
  case round =>
    obtain ⟨k, rfl, hk, HE, HB, HW⟩ := hrel
    have t1 : wr.cell? ⟨w.heap.size, 1, none⟩ = some (.slice A1 n1 c1) := by rw [HB.out.cell]; rfl
    by_cases hlt : k < n1
    · have hki : (k : Int) < (n1 : Int) := by omega
      obtain ⟨y, hy⟩ : ∃ y, ids[k]? = some y := ⟨_, List.getElem?_eq_getElem (by have := HL.out; omega)⟩
      have HY := hide hy
      obtain ⟨bb, oo, rfl, t0⟩ := (HS.out.kept HW.out) k (.int .i64 y) (by rw [List.getElem?_map, hy]; rfl)
      clear hy
      by_cases hyx : y = x
      · have hb : (y == x) = true := by rw [hyx]; simp
        have HP : Hid (atZ ids x = (k : Nat)) := hide (by
          unfold atZ
          rw [posI_first (by rw [HY.out, hyx]) HE.out])
        clear hyx
        go_wp2_with fail
        go_ret
        exact ⟨by rw [HP.out]; rfl, HW.out⟩
      · have hb : (y == x) = false := by rw [beq_eq_false_iff_ne]; exact hyx
        have HE1 : Hid (∀ j, j < k + 1 → ids[j]? ≠ some x) := hide (fun j hj => by
          by_cases e : j < k
          · exact HE.out j e
          · have : j = k := by omega
            rw [this, HY.out]
            exact fun e => hyx (Option.some.inj e))
        clear hyx
        go_wp2_with fail
        go_roundw
        case rel => exact ⟨k + 1, by go_num, by omega, HE1, HB, HW⟩
        case measure => simp [intOf]; omega
    · have HP : Hid (atZ ids x = -1) := hide (by
        unfold atZ
        rw [posI_nobody (fun j hj => by
          have := (List.getElem?_eq_some_iff.1 hj).1
          have := HL.out
          exact HE.out j (by omega) hj)])
      go_wp2_with fail
      go_ret
      exact ⟨by rw [HP.out]; rfl, HW.out⟩

/-- Has some set a stream? -/
def hasZ (ids : List Int) (bs : List (List Bool)) (x : Int) : Bool := match posI ids x with
  | some i => bs.any (fun b => isIn b i)
  | none => false

set_option maxRecDepth 10000 in
set_option maxHeartbeats 2000000 in
theorem rcan_any (M x : Int) (K : Nat → Prop) (A1 A2 : Option Addr) (n1 c1 n2 c2 : Nat) (ids : List Int) (bs : List (List Bool)) (vs : List Value) (w : World) (hn1 : n1 ≤ 100) (hn2 : n2 ≤ 300) (hr : Ref w K ids bs vs A1 n1 c1 A2 n2) :
    Calls Try.prog 11 #[.agg #[.int .i64 M, .slice A1 n1 c1, .slice A2 n2 c2], .int .i64 x] w fun e w' => e = .returned (.bool (hasZ ids bs x)) ∧ Below w.heap.size w w' := by
  have HR := hide hr
  clear hr
  go_enter Try.func11, Try.ntmps11
  go_wp2_with fail
  refine (at_any M x A1 A2 n1 c1 n2 c2 ids _ (by omega) HR.out.l1 (HR.out.s1.sees.alloc _)).mono ?_
  rintro e w1 ⟨rfl, hb⟩
  have HB0 : Hid (Blk w1 w.heap.size 30 #[.int .i64 M, .slice A1 n1 c1, .slice A2 n2 c2]) := hide ((Blk.born w 30 _).kept hb)
  have HW0 : Hid (Below w.heap.size w w1) := hide (below_base1 hb)
  clear hb
  cases hp : posI ids x with
  | none =>
    have HZ : Hid (hasZ ids bs x = false) := hide (by unfold hasZ; rw [hp])
    rw [show atZ ids x = -1 from by unfold atZ; rw [hp]]
    clear hp
    go_wp2_with fail
    go_loopw [6] (fun ii wr => ii = .int .i64 0 ∧ Hid (Blk wr w.heap.size 30 #[.int .i64 M, .slice A1 n1 c1, .slice A2 n2 c2]) ∧ Hid (Below w.heap.size w wr)) (fun _ _ => 0)
    case atStart => exact ⟨rfl, HB0, HW0⟩
    case round =>
      clear HB0 HW0
      obtain ⟨rfl, HB, HW⟩ := hrel
      have t2 : wr.cell? ⟨w.heap.size, 2, none⟩ = some (.slice A2 n2 c2) := by rw [HB.out.cell]; rfl
      by_cases h0 : 0 < n2
      · have hni : (0 : Int) < (n2 : Int) := by omega
        go_wp2_with fail
        go_ret
        exact ⟨by rw [HZ.out]; rfl, HW.out⟩
      · go_wp2_with fail
        go_ret
        exact ⟨by rw [HZ.out]; rfl, HW.out⟩
  | some i =>
    have hil : i < n1 := by rw [← HR.out.l1]; exact posI_lt hp
    have HZ : Hid (hasZ ids bs x = bs.any (fun b => isIn b i)) := hide (by unfold hasZ; rw [hp])
    rw [show atZ ids x = (i : Nat) from by unfold atZ; rw [hp]]
    clear hp
    have hii : (i : Int) < (n1 : Int) := by omega
    have hi0 : (0 : Int) ≤ (i : Int) := by omega
    go_wp2_with fail
    go_loopw [6] (fun ii wr => ∃ k : Nat, ii = .int .i64 (k : Nat) ∧ k ≤ n2 ∧ Hid (∀ j b, j < k → bs[j]? = some b → isIn b i = false) ∧ Hid (Blk wr w.heap.size 30 #[.int .i64 M, .slice A1 n1 c1, .slice A2 n2 c2]) ∧ Hid (Below w.heap.size w wr)) (fun ii _ => n2 - (intOf ii).toNat)
    case atStart => exact ⟨0, rfl, Nat.zero_le _, hide (fun j b hj => absurd hj (by omega)), HB0, HW0⟩
    case round =>
      clear HB0 HW0
      obtain ⟨k, rfl, hk, HE, HB, HW⟩ := hrel
      have t2 : wr.cell? ⟨w.heap.size, 2, none⟩ = some (.slice A2 n2 c2) := by rw [HB.out.cell]; rfl
      by_cases hlt : k < n2
      · have hki : (k : Int) < (n2 : Int) := by omega
        obtain ⟨b, hb⟩ : ∃ b, bs[k]? = some b := ⟨_, List.getElem?_eq_getElem (by have := HR.out.l2; omega)⟩
        have HBB := hide hb
        obtain ⟨bb, oo, D, d, rfl, t0, hI, -⟩ := (HR.out.kept HW.out).at hb
        obtain ⟨-, b2, o2, rfl, t1⟩ := hI.at hil
        obtain ⟨q, hq⟩ : ∃ q, isIn b i = q := ⟨_, rfl⟩
        rw [hq] at t1
        have HQ := hide hq
        clear hq hI hb
        cases q
        · have HE1 : Hid (∀ j b, j < k + 1 → bs[j]? = some b → isIn b i = false) := hide (fun j b hj hb => by
            by_cases e : j < k
            · exact HE.out j b e hb
            · have : j = k := by omega
              subst this
              rw [HBB.out] at hb
              rw [← Option.some.inj hb]; exact HQ.out)
          go_wp2_with fail
          go_roundw
          case rel => exact ⟨k + 1, by go_num, by omega, HE1, HB, HW⟩
          case measure => simp [intOf]; omega
        · have HA : Hid (bs.any (fun b => isIn b i) = true) := hide (List.any_eq_true.2 ⟨b, List.mem_of_getElem? HBB.out, HQ.out⟩)
          go_wp2_with fail
          go_ret
          exact ⟨by rw [HZ.out, HA.out]; rfl, HW.out⟩
      · have HA : Hid (bs.any (fun b => isIn b i) = false) := hide (by
          rw [List.any_eq_false]
          intro b hb
          obtain ⟨j, hj⟩ := List.getElem?_of_mem hb
          have h1 := (List.getElem?_eq_some_iff.1 hj).1
          have h2 := HR.out.l2
          rw [HE.out j b (by omega) hj]; simp)
        go_wp2_with fail
        go_ret
        exact ⟨by rw [HZ.out, HA.out]; rfl, HW.out⟩
end Go.Proofs.Ytgledbjkjpngeaa
