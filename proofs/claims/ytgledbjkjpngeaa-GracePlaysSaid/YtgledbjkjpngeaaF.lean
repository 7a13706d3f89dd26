/- The reference: a set without one; all that are left when some are forgotten. -/
import Derived.Test.YtgledbjkjpngeaaC
namespace Go.Proofs.Ytgledbjkjpngeaa
open Go.RowKit Go.Maps

/-- A row of truths, as its block. -/
theorem own_blk {w : World} {base n : Nat} {A : Option Addr} {c : Nat} {b : List Bool} (h : w.ownsRow base 4 1 (.slice A n c) n (b.map Value.bool)) (hn : 0 < n) : ∃ g cur, A = some ⟨g, 0, none⟩ ∧ base ≤ g ∧ Blk w g 4 cur ∧ n ≤ c ∧ c ≤ maxLen ∧ cur.size = c ∧ cur.toList.take n = b.map Value.bool := by
  rcases h.2 with ⟨hv, h0⟩ | ⟨g, cap, cur, hv, hb, hh, h1, h2, h3, h4⟩
  · omega
  · injection hv with e1 e2 e3
    subst e1 e3
    exact ⟨g, cur, rfl, hb, hh, h1, h2, by rw [h3]; omega, by rw [← h4]; congr 1; omega⟩
theorem blk_own {w : World} {base n g c : Nat} {cur : Array Value} {b : List Bool} (hb : base ≤ g) (hh : Blk w g 4 cur) (h1 : n ≤ c) (h2 : c ≤ maxLen) (h3 : cur.size = c) (h4 : cur.toList.take n = b.map Value.bool) (h5 : b.length = n) : w.ownsRow base 4 1 (.slice (some ⟨g, 0, none⟩) n c) n (b.map Value.bool) :=
  ⟨by simp; omega, .inr ⟨g, c, cur, rfl, hb, hh, h1, h2, by omega, by rw [Nat.mul_one]; exact h4⟩⟩

set_option maxRecDepth 10000 in
set_option maxHeartbeats 1000000 in
theorem less_any (K : Nat → Prop) (v : Value) (b : List Bool) (i n : Nat) (w : World) (hn : n ≤ 100) (hl : b.length = n) (hi : i < n) (h : Inn w K v b) :
    Calls Try.prog 22 #[v, .int .i64 (i : Nat)] w fun e w' => ∃ u, e = .returned u ∧ Inn w' (fun g => w.heap.size ≤ g) u (b.set i false) ∧ Below w.heap.size w w' := by
  obtain ⟨A, c, rfl, hA, hs⟩ := h.sees
  rw [hl] at hA ⊢
  have HS := hide hs
  have HL := hide hl
  have HAN := hide hA
  clear hs hl hA h
  go_enter Try.func22, Try.ntmps22
  have hO0 := own_none (w := w) w.heap.size 4 (Nat.le_refl _)
  have HO0 := hide hO0
  have HS1 := hide (HS.out.alloc (.cells #[] 4))
  clear hO0
  go_wp2_with (at_builtin; go_loud (refine wpList_pour rfl (.tmp 6) (.tmp 7) 48 rfl w.heap.size 4 Try.info4 rfl Try.underlying48 _ 0 [] rfl HO0.out A n c _ rfl (by rw [List.length_map]; exact HL.out) HAN.out HS1.out (bools_one _) (by unfold maxLen; omega) (by omega) (by simp) ?_))
  intro B c' w1 hown hg
  obtain ⟨g, cur, rfl, hbg, hh, h1, h2, h3, h4⟩ := own_blk hown (by omega)
  have HW1 : Hid (Below w.heap.size w w1) := hide (((Below.refl _ _).alloc (Nat.le_refl _) _).grown hg (by simp) (fun j hj => by
    have e : w.heap.size = j := Option.some.inj hj
    omega))
  have HB := hide hh
  have hil : i < cur.size := by omega
  have t0 : w1.cell? ⟨g, i, none⟩ = some cur[i] := by rw [hh.cell, Array.getElem?_eq_getElem hil]
  have f0 := hh.free i
  have hii : (i : Int) < (n : Int) := by omega
  have HC := hide (And.intro hbg (And.intro h1 (And.intro h2 (And.intro h3 h4))))
  clear hh h1 h2 h3 h4 hown hg HO0 HS1 hbg
  go_wp2_with fail
  go_ret
  have hb2 := HB.out.store i (.bool false)
  obtain ⟨hbg, h1, h2, h3, h4⟩ := HC.out
  refine ⟨_, rfl, ?_, HW1.out.setCell hbg _⟩
  refine inn_own (base := w.heap.size) ?_ (fun g hg => hg)
  rw [List.length_set, HL.out]
  refine blk_own hbg hb2 h1 h2 (by simp [h3]) ?_ (by rw [List.length_set]; exact HL.out)
  rw [Array.toList_setIfInBounds, List.take_set, h4, List.map_set]

theorem Inn.formL {w : World} {K : Nat → Prop} {v : Value} {b : List Bool} {L : Nat} (h : Inn w K v b) (hl : b.length = L) : ∃ A c, v = .slice A L c := by
  obtain ⟨A, c, e, _⟩ := h; exact ⟨A, c, by rw [e, hl]⟩
/-- A list of sets of the call's own. -/
structure Own (w0 w : World) (K : Nat → Prop) (A : Option Addr) (n c L : Nat) (vs : List Value) (bs : List (List Bool)) : Prop where
  own : w.ownsRow w0.heap.size 48 1 (.slice A n c) n vs
  sets : Sets w K vs bs
  len : ∀ b ∈ bs, b.length = L
  bel : Below w0.heap.size w0 w
theorem Own.num {w0 w : World} {K : Nat → Prop} {A : Option Addr} {n c L : Nat} {vs : List Value} {bs : List (List Bool)} (h : Own w0 w K A n c L vs bs) : bs.length = n := by
  have := h.own.1; have := h.sets.1; omega
theorem Own.kept {w0 w w' : World} {K : Nat → Prop} {A : Option Addr} {n c L : Nat} {vs : List Value} {bs : List (List Bool)} (h : Own w0 w K A n c L vs bs) (hb : Below w.heap.size w w') : Own w0 w' K A n c L vs bs :=
  ⟨own_kept h.own hb, h.sets.map fun v b hi => hi.kept hb, h.len, below_nextB h.bel h.bel.size hb⟩
/-- What stands at a place. -/
theorem Own.at {w0 w : World} {K : Nat → Prop} {A : Option Addr} {n c L : Nat} {vs : List Value} {bs : List (List Bool)} (h : Own w0 w K A n c L vs bs) {i : Nat} {b : List Bool} (hb : bs[i]? = some b) :
    ∃ bb oo D d, A = some ⟨bb, oo, none⟩ ∧ w.cell? ⟨bb, oo + i, none⟩ = some (.slice D L d) ∧ Inn w K (.slice D L d) b ∧ b.length = L := by
  obtain ⟨v, hv, hi⟩ := h.sets.2 i b hb
  have hl := h.len b (List.mem_of_getElem? hb)
  obtain ⟨D, d, rfl⟩ := hi.formL hl
  obtain ⟨bb, oo, e, t0⟩ := (Sees.of_own h.own) i _ hv
  exact ⟨bb, oo, D, d, e, t0, hi, hl⟩
theorem own_with (w0 : World) (K : Nat → Prop) (A : Option Addr) (n c L : Nat) (vs : List Value) (bs : List (List Bool)) (u : Value) (b : List Bool) (w : World) (hn : n ≤ 1000) (hL : L ≤ 100)
    (h : Own w0 w K A n c L vs bs) (hu : Inn w K u b) (hb : b.length = L) :
    Calls Try.prog 21 #[.slice A n c, u] w fun e w' => ∃ A' n' c' vs', e = .returned (.slice A' n' c') ∧ Own w0 w' K A' n' c' L vs' (ins bs b) := by
  refine (with_any w0.heap.size K A n c L vs bs u b w hn hL h.bel.size h.own h.sets h.len hu hb).mono ?_
  rintro e w' ⟨A', n', c', vs', he, h1, h2, h3⟩
  refine ⟨A', n', c', vs', he, h1, h2, fun x hx => ?_, h.bel.grown h3 h.bel.size (fun j hj => own_row_ge h.own j hj)⟩
  rcases mem_ins.1 hx with hx | rfl
  · exact h.len x hx
  · exact hb

set_option maxRecDepth 10000 in
set_option maxHeartbeats 4000000 in
theorem forg_any (K K1 : Nat → Prop) (A : Option Addr) (n c L : Nat) (vs : List Value) (bs : List (List Bool)) (w : World) (hn : n ≤ 300) (hL : L ≤ 7) (hlv : bs.length = n) (hsee : Sees w A vs) (hs : Sets w K vs bs) (hl : ∀ x ∈ bs, x.length = L)
    (hK : ∀ g, K g ∨ w.heap.size ≤ g → K1 g) :
    Calls Try.prog 19 #[.slice A n c] w fun e w' => ∃ A' n' c' vs' out, e = .returned (.slice A' n' c') ∧ Own w w' K1 A' n' c' L vs' out ∧ out.Nodup ∧ ∀ x, x ∈ out ↔ ∃ y ∈ bs, Sub x y := by
  have HN := hide hlv
  have HSEE := hide hsee
  have HS := hide hs
  have HL := hide hl
  have HK := hide hK
  clear hlv hsee hs hl hK
  go_enter Try.func19, Try.ntmps19
  go_wp2_with fail
  go_loopw [3, 4] (fun vv ii wr => ∃ (k : Nat) (B : Option Addr) (C N : Nat) (us : List Value) (out : List (List Bool)), vv = .slice B N C ∧ ii = .int .i64 (k : Nat) ∧ k ≤ n ∧ Hid (Own w wr K1 B N C L us out) ∧ Hid (out.Nodup ∧ ∀ x, x ∈ out ↔ x ∈ bs.take k)) (fun _ ii _ => n - (intOf ii).toNat)
  case atStart => exact ⟨0, none, 0, 0, [], [], rfl, rfl, Nat.zero_le _, hide ⟨World.ownsRow_nil _ _ _ _, Sets.nil _ _, (fun b hb => by cases hb), Below.refl _ _⟩, hide ⟨List.nodup_nil, by simp⟩⟩
  case round =>
    obtain ⟨k, B, C, N, us, out, rfl, rfl, hk, HO, HF⟩ := hrel
    have hN : N ≤ 128 := by rw [← HO.out.num]; exact few_sets HF.out.1 HO.out.len hL
    by_cases hlt : k < n
    · have hki : (k : Int) < (n : Int) := by omega
      have hkb : k < bs.length := by have := HN.out; omega
      obtain ⟨b, hb⟩ : ∃ b, bs[k] = b := ⟨_, rfl⟩
      have hbg : bs[k]? = some b := by rw [List.getElem?_eq_getElem hkb, hb]
      obtain ⟨v, hv, hi⟩ := HS.out.2 k b hbg
      have hbl := HL.out b (List.mem_of_getElem? hbg)
      obtain ⟨bb, oo, rfl, t0⟩ := (HSEE.out.kept (HO.out.bel)) k v hv
      have HI : Hid (Inn wr K1 v b) := hide ((hi.kept HO.out.bel).mono fun g _ h => HK.out g (.inl h))
      have HBL := hide hbl
      have HT : Hid (bs.take (k + 1) = bs.take k ++ [b]) := hide (by rw [List.take_succ_eq_append_getElem hkb, hb])
      clear hb hbg hv hi hbl hkb
      go_wp2_with fail
      refine (own_with w K1 B N C L us out v b _ (by omega) (by omega) HO.out HI.out HBL.out).mono ?_
      rintro e w1 ⟨B1, N1, C1, us1, rfl, ho⟩
      have HO1 := hide ho
      clear ho t0
      go_wp2_with fail
      go_roundw
      case rel => exact ⟨k + 1, B1, C1, N1, us1, _, rfl, by go_num, by omega, HO1, hide ⟨nd_ins _ HF.out.1, fun x => by rw [mem_ins, HF.out.2, HT.out]; simp⟩⟩
      case measure => simp [intOf]; omega
    · have HG : Hid (Forg bs out 0 0) := hide (forg_start HF.out.1 (fun x => by rw [HF.out.2, List.take_of_length_le (by have := HN.out; omega)]))
      clear HF
      go_wp2_with fail
      go_loopw [3, 5] (fun vv ii wr => ∃ (i : Nat) (B : Option Addr) (C N : Nat) (us : List Value) (out : List (List Bool)), vv = .slice B N C ∧ ii = .int .i64 (i : Nat) ∧ i ≤ 128 ∧ Hid (Own w wr K1 B N C L us out) ∧ Hid (Forg bs out i 0)) (fun _ ii _ => 128 - (intOf ii).toNat)
      case atStart => exact ⟨0, B, C, N, us, out, rfl, rfl, by omega, HO, HG⟩
      case round =>
        clear HO HG hN
        obtain ⟨i, B, C, N, us, out, rfl, rfl, hi128, HO, HG⟩ := hrel
        have hN : N ≤ 128 := by rw [← HO.out.num]; exact few_sets HG.out.nd HO.out.len hL
        by_cases hlt2 : i < N
        · have hii : (i : Int) < (N : Int) := by omega
          obtain ⟨b, hb⟩ : ∃ b, out[i]? = some b := ⟨_, List.getElem?_eq_getElem (by have := HO.out.num; omega)⟩
          have HB := hide hb
          clear hb
          go_wp2_with fail
          go_loopw [3, 6] (fun vv ii wr => ∃ (k : Nat) (B : Option Addr) (C N : Nat) (us : List Value) (out : List (List Bool)), vv = .slice B N C ∧ ii = .int .i64 (k : Nat) ∧ k ≤ L ∧ i < N ∧ Hid (Own w wr K1 B N C L us out) ∧ Hid (out[i]? = some b) ∧ Hid (Forg bs out i k)) (fun _ ii _ => L - (intOf ii).toNat)
          case atStart => exact ⟨0, B, C, N, us, out, rfl, rfl, Nat.zero_le _, hlt2, HO, HB, HG⟩
          case round =>
            clear HO HG hN HB hlt2 hii
            obtain ⟨k, B, C, N, us, out, rfl, rfl, hkL, hiN, HO, HB, HG⟩ := hrel
            have hN : N ≤ 128 := by rw [← HO.out.num]; exact few_sets HG.out.nd HO.out.len hL
            have hii : (i : Int) < (N : Int) := by omega
            obtain ⟨bb, oo, D, d, rfl, t0, hI, hbl⟩ := HO.out.at HB.out
            have HI := hide hI
            have HBL := hide hbl
            clear hbl
            by_cases hlt3 : k < L
            · have hki : (k : Int) < (L : Int) := by omega
              obtain ⟨-, b2, o2, rfl, t1⟩ := hI.at hlt3
              obtain ⟨q, hq⟩ : ∃ q, isIn b k = q := ⟨_, rfl⟩
              rw [hq] at t1
              have HQ := hide hq
              clear hq hI
              cases q
              · go_wp2_with fail
                go_roundw
                case rel => exact ⟨k + 1, _, C, N, us, out, rfl, by go_num, by omega, hiN, HO, HB, hide (HG.out.skip HB.out HQ.out)⟩
                case measure => simp [intOf]; omega
              · go_wp2_with fail
                refine (less_any K1 _ b k L _ (by omega) HBL.out hlt3 HI.out).mono ?_
                rintro e w1 ⟨u, rfl, hu, hb1⟩
                have HU : Hid (Inn w1 K1 u (b.set k false)) := hide (hu.mono fun g _ h => HK.out g (.inr (Nat.le_trans HO.out.bel.size h)))
                have HO1 := hide (HO.out.kept hb1)
                have HBL1 : Hid ((b.set k false).length = L) := hide (by rw [List.length_set, HBL.out])
                clear hu hb1 t0 t1
                go_wp2_with fail
                refine (own_with w K1 _ N C L us out u (b.set k false) _ (by omega) (by omega) HO1.out HU.out HBL1.out).mono ?_
                rintro e w2 ⟨B2, N2, C2, us2, rfl, ho⟩
                have HO2 := hide ho
                have HG2 := hide (HG.out.less HB.out)
                have HB2 : Hid ((ins out (b.set k false))[i]? = some b) := hide (by rw [get_ins _ (by have := HO.out.num; omega)]; exact HB.out)
                have hiN2 : i < N2 := by
                  have h1 := ho.num; have h2 := HO.out.num; have h3 := (len_ins out (b.set k false)).1
                  omega
                clear ho
                go_wp2_with fail
                go_roundw
                case rel => exact ⟨k + 1, B2, C2, N2, us2, _, rfl, by go_num, by omega, hiN2, HO2, HB2, HG2⟩
                case measure => simp [intOf]; omega
            · have hkl : L ≤ k := by omega
              have HG1 := hide (HG.out.next HB.out (by rw [HBL.out]; exact hkl))
              clear hI
              go_wp2_with fail
              go_roundw
              case rel => exact ⟨i + 1, _, C, N, us, out, rfl, by go_num, by omega, HO, HG1⟩
              case measure => simp [intOf]; omega
        · have HM := hide (HG.out.none (by have := HO.out.num; omega))
          go_wp2_with fail
          go_ret
          exact ⟨_, _, _, us, out, rfl, HO.out, HG.out.nd, HM.out⟩
end Go.Proofs.Ytgledbjkjpngeaa
