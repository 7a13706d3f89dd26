/- Contracts: Length, Order, Same, of the reference. -/
import Derived.Test.YtlnaedaibhglcaaQ
namespace Go.Proofs.Ytlnaedaibhglcaa
open Go.RowKit

theorem rlen_in (k : Nat) (w : World) (hk : k < 257) : Calls Try.prog 14 #[.int .i64 (k : Nat)] w fun e w' => e = .returned (.int .i64 (sz k : Nat)) ∧ Below w.heap.size w w' := by
  have h17 : k / 16 < 17 := by omega
  have hj : (rowl (k / 16))[k % 16]? = some (sz k) := by
    unfold rowl
    rw [List.getElem?_map, List.getElem?_range (by split <;> omega)]
    simp only [Option.map_some]
    rw [Nat.div_add_mod]
  have hl : k % 16 < (rowl (k / 16)).length := (List.getElem?_eq_some_iff.1 hj).1
  have HJ := hide hj
  have e1 : ((k : Int) / 16) = ((k / 16 : Nat) : Int) := rfl
  have hki : (k : Int) ≤ 256 := by omega
  have hR := row_any ((k : Int) / 16) (k / 16) w h17 e1
  obtain ⟨L, hL⟩ : ∃ L, (rowl (k / 16)).length = L := ⟨_, rfl⟩
  rw [hL] at hl
  have HR := hide hR
  have HLL := hide hL
  have hli : ((k : Int) % 16) < (L : Int) := by omega
  clear hj hR hL e1
  go_enter Try.func14, Try.ntmps14
  go_wp2_with fail
  refine HR.out.mono ?_
  rintro e w1 ⟨A, c, rfl, hs, hb⟩
  obtain ⟨bb, oo, rfl, c1⟩ := hs _ _ (ints_at _ HJ.out)
  rw [HLL.out]
  have HB := hide hb
  clear hs hb
  go_wp2_with fail
  go_ret
  exact ⟨rfl, HB.out⟩
theorem rlen_any (s : Int) (w : World) : Calls Try.prog 14 #[.int .i64 s] w fun e w' => e = .returned (.int .i64 (szI s)) ∧ Below w.heap.size w w' := by
  unfold szI
  by_cases h : isIn s
  · rw [if_pos h]
    obtain ⟨k, rfl⟩ : ∃ k : Nat, s = k := ⟨s.toNat, by unfold isIn at h; omega⟩
    have := rlen_in k w (by unfold isIn at h; omega)
    simpa using this
  · rw [if_neg h]
    rcases out_of h with h1 | h1
    all_goals
      go_enter Try.func14, Try.ntmps14
      go_wp2_with fail
      go_ret
      exact ⟨rfl, Below.refl _ _⟩

theorem cnt_skip {n k : Nat} (hz : ¬ sz k = n) : cnt n (k + 1) = cnt n k := by
  show cnt n k + _ = _
  rw [if_neg hz]; rfl
theorem flt_skip {n k : Nat} (hz : ¬ sz k = n) : flt n (k + 1) = flt n k := by
  show (if _ then _ else _) = _
  rw [if_neg hz]
/-! ### Order -/
theorem pos_len : ∀ n, n < 31 → (ordTo n).length ≤ 257 := ord_len
set_option maxRecDepth 10000 in
set_option maxHeartbeats 2000000 in
theorem rord_any (w : World) : Calls Try.prog 17 #[] w (NPost ordl w) := by
  go_enter Try.func17, Try.ntmps17
  go_wp2_with fail
  refine (lens_any _).mono ?_
  rintro e w1 ⟨D, DC, rfl, hs1, hb1⟩
  have HS1 := hide hs1
  have HB1 := hide hb1
  have HD := hide lens_len
  rw [HD.out]
  clear hs1 hb1
  go_wp2_with fail
  go_loopw [2, 3] (fun vv ii wr => ∃ (n : Nat) (A : Option Addr) (C L : Nat), vv = .slice A L C ∧ ii = .int .i64 (n : Nat) ∧ 1 ≤ n ∧ n ≤ 31 ∧ Hid ((ordTo (n - 1)).length = L) ∧ Hid (wr.ownsRow w1.heap.size 3 1 (.slice A L C) L (ints (ordTo (n - 1)))) ∧ Hid (Below w1.heap.size w1 wr)) (fun _ ii _ => 31 - (intOf ii).toNat)
  case atStart => exact ⟨1, none, 0, 0, rfl, rfl, Nat.le_refl _, by decide, hide rfl, hide (World.ownsRow_nil _ _ _ _), hide (Below.refl _ _)⟩
  case round =>
    obtain ⟨n, A, C, L, rfl, rfl, hn1, hn2, HL, HO, HW⟩ := hrel
    by_cases hn : n ≤ 30
    · have hni : (n : Int) ≤ 30 := by omega
      have hLb : L ≤ 257 := by rw [← HL.out]; exact ord_len _ (by omega)
      go_wp2_with fail
      go_loopw [2, 4] (fun vv ii wr => ∃ (k : Nat) (A : Option Addr) (C N : Nat), vv = .slice A N C ∧ ii = .int .i64 (k : Nat) ∧ k ≤ 257 ∧ N ≤ 514 ∧ Hid (L + cnt n k = N) ∧ Hid (wr.ownsRow w1.heap.size 3 1 (.slice A N C) N (ints (ordTo (n - 1) ++ flt n k))) ∧ Hid (Below w1.heap.size w1 wr)) (fun _ ii _ => 257 - (intOf ii).toNat)
      case atStart => exact ⟨0, A, C, L, rfl, rfl, Nat.zero_le _, by omega, hide rfl, hide (by rw [show flt n 0 = [] from rfl, List.append_nil]; exact HO.out), HW⟩
      case round =>
        clear HO HW
        obtain ⟨k, A, C, N, rfl, rfl, hk, hN, HN, HO, HW⟩ := hrel
        by_cases hk2 : k < 257
        · have hki : (k : Int) ≤ 256 := by omega
          obtain ⟨bb, oo, rfl, c0⟩ := HS1.out k _ (ints_at _ (lens_at hk2))
          have hbb : bb < w1.heap.size := World.block_lt_of_cell? w1 _ c0
          have c1 : wr.cell? ⟨bb, oo + k, none⟩ = some (.int .i64 (sz k : Nat)) := (HW.out.cell (p := ⟨bb, oo + k, none⟩) hbb).trans c0
          clear c0
          by_cases hz : sz k = n
          · have hzi : ((sz k : Nat) : Int) = (n : Nat) := by rw [hz]
            have HSZ := hide HW.out.size
            go_wp2_with (at_builtin; go_loud (refine wpList_push rfl (.tmp 20) (.tmp 22) 35 rfl w1.heap.size 3 Try.info3 rfl Try.underlying35 A N C _ _ rfl HO.out wr.heap.size rfl rfl rfl (by unfold maxLen; omega) (by omega) HSZ.out ?_))
            intro g' c' w2 hown2 hg
            have e1 : cnt n (k + 1) = cnt n k + 1 := by show cnt n k + _ = _; rw [if_pos hz]
            have e2 : flt n (k + 1) = flt n k ++ [k] := by show (if _ then _ else _) = _; rw [if_pos hz]
            have HN1 : Hid (L + cnt n (k + 1) = N + 1) := hide (by rw [e1, ← HN.out]; omega)
            have hNb : N + 1 ≤ 514 := by rw [← HN1.out]; have := cnt_le n (k + 1); omega
            have HO1 : Hid (w2.ownsRow w1.heap.size 3 1 (.slice (some ⟨g', 0, none⟩) (N + 1) c') (N + 1) (ints (ordTo (n - 1) ++ flt n (k + 1)))) := hide (by
              rw [e2, ← List.append_assoc]
              unfold ints at hown2 ⊢
              rw [List.map_append (l₂ := [k])]
              exact hown2)
            have HW1 : Hid (Below w1.heap.size w1 w2) := hide ((HW.out.alloc HW.out.size _).grown hg (by have := HW.out.size; simp; omega) (fun j hj => own_row_ge HO.out j hj))
            clear hown2 hg e1 e2 c1 hzi
            go_wp2_with fail
            go_roundw
            case rel => exact ⟨k + 1, some ⟨g', 0, none⟩, c', N + 1, rfl, by go_num, by omega, hNb, HN1, HO1, HW1⟩
            case measure => simp [intOf]; omega
          · have hzi : (((sz k : Nat) : Int) == (n : Nat)) = false := by rw [beq_eq_false_iff_ne]; omega
            have HN1 : Hid (L + cnt n (k + 1) = N) := hide (by rw [cnt_skip hz]; exact HN.out)
            have HO1 : Hid (wr.ownsRow w1.heap.size 3 1 (.slice A N C) N (ints (ordTo (n - 1) ++ flt n (k + 1)))) := hide (by rw [flt_skip hz]; exact HO.out)
            go_wp2_with fail
            go_roundw
            case rel => exact ⟨k + 1, A, C, N, rfl, by go_num, by omega, hN, HN1, HO1, HW⟩
            case measure => simp [intOf]; omega
        · have HK : Hid (k = 257) := hide (by omega)
          have HL1 : Hid ((ordTo (n + 1 - 1)).length = N) := hide (by
            obtain ⟨m, rfl⟩ : ∃ m, n = m + 1 := ⟨n - 1, by omega⟩
            have h1 := HK.out
            subst h1
            rw [← HN.out, ← HL.out, Nat.add_sub_cancel, Nat.add_sub_cancel, show ordTo (m + 1) = ordTo m ++ flt (m + 1) 257 from rfl, List.length_append, flt_length])
          have HO1 : Hid (wr.ownsRow w1.heap.size 3 1 (.slice A N C) N (ints (ordTo (n + 1 - 1)))) := hide (by
            obtain ⟨m, rfl⟩ : ∃ m, n = m + 1 := ⟨n - 1, by omega⟩
            have h1 := HK.out
            subst h1
            exact HO.out)
          go_wp2_with fail
          go_roundw
          case rel => exact ⟨n + 1, A, C, N, rfl, by go_num, by omega, by omega, HL1, HO1, HW⟩
          case measure => simp [intOf]; omega
    · have HN31 : Hid (n = 31) := hide (by omega)
      have HS : Hid (Sees wr A (ints ordl)) := hide (by
        have h1 := HN31.out
        subst h1
        have := Sees.of_own HO.out
        rw [show 31 - 1 = 30 from rfl, ord_all] at this
        exact this)
      have HLL : Hid (L = ordl.length) := hide (by
        have h1 := HN31.out
        subst h1
        rw [← HL.out, show 31 - 1 = 30 from rfl, ord_all]; rfl)
      have HF := hide (below_nextB HB1.out HB1.out.size HW.out)
      go_wp2_with fail
      go_ret
      exact ⟨A, C, by rw [← HLL.out]; rfl, HS.out, HF.out⟩

/-! ### Same -/
set_option maxHeartbeats 1000000 in
theorem same_yes (A B : Option Addr) (n c d : Nat) (l : List Nat) (w : World) (hn : n ≤ 1000000) (HL : Hid (l.length = n)) (HA : Hid (Sees w A (ints l))) (HB : Hid (Sees w B (ints l))) : Calls Try.prog 15 #[.slice A n c, .slice B n d] w fun e w' => e = .returned (.bool true) ∧ Below w.heap.size w w' := by
  go_enter Try.func15, Try.ntmps15
  go_wp2_with fail
  go_loopw [5] (fun ii wr => ∃ k : Nat, ii = .int .i64 (k : Nat) ∧ k ≤ n ∧ Hid (Below w.heap.size w wr)) (fun ii _ => n - (intOf ii).toNat)
  case atStart => exact ⟨0, rfl, Nat.zero_le _, hide (Below.refl _ _)⟩
  case round =>
    obtain ⟨k, rfl, hk, HW⟩ := hrel
    by_cases hlt : k < n
    · have hki : (k : Int) < (n : Int) := by omega
      have hkl : k < l.length := by rw [HL.out]; exact hlt
      obtain ⟨x, hx⟩ : ∃ x, l[k]? = some x := ⟨_, List.getElem?_eq_getElem hkl⟩
      obtain ⟨ab, ao, rfl, c0⟩ := (HA.out.kept HW.out) k _ (ints_at _ hx)
      obtain ⟨bb, bo, rfl, d0⟩ := (HB.out.kept HW.out) k _ (ints_at _ hx)
      clear hkl hx
      go_wp2_with fail
      go_quiet (fail)
      go_wp2_with fail
      go_roundw
      case rel => exact ⟨k + 1, by go_num, by omega, hide (below_drewN HW.out _)⟩
      case measure => simp [intOf]; omega
    · go_wp2_with fail
      go_ret
      exact ⟨rfl, HW.out⟩
end Go.Proofs.Ytlnaedaibhglcaa
