/- The walk of the law AwayTells. -/
import Derived.Test.YtndddngpinoagaaK
import Derived.Test.YtndddngpinoagaaR
import Derived.OwnWalk
namespace Go.Proofs.Ytndddngpinoagaa
open Go.RowKit

/-- What was told, and the monitor's two fields: nothing; or the last is the least. -/
def Good (m : List Int) (t : Bool) (x : Int) : Prop := (m = [] ∧ t = false ∧ x = 0) ∨ (t = true ∧ (∃ m0, m = m0 ++ [x]) ∧ ∀ y ∈ m, x ≤ y)

theorem Good.may {m : List Int} {t : Bool} {x : Int} (h : Good m t x) (n : Int) : mayB m n = tel t x n := by
  unfold mayB tel bey
  rcases h with ⟨rfl, rfl, rfl⟩ | ⟨rfl, ⟨m0, rfl⟩, hall⟩
  · simp
  · congr 2
    rw [Bool.eq_iff_iff, List.all_eq_true]
    simp only [Bool.true_and, Bool.not_eq_true', decide_eq_false_iff_not, decide_eq_true_eq]
    constructor
    · intro hh; have := hh x (by simp); omega
    · intro hh y hy; have := hall y hy; omega
theorem Good.bey {m : List Int} {t : Bool} {x : Int} (h : Good m t x) (n : Int) : beyB m n = bey t x n := by
  unfold beyB Ytndddngpinoagaa.bey
  rcases h with ⟨rfl, rfl, rfl⟩ | ⟨rfl, ⟨m0, rfl⟩, hall⟩
  · simp
  · rw [Bool.eq_iff_iff, List.any_eq_true]
    simp only [Bool.true_and, decide_eq_true_eq]
    constructor
    · rintro ⟨y, hy, hh⟩; have := hall y hy; omega
    · intro hh; exact ⟨x, by simp, hh⟩
theorem Good.more {m : List Int} {t : Bool} {x n : Int} (h : Good m t x) (ht : tel t x n = true) : Good (m ++ [n]) true n := by
  refine .inr ⟨rfl, ⟨m, rfl⟩, ?_⟩
  have := h.may n
  rw [ht] at this
  simp only [mayB, Bool.and_eq_true, List.all_eq_true, decide_eq_true_eq] at this
  intro y hy
  rcases List.mem_append.1 hy with h1 | h1
  · exact this.2.2 y h1
  · simp at h1; omega

theorem Try.info3 : (Try.prog.info? 3).map (fun i => (i.zero, i.size, i.bytes)) = some (some (.int .i64 0), 1, 8) := by kernel_rfl

set_option maxRecDepth 100000 in
set_option maxHeartbeats 1000000 in
theorem tells_any (A : Option Addr) (c : Nat) (l : List Int) (id : Int) (w : World) (hs : Sees w w.heap.size A (l.map (Value.int .i64))) (hl : l.length ≤ 60) :
    Calls Try.prog 3 #[.slice A l.length c, .int .i64 id] w fun e w' => e = .returned (.bool true) ∧ Below w.heap.size w w' := by
  obtain ⟨i0, hi, hz0, hz1, hz2⟩ := info_parts Try.info3
  go_enter Try.func3, Try.ntmps3
  go_wp2_with fail
  go_loopw [6, 22] (fun v i wr => ∃ (k : Nat) (m : List Int) (t : Bool) (x : Int) (C : Nat) (D : Option Addr), k ≤ l.length ∧ i = .int .i64 k ∧ v = .slice D m.length C ∧ wr.ownsRow (w.heap.size + 1) 3 1 v m.length (m.map (Value.int .i64)) ∧
      Blk wr w.heap.size 25 #[.bool t, .int .i64 x] ∧ Below w.heap.size w wr ∧ Hid (Good m t x) ∧ m.length ≤ k) (fun _ i _ => l.length - (intOf i).toNat)
  case atStart => exact ⟨0, [], false, 0, 0, none, Nat.zero_le _, rfl, rfl, World.ownsRow_nil _ _ _ _, Blk.born _ _ _, (Below.refl _ _).alloc (Nat.le_refl _) _, .inl ⟨rfl, rfl, rfl⟩, Nat.le_refl _⟩
  case round =>
    obtain ⟨k, m, t, x, C, D, hk, rfl, rfl, hown, HB, hbel, HG, hmk⟩ := hrel
    by_cases hlt : k < l.length
    · obtain ⟨b, o, rfl, hbB, hc⟩ := (hs.below hbel) k _ (int_at hlt)
      have a0 : wr.cell? ⟨w.heap.size, 0, none⟩ = some (.bool t) := HB.cell 0
      have a1 : wr.cell? ⟨w.heap.size, 1, none⟩ = some (.int .i64 x) := HB.cell 1
      by_cases hT : tel t x l[k] = true
      · obtain ⟨q1, hq1⟩ : ∃ q, bey t x id = q := ⟨_, rfl⟩
        have HT := hide hT
        have HQ := hide hq1
        have HM := hide ((HG.out.may l[k]).trans hT)
        have HG' := hide (HG.out.more hT)
        clear hT hq1
        go_wp2_with fail
        refine (beyond_q _ _ _ _ q1 HQ.out).mono ?_
        rintro e w1 ⟨rfl, hb⟩
        have B1 := HB.kept hb
        have own1 := own_kept hown hb
        have hb1 := below_next hbel hb
        clear hb a0 a1 hc
        have a0 : w1.cell? ⟨w.heap.size, 0, none⟩ = some (.bool t) := B1.cell 0
        have a1 : w1.cell? ⟨w.heap.size, 1, none⟩ = some (.int .i64 x) := B1.cell 1
        go_wp2_with fail
        refine (tell_yes _ _ _ _ HT.out).mono ?_
        rintro e w2 ⟨rfl, hb⟩
        have B2 := B1.kept hb
        have own2 := own_kept own1 hb
        have hb2 := below_next hb1 hb
        clear hb a0 a1
        go_wp2_with fail
        refine (may_q D _ C m l[k] _ _ true rfl HM.out (Sees.of_own (own2.alloc _)) (by omega)).mono ?_
        rintro e w3 ⟨rfl, rfl⟩
        have hB2 := B2.lt
        have a0 : w2.cell? ⟨w.heap.size, 0, none⟩ = some (.bool t) := B2.cell 0
        have a1 : w2.cell? ⟨w.heap.size, 1, none⟩ = some (.int .i64 x) := B2.cell 1
        have f0 : w2.frozen? ⟨w.heap.size, 0, none⟩ = false := B2.free 0
        have f1 : w2.frozen? ⟨w.heap.size, 1, none⟩ = false := B2.free 1
        have own3 := ownsRow_setCell_below (ownsRow_setCell_below own2 (a := ⟨w.heap.size, 0, none⟩) (by simp) (.bool true)) (a := ⟨w.heap.size, 1, none⟩) (by simp) (.int .i64 l[k])
        have B3 : Blk _ _ _ _ := (B2.store 0 (.bool true)).store 1 (.int .i64 l[k])
        have hb3 := (hb2.setCell (p := ⟨w.heap.size, 0, none⟩) (Nat.le_refl _) (.bool true)).setCell (p := ⟨w.heap.size, 1, none⟩) (Nat.le_refl _) (.int .i64 l[k])
        go_wp2_with (at_builtin; go_loud (refine wpList_push rfl (.tmp 42) (.tmp 44) 22 rfl (w.heap.size + 1) 3 Try.info3 rfl Try.underlying22 D m.length C _ _ rfl (own3.alloc _) (w2.heap.size + 1) rfl (by simp) rfl (by unfold maxLen; omega) (by omega) (by simp; omega) ?_))
        intro g' C' w4 own4 hg4
        have hrow : ∀ g, (Value.slice D m.length C).ownBlock = some g → w.heap.size + 1 ≤ g := own_row_ge own2
        have B4 := ((B3.alloc _).alloc _).grown hg4 (fun e => by have := hrow _ e.symm; omega)
        have hb4 := ((hb3.alloc (by simp; omega) _).alloc (by simp; omega) _).grown hg4 (by simp; omega) (fun g e => by have := hrow _ e; omega)
        clear hg4 a0 a1 f0 f1 own3 own2 own1 hown B1 B2 B3 HB hb1 hb2 hb3 hbel
        have a0 : w4.cell? ⟨w.heap.size, 0, none⟩ = some (.bool true) := B4.cell 0
        have a1 : w4.cell? ⟨w.heap.size, 1, none⟩ = some (.int .i64 l[k]) := B4.cell 1
        go_wp2_with fail
        refine (last_any _ _ _).mono ?_
        rintro e w5 ⟨rfl, hb⟩
        have B5 := B4.kept hb
        have own5 := own_kept own4 hb
        have hb5 := below_next hb4 hb
        clear hb a0 a1 own4 B4
        have a0 : w5.cell? ⟨w.heap.size, 0, none⟩ = some (.bool true) := B5.cell 0
        have a1 : w5.cell? ⟨w.heap.size, 1, none⟩ = some (.int .i64 l[k]) := B5.cell 1
        have e0 : w5.cell? ⟨g', m.length, none⟩ = some (.int .i64 l[k]) := own_cell own5 (by simp)
        obtain ⟨q2, hq2⟩ : ∃ q, bey true l[k] id = q := ⟨_, rfl⟩
        have HQ2 := hide hq2
        have HM2 := hide ((HG'.out.bey id).trans hq2)
        clear hq2
        go_wp2_with fail
        refine (beyond_q _ _ _ _ q2 HQ2.out).mono ?_
        rintro e w6 ⟨rfl, hb⟩
        have B6 := B5.kept hb
        have own6 := own_kept own5 hb
        have hb6 := below_next hb5 hb
        clear hb a0 a1 e0 own5 B5
        have a0 : w6.cell? ⟨w.heap.size, 0, none⟩ = some (.bool true) := B6.cell 0
        have a1 : w6.cell? ⟨w.heap.size, 1, none⟩ = some (.int .i64 l[k]) := B6.cell 1
        go_wp2_with fail
        refine (beyB_q _ _ _ (m ++ [l[k]]) id _ _ q2 (by simp) HM2.out (Sees.of_own (by simpa using own6)) (by simp; omega)).mono ?_
        rintro e w7 ⟨rfl, rfl⟩
        cases q1
        · go_wp2_with fail
          go_roundw
          case rel => exact ⟨k + 1, m ++ [l[k]], true, l[k], C', some ⟨g', 0, none⟩, by omega, by go_num, by simp, by simpa using own6, B6, hb6, HG', by simp; omega⟩
          case measure => simp [intOf]; omega
        · obtain rfl : q2 = true := by
            have h1 := HQ.out
            have h2 := HT.out
            have h3 := HQ2.out
            simp only [bey, tel, Bool.and_eq_true, decide_eq_true_eq, Bool.not_eq_true', Bool.and_eq_false_iff, decide_eq_false_iff_not] at h1 h2
            rw [← h3]
            simp only [bey, Bool.true_and, decide_eq_true_eq]
            rcases h2.2.2 with h | h
            · rw [h1.1] at h; cases h
            · omega
          go_wp2_with fail
          refine (beyond_q _ _ _ _ true HQ2.out).mono ?_
          rintro e w7 ⟨rfl, hb⟩
          have B7 := B6.kept hb
          have own7 := own_kept own6 hb
          have hb7 := below_next hb6 hb
          clear hb a0 a1 own6 B6
          go_wp2_with fail
          go_roundw
          case rel => exact ⟨k + 1, m ++ [l[k]], true, l[k], C', some ⟨g', 0, none⟩, by omega, by go_num, by simp, by simpa using own7, B7, hb7, HG', by simp; omega⟩
          case measure => simp [intOf]; omega
      · have hF : tel t x l[k] = false := by simpa using hT
        clear hT
        have HT := hide hF
        have HM := hide ((HG.out.may l[k]).trans hF)
        clear hF
        rcases HG.out with ⟨rfl, rfl, rfl⟩ | ⟨rfl, ⟨m0, rfl⟩, hall⟩
        · go_wp2_with fail
          refine (beyond_q _ _ _ _ false rfl).mono ?_
          rintro e w1 ⟨rfl, hb⟩
          have B1 := HB.kept hb
          have hb1 := below_next hbel hb
          have own1 := own_kept hown hb
          clear hb a0 a1 hc
          have a0 : w1.cell? ⟨w.heap.size, 0, none⟩ = some (.bool false) := B1.cell 0
          have a1 : w1.cell? ⟨w.heap.size, 1, none⟩ = some (.int .i64 0) := B1.cell 1
          go_wp2_with fail
          refine (tell_no _ _ _ _ HT.out).mono ?_
          rintro e w2 ⟨rfl, hb⟩
          have B2 := B1.kept hb
          have hb2 := below_next hb1 hb
          have own2 := own_kept own1 hb
          clear hb a0 a1
          go_wp2_with fail
          refine (may_q D _ C [] l[k] _ 0 false rfl HM.out (Sees.nil _ _ _) (by simp)).mono ?_
          rintro e w3 ⟨rfl, rfl⟩
          have hB2 := B2.lt
          go_wp2_with fail
          refine (last_any _ _ _).mono ?_
          rintro e w4 ⟨rfl, hb⟩
          have B4 := (B2.alloc _).kept hb
          have hb4 := below_next1 hb2 hb
          have own4 := own_kept (own2.alloc _) hb
          clear hb
          have a0 : w4.cell? ⟨w.heap.size, 0, none⟩ = some (.bool false) := B4.cell 0
          have a1 : w4.cell? ⟨w.heap.size, 1, none⟩ = some (.int .i64 0) := B4.cell 1
          go_wp2_with fail
          refine (last_any _ _ _).mono ?_
          rintro e w5 ⟨rfl, hb⟩
          have B5 := B4.kept hb
          have hb5 := below_next hb4 hb
          have own5 := own_kept own4 hb
          clear hb a0 a1
          have a0 : w5.cell? ⟨w.heap.size, 0, none⟩ = some (.bool false) := B5.cell 0
          have a1 : w5.cell? ⟨w.heap.size, 1, none⟩ = some (.int .i64 0) := B5.cell 1
          go_wp2_with fail
          refine (beyond_q _ _ _ _ false rfl).mono ?_
          rintro e w6 ⟨rfl, hb⟩
          have B6 := B5.kept hb
          have hb6 := below_next hb5 hb
          have own6 := own_kept own5 hb
          clear hb a0 a1
          go_wp2_with fail
          refine (beyB_q _ _ _ [] id _ 0 false rfl rfl (Sees.nil _ _ _) (by simp)).mono ?_
          rintro e w7 ⟨rfl, rfl⟩
          go_wp2_with fail
          go_roundw
          case rel => exact ⟨k + 1, [], false, 0, C, D, by omega, by go_num, rfl, own6, B6, hb6, HG, by simp⟩
          case measure => simp [intOf]; omega
        · obtain ⟨g', C', hv⟩ := own_some hown (by simp)
          injection hv with h1 h2 h3
          subst h1
          subst h3
          clear h2
          obtain ⟨q1, hq1⟩ : ∃ q, bey true x id = q := ⟨_, rfl⟩
          have HQ := hide hq1
          have HQ2 := hide ((HG.out.bey id).trans hq1)
          clear hq1 hall
          have hmk' : m0.length + 1 ≤ k := by simpa using hmk
          go_wp2_with fail
          refine (beyond_q _ _ _ _ q1 HQ.out).mono ?_
          rintro e w1 ⟨rfl, hb⟩
          have B1 := HB.kept hb
          have hb1 := below_next hbel hb
          have own1 := own_kept hown hb
          clear hb a0 a1 hc
          have a0 : w1.cell? ⟨w.heap.size, 0, none⟩ = some (.bool true) := B1.cell 0
          have a1 : w1.cell? ⟨w.heap.size, 1, none⟩ = some (.int .i64 x) := B1.cell 1
          go_wp2_with fail
          refine (tell_no _ _ _ _ HT.out).mono ?_
          rintro e w2 ⟨rfl, hb⟩
          have B2 := B1.kept hb
          have hb2 := below_next hb1 hb
          have own2 := own_kept own1 hb
          clear hb a0 a1
          go_wp2_with fail
          refine (may_q _ _ _ (m0 ++ [x]) l[k] _ _ false (by simp) HM.out (Sees.of_own (own2.alloc _)) (by omega)).mono ?_
          rintro e w3 ⟨rfl, rfl⟩
          have hB2 := B2.lt
          go_wp2_with fail
          refine (last_any _ _ _).mono ?_
          rintro e w4 ⟨rfl, hb⟩
          have B4 := (B2.alloc _).kept hb
          have hb4 := below_next1 hb2 hb
          have own4 := own_kept (own2.alloc _) hb
          clear hb
          have a0 : w4.cell? ⟨w.heap.size, 0, none⟩ = some (.bool true) := B4.cell 0
          have a1 : w4.cell? ⟨w.heap.size, 1, none⟩ = some (.int .i64 x) := B4.cell 1
          go_wp2_with fail
          refine (last_any _ _ _).mono ?_
          rintro e w5 ⟨rfl, hb⟩
          have B5 := B4.kept hb
          have hb5 := below_next hb4 hb
          have own5 := own_kept own4 hb
          clear hb a0 a1
          have a0 : w5.cell? ⟨w.heap.size, 0, none⟩ = some (.bool true) := B5.cell 0
          have a1 : w5.cell? ⟨w.heap.size, 1, none⟩ = some (.int .i64 x) := B5.cell 1
          have e0 : w5.cell? ⟨g', m0.length, none⟩ = some (.int .i64 x) := own_cell own5 (by simp)
          go_wp2_with fail
          refine (beyond_q _ _ _ _ q1 HQ.out).mono ?_
          rintro e w6 ⟨rfl, hb⟩
          have B6 := B5.kept hb
          have hb6 := below_next hb5 hb
          have own6 := own_kept own5 hb
          clear hb a0 a1 e0
          have a0 : w6.cell? ⟨w.heap.size, 0, none⟩ = some (.bool true) := B6.cell 0
          have a1 : w6.cell? ⟨w.heap.size, 1, none⟩ = some (.int .i64 x) := B6.cell 1
          go_wp2_with fail
          refine (beyB_q _ _ _ (m0 ++ [x]) id _ _ q1 (by simp) HQ2.out (Sees.of_own own6) (by omega)).mono ?_
          rintro e w7 ⟨rfl, rfl⟩
          cases q1
          · go_wp2_with fail
            go_roundw
            case rel => exact ⟨k + 1, m0 ++ [x], true, x, C, some ⟨g', 0, none⟩, by omega, by go_num, by simp, by simpa using own6, B6, hb6, HG, by omega⟩
            case measure => simp [intOf]; omega
          · go_wp2_with fail
            refine (beyond_q _ _ _ _ true HQ.out).mono ?_
            rintro e w7 ⟨rfl, hb⟩
            have B7 := B6.kept hb
            have hb7 := below_next hb6 hb
            have own7 := own_kept own6 hb
            clear hb a0 a1
            go_wp2_with fail
            go_roundw
            case rel => exact ⟨k + 1, m0 ++ [x], true, x, C, some ⟨g', 0, none⟩, by omega, by go_num, by simp, by simpa using own7, B7, hb7, HG, by omega⟩
            case measure => simp [intOf]; omega
    · go_wp2_with fail
      refine (alive_any _).mono ?_
      rintro e w1 ⟨rfl, hb⟩
      go_wp2_with fail
      go_ret
      exact ⟨rfl, below_next hbel hb⟩

theorem tells_long (A : Option Addr) (n c : Nat) (id : Int) (w : World) (hl : 60 < n) (hn : n ≤ maxLen) :
    Calls Try.prog 3 #[.slice A n c, .int .i64 id] w fun e w' => e = .returned (.bool true) ∧ Below w.heap.size w w' := by
  unfold maxLen at hn
  go_enter Try.func3, Try.ntmps3
  go_wp2_with fail
  refine (alive_any _).mono ?_
  rintro e w1 ⟨rfl, hb⟩
  go_wp2_with fail
  go_ret
  exact ⟨rfl, hb⟩
end Go.Proofs.Ytndddngpinoagaa
