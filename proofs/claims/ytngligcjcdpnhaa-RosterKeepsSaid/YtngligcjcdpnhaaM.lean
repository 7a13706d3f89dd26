/- Contracts: who may begin a stream; whether a stream may be there. -/
import Derived.Test.YtngligcjcdpnhaaD
import Derived.Test.YtngligcjcdpnhaaK
namespace Go.Proofs.Ytngligcjcdpnhaa
open Go.RowKit Go.Maps
set_option linter.unusedSimpArgs false
set_option linter.unusedVariables false

theorem mod_two (id : Int) : id % 2 = 0 ∨ id % 2 = 1 := by omega

theorem owner_any (id : Int) (w : World) : Calls Try.prog 14 #[.int .i64 id] w fun e w' => e = .returned (.tuple #[.int .i64 (ownO id), .bool (ownK id)]) ∧ w = w' := by
  by_cases h1 : id < 1
  · have hk : ownK id = false := by unfold ownK; simp; omega
    have ho : ownO id = 0 := by unfold ownO; rw [hk]; rfl
    rw [hk, ho]
    clear hk ho
    go_enter Try.func14, Try.ntmps14
    go_wp2_with fail
    go_ret2
    exact ⟨rfl, rfl⟩
  · by_cases h2 : id > 2147483647
    · have hk : ownK id = false := by unfold ownK; simp; omega
      have ho : ownO id = 0 := by unfold ownO; rw [hk]; rfl
      rw [hk, ho]
      clear hk ho
      go_enter Try.func14, Try.ntmps14
      go_wp2_with fail
      go_ret2
      exact ⟨rfl, rfl⟩
    · have hk : ownK id = true := by unfold ownK; simp; omega
      have ho : ownO id = 1 - id % 2 := by unfold ownO; rw [hk]; rfl
      rw [hk, ho]
      have hm : id.tmod 2 = id % 2 := Int.tmod_eq_emod_of_nonneg (by omega)
      clear hk ho
      rcases mod_two id with h3 | h3
      · rw [h3] at hm ⊢
        clear h3
        go_enter Try.func14, Try.ntmps14
        go_wp2_with fail
        go_ret2
        exact ⟨rfl, rfl⟩
      · rw [h3] at hm ⊢
        clear h3
        go_enter Try.func14, Try.ntmps14
        go_wp2_with fail
        go_ret2
        exact ⟨rfl, rfl⟩
theorem owner_q (id oo : Int) (kk : Bool) (w : World) (ho : ownO id = oo) (hk : ownK id = kk) : Calls Try.prog 14 #[.int .i64 id] w fun e w' => e = .returned (.tuple #[.int .i64 oo, .bool kk]) ∧ w = w' := by
  rw [← ho, ← hk]; exact owner_any id w

theorem rowner_any (id : Int) (w : World) : Calls Try.prog 15 #[.int .i64 id] w fun e w' => e = .returned (.tuple #[.int .i64 (ownO id), .bool (ownK id)]) ∧ w = w' := by
  by_cases h1 : id < 1
  · have hk : ownK id = false := by unfold ownK; simp; omega
    have ho : ownO id = 0 := by unfold ownO; rw [hk]; rfl
    rw [hk, ho]
    clear hk ho
    go_enter Try.func15, Try.ntmps15
    go_wp2_with fail
    go_ret2
    exact ⟨rfl, rfl⟩
  · by_cases h2 : id > 2147483647
    · have hk : ownK id = false := by unfold ownK; simp; omega
      have ho : ownO id = 0 := by unfold ownO; rw [hk]; rfl
      rw [hk, ho]
      clear hk ho
      go_enter Try.func15, Try.ntmps15
      go_wp2_with fail
      go_ret2
      exact ⟨rfl, rfl⟩
    · have hk : ownK id = true := by unfold ownK; simp; omega
      have ho : ownO id = 1 - id % 2 := by unfold ownO; rw [hk]; rfl
      rw [hk, ho]
      have hm : id.tmod 2 = id % 2 := Int.tmod_eq_emod_of_nonneg (by omega)
      clear hk ho
      rcases mod_two id with h3 | h3
      · rw [h3] at hm ⊢
        clear h3
        go_enter Try.func15, Try.ntmps15
        go_wp2_with fail
        go_ret2
        exact ⟨rfl, rfl⟩
      · rw [h3] at hm ⊢
        clear h3
        go_enter Try.func15, Try.ntmps15
        go_wp2_with fail
        go_ret2
        exact ⟨rfl, rfl⟩
theorem rowner_q (id oo : Int) (kk : Bool) (w : World) (ho : ownO id = oo) (hk : ownK id = kk) : Calls Try.prog 15 #[.int .i64 id] w fun e w' => e = .returned (.tuple #[.int .i64 oo, .bool kk]) ∧ w = w' := by
  rw [← ho, ← hk]; exact rowner_any id w

set_option maxHeartbeats 2000000 in
theorem may_any (m : Sm) (w : World) (q : Bool) (h : mayS m = q) : Calls Try.prog 25 #[.agg #[.int .i64 m.id, .int .i64 m.k, .int .i64 m.o, .bool m.a, .bool m.b, .int .i64 m.y, .complex .f64 m.cx m.cy, .bool false, .string ByteArray.empty, .int .i64 0, .int .i64 0, .int .i64 0, .bool false, .string ByteArray.empty, .int .i64 0, .int .i64 0, .int .i64 0]] w fun e w' => e = .returned (.bool q) ∧ Below w.heap.size w w' := by
  obtain ⟨oo, ho⟩ : ∃ oo, ownO m.id = oo := ⟨_, rfl⟩
  obtain ⟨kk, hk⟩ : ∃ kk, ownK m.id = kk := ⟨_, rfl⟩
  obtain ⟨rr, hr⟩ : ∃ rr, rightS m.k m.o m.a m.b m.y = rr := ⟨_, rfl⟩
  have HR := fun w => hide (right_any m.k m.o m.a m.b m.y w rr hr)
  have HO := fun w => hide (owner_q m.id oo kk w ho hk)
  unfold mayS at h
  rw [hk, hr, ho] at h
  clear ho hk hr
  subst h
  obtain ⟨v, hv⟩ : ∃ v, w.heap.size = v := ⟨_, rfl⟩
  obtain ⟨W1, hW1⟩ : ∃ W1, w.alloc (.cells #[.int .i64 m.id, .int .i64 m.k, .int .i64 m.o, .bool m.a, .bool m.b, .int .i64 m.y, .complex .f64 m.cx m.cy, .bool false, .string ByteArray.empty, .int .i64 0, .int .i64 0, .int .i64 0, .bool false, .string ByteArray.empty, .int .i64 0, .int .i64 0, .int .i64 0] 41) = W1 := ⟨_, rfl⟩
  have HB : Hid (Below w.heap.size w W1) := hide (by rw [← hW1]; exact (Below.refl _ _).alloc (Nat.le_refl _) _)
  have HC : Hid (Blk W1 v 41 #[.int .i64 m.id, .int .i64 m.k, .int .i64 m.o, .bool m.a, .bool m.b, .int .i64 m.y, .complex .f64 m.cx m.cy, .bool false, .string ByteArray.empty, .int .i64 0, .int .i64 0, .int .i64 0, .bool false, .string ByteArray.empty, .int .i64 0, .int .i64 0, .int .i64 0]) := hide (by rw [← hW1, ← hv]; exact Blk.born w 41 _)
  have x0 : W1.cell? ⟨v, 0, none⟩ = some (.int .i64 m.id) := HC.out.cell 0
  have x1 : W1.cell? ⟨v, 1, none⟩ = some (.int .i64 m.k) := HC.out.cell 1
  have x2 : W1.cell? ⟨v, 2, none⟩ = some (.int .i64 m.o) := HC.out.cell 2
  have x3 : W1.cell? ⟨v, 3, none⟩ = some (.bool m.a) := HC.out.cell 3
  have x4 : W1.cell? ⟨v, 4, none⟩ = some (.bool m.b) := HC.out.cell 4
  have x5 : W1.cell? ⟨v, 5, none⟩ = some (.int .i64 m.y) := HC.out.cell 5
  cases kk
  · go_enter Try.func25, Try.ntmps25
    go_wp2_with fail
    refine (HO _).out.mono ?_
    rintro e w1 ⟨rfl, rfl⟩
    go_wp2_with fail
    go_ret
    exact ⟨rfl, HB.out⟩
  · cases rr
    · go_enter Try.func25, Try.ntmps25
      go_wp2_with fail
      refine (HO _).out.mono ?_
      rintro e w1 ⟨rfl, rfl⟩
      go_wp2_with fail
      refine (HR _).out.mono ?_
      rintro e w2 ⟨rfl, hb⟩
      have HB2 := hide (below_nextB HB.out HB.out.size hb)
      clear hb
      go_wp2_with fail
      go_ret
      exact ⟨rfl, HB2.out⟩
    · by_cases h1 : 2 ≤ m.k
      · by_cases h2 : m.o = oo
        · rw [decide_eq_true h1, decide_eq_true h2]
          have hq : (m.o == oo) = true := by rw [beq_iff_eq]; exact h2
          clear h2
          go_enter Try.func25, Try.ntmps25
          go_wp2_with fail
          refine (HO _).out.mono ?_
          rintro e w1 ⟨rfl, rfl⟩
          go_wp2_with fail
          refine (HR _).out.mono ?_
          rintro e w2 ⟨rfl, hb⟩
          have HB2 := hide (below_nextB HB.out HB.out.size hb)
          have HC2 := hide (Blk.kept HC.out hb)
          clear hb x0 x1 x2 x3 x4 x5
          have y1 : w2.cell? ⟨v, 1, none⟩ = some (.int .i64 m.k) := HC2.out.cell 1
          have y2 : w2.cell? ⟨v, 2, none⟩ = some (.int .i64 m.o) := HC2.out.cell 2
          go_wp2_with fail
          go_ret
          exact ⟨rfl, (by first | exact HB2.out | (have h := HB2.out; rw [hv] at h; exact h))⟩
        · rw [decide_eq_true h1, decide_eq_false h2]
          have hq : (m.o == oo) = false := by rw [beq_eq_false_iff_ne]; exact h2
          clear h2
          go_enter Try.func25, Try.ntmps25
          go_wp2_with fail
          refine (HO _).out.mono ?_
          rintro e w1 ⟨rfl, rfl⟩
          go_wp2_with fail
          refine (HR _).out.mono ?_
          rintro e w2 ⟨rfl, hb⟩
          have HB2 := hide (below_nextB HB.out HB.out.size hb)
          have HC2 := hide (Blk.kept HC.out hb)
          clear hb x0 x1 x2 x3 x4 x5
          have y1 : w2.cell? ⟨v, 1, none⟩ = some (.int .i64 m.k) := HC2.out.cell 1
          have y2 : w2.cell? ⟨v, 2, none⟩ = some (.int .i64 m.o) := HC2.out.cell 2
          go_wp2_with fail
          go_ret
          exact ⟨rfl, (by first | exact HB2.out | (have h := HB2.out; rw [hv] at h; exact h))⟩
      · rw [decide_eq_false h1]
        go_enter Try.func25, Try.ntmps25
        go_wp2_with fail
        refine (HO _).out.mono ?_
        rintro e w1 ⟨rfl, rfl⟩
        go_wp2_with fail
        refine (HR _).out.mono ?_
        rintro e w2 ⟨rfl, hb⟩
        have HB2 := hide (below_nextB HB.out HB.out.size hb)
        have HC2 := hide (Blk.kept HC.out hb)
        clear hb x0 x1 x2 x3 x4 x5
        have y1 : w2.cell? ⟨v, 1, none⟩ = some (.int .i64 m.k) := HC2.out.cell 1
        have y2 : w2.cell? ⟨v, 2, none⟩ = some (.int .i64 m.o) := HC2.out.cell 2
        go_wp2_with fail
        go_ret
        exact ⟨rfl, (by first | exact HB2.out | (have h := HB2.out; rw [hv] at h; exact h))⟩

set_option maxHeartbeats 2000000 in
theorem rmay_any (m : Sm) (w : World) (q : Bool) (h : mayS m = q) : Calls Try.prog 26 #[.agg #[.int .i64 m.id, .int .i64 m.k, .int .i64 m.o, .bool m.a, .bool m.b, .int .i64 m.y]] w fun e w' => e = .returned (.bool q) ∧ Below w.heap.size w w' := by
  obtain ⟨oo, ho⟩ : ∃ oo, ownO m.id = oo := ⟨_, rfl⟩
  obtain ⟨kk, hk⟩ : ∃ kk, ownK m.id = kk := ⟨_, rfl⟩
  obtain ⟨rr, hr⟩ : ∃ rr, rightS m.k m.o m.a m.b m.y = rr := ⟨_, rfl⟩
  have HR := fun w => hide (rright_q m.k m.o m.a m.b m.y w rr hr)
  have HO := fun w => hide (rowner_q m.id oo kk w ho hk)
  unfold mayS at h
  rw [hk, hr, ho] at h
  clear ho hk hr
  subst h
  obtain ⟨v, hv⟩ : ∃ v, w.heap.size = v := ⟨_, rfl⟩
  obtain ⟨W1, hW1⟩ : ∃ W1, w.alloc (.cells #[.int .i64 m.id, .int .i64 m.k, .int .i64 m.o, .bool m.a, .bool m.b, .int .i64 m.y] 46) = W1 := ⟨_, rfl⟩
  have HB : Hid (Below w.heap.size w W1) := hide (by rw [← hW1]; exact (Below.refl _ _).alloc (Nat.le_refl _) _)
  have HC : Hid (Blk W1 v 46 #[.int .i64 m.id, .int .i64 m.k, .int .i64 m.o, .bool m.a, .bool m.b, .int .i64 m.y]) := hide (by rw [← hW1, ← hv]; exact Blk.born w 46 _)
  have x0 : W1.cell? ⟨v, 0, none⟩ = some (.int .i64 m.id) := HC.out.cell 0
  have x1 : W1.cell? ⟨v, 1, none⟩ = some (.int .i64 m.k) := HC.out.cell 1
  have x2 : W1.cell? ⟨v, 2, none⟩ = some (.int .i64 m.o) := HC.out.cell 2
  have x3 : W1.cell? ⟨v, 3, none⟩ = some (.bool m.a) := HC.out.cell 3
  have x4 : W1.cell? ⟨v, 4, none⟩ = some (.bool m.b) := HC.out.cell 4
  have x5 : W1.cell? ⟨v, 5, none⟩ = some (.int .i64 m.y) := HC.out.cell 5
  cases kk
  · go_enter Try.func26, Try.ntmps26
    go_wp2_with fail
    refine (HO _).out.mono ?_
    rintro e w1 ⟨rfl, rfl⟩
    go_wp2_with fail
    go_ret
    exact ⟨rfl, HB.out⟩
  · cases rr
    · go_enter Try.func26, Try.ntmps26
      go_wp2_with fail
      refine (HO _).out.mono ?_
      rintro e w1 ⟨rfl, rfl⟩
      go_wp2_with fail
      refine (HR _).out.mono ?_
      rintro e w2 ⟨rfl, hb⟩
      have HB2 := hide (below_nextB HB.out HB.out.size hb)
      clear hb
      go_wp2_with fail
      go_ret
      exact ⟨rfl, HB2.out⟩
    · by_cases h1 : 2 ≤ m.k
      · by_cases h2 : m.o = oo
        · rw [decide_eq_true h1, decide_eq_true h2]
          have hq : (m.o == oo) = true := by rw [beq_iff_eq]; exact h2
          clear h2
          go_enter Try.func26, Try.ntmps26
          go_wp2_with fail
          refine (HO _).out.mono ?_
          rintro e w1 ⟨rfl, rfl⟩
          go_wp2_with fail
          refine (HR _).out.mono ?_
          rintro e w2 ⟨rfl, hb⟩
          have HB2 := hide (below_nextB HB.out HB.out.size hb)
          have HC2 := hide (Blk.kept HC.out hb)
          clear hb x0 x1 x2 x3 x4 x5
          have y1 : w2.cell? ⟨v, 1, none⟩ = some (.int .i64 m.k) := HC2.out.cell 1
          have y2 : w2.cell? ⟨v, 2, none⟩ = some (.int .i64 m.o) := HC2.out.cell 2
          go_wp2_with fail
          go_ret
          exact ⟨rfl, (by first | exact HB2.out | (have h := HB2.out; rw [hv] at h; exact h))⟩
        · rw [decide_eq_true h1, decide_eq_false h2]
          have hq : (m.o == oo) = false := by rw [beq_eq_false_iff_ne]; exact h2
          clear h2
          go_enter Try.func26, Try.ntmps26
          go_wp2_with fail
          refine (HO _).out.mono ?_
          rintro e w1 ⟨rfl, rfl⟩
          go_wp2_with fail
          refine (HR _).out.mono ?_
          rintro e w2 ⟨rfl, hb⟩
          have HB2 := hide (below_nextB HB.out HB.out.size hb)
          have HC2 := hide (Blk.kept HC.out hb)
          clear hb x0 x1 x2 x3 x4 x5
          have y1 : w2.cell? ⟨v, 1, none⟩ = some (.int .i64 m.k) := HC2.out.cell 1
          have y2 : w2.cell? ⟨v, 2, none⟩ = some (.int .i64 m.o) := HC2.out.cell 2
          go_wp2_with fail
          go_ret
          exact ⟨rfl, (by first | exact HB2.out | (have h := HB2.out; rw [hv] at h; exact h))⟩
      · rw [decide_eq_false h1]
        go_enter Try.func26, Try.ntmps26
        go_wp2_with fail
        refine (HO _).out.mono ?_
        rintro e w1 ⟨rfl, rfl⟩
        go_wp2_with fail
        refine (HR _).out.mono ?_
        rintro e w2 ⟨rfl, hb⟩
        have HB2 := hide (below_nextB HB.out HB.out.size hb)
        have HC2 := hide (Blk.kept HC.out hb)
        clear hb x0 x1 x2 x3 x4 x5
        have y1 : w2.cell? ⟨v, 1, none⟩ = some (.int .i64 m.k) := HC2.out.cell 1
        have y2 : w2.cell? ⟨v, 2, none⟩ = some (.int .i64 m.o) := HC2.out.cell 2
        go_wp2_with fail
        go_ret
        exact ⟨rfl, (by first | exact HB2.out | (have h := HB2.out; rw [hv] at h; exact h))⟩

end Go.Proofs.Ytngligcjcdpnhaa
