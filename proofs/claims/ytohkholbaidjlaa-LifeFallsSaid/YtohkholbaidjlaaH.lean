/- The walks of LifeAsks and LifeKnows. -/
import Derived.Test.YtohkholbaidjlaaG
namespace Go.Proofs.Ytohkholbaidjlaa
open Go.RowKit

theorem ask_q (k o y side t : Int) (a b kept : Bool) (w : World) (p q : Int) (h : askS k o a b y side t kept = (p, q)) : Calls Try.prog 7 #[.agg #[.int .i64 k, .int .i64 o, .bool a, .bool b, .int .i64 y], .int .i64 side, .int .i64 t, .bool kept] w fun e w' =>
    e = .returned (.tuple #[.int .i64 p, .int .i64 q]) ∧ Below w.heap.size w w' := by
  by_cases hh : rightS k o a b y = false ∨ sid side = false
  · rw [askS, if_pos hh] at h
    injection h with h1 h2
    rw [← h1, ← h2]
    exact ask_wrong k o y side t a b kept w hh
  · have hr : rightS k o a b y = true := by
      cases hx : rightS k o a b y
      · exact absurd (Or.inl hx) hh
      · rfl
    have hs : sid side = true := by
      cases hx : sid side
      · exact absurd (Or.inr hx) hh
      · rfl
    have := ask_right k o y side t a b kept w hr hs
    rw [h] at this
    exact this
theorem rask_q (k o y side t : Int) (a b kept : Bool) (w : World) (p q : Int) (h : askS k o a b y side t kept = (p, q)) : Calls Try.prog 9 #[.agg #[.int .i64 k, .int .i64 o, .bool a, .bool b, .int .i64 y], .int .i64 side, .int .i64 t, .bool kept] w fun e w' =>
    e = .returned (.tuple #[.int .i64 p, .int .i64 q]) ∧ Below w.heap.size w w' := by
  by_cases hh : rightS k o a b y = false ∨ sid side = false
  · rw [askS, if_pos hh] at h
    injection h with h1 h2
    rw [← h1, ← h2]
    exact rask_wrong k o y side t a b kept w hh
  · have hr : rightS k o a b y = true := by
      cases hx : rightS k o a b y
      · exact absurd (Or.inl hx) hh
      · rfl
    have hs : sid side = true := by
      cases hx : sid side
      · exact absurd (Or.inr hx) hh
      · rfl
    have := rask_right k o y side t a b kept w hr hs
    rw [h] at this
    exact this

set_option maxRecDepth 100000 in
set_option maxHeartbeats 2000000 in
theorem asks_any (k o y side t : Int) (a b : Bool) (w : World) :
    Calls Try.prog 3 #[.agg #[.int .i64 k, .int .i64 o, .bool a, .bool b, .int .i64 y], .int .i64 side, .int .i64 t] w fun e w' => e = .returned (.bool true) ∧ Below w.heap.size w w' := by
  obtain ⟨⟨p1, q1⟩, h1⟩ : ∃ x, askS k o a b y side t true = x := ⟨_, rfl⟩
  obtain ⟨⟨p2, q2⟩, h2⟩ : ∃ x, askS k o a b y side t false = x := ⟨_, rfl⟩
  obtain ⟨r, hr⟩ : ∃ x, rightS k o a b y = x := ⟨_, rfl⟩
  have H1 := hide h1
  have H2 := hide h2
  have HR := hide hr
  clear h1 h2 hr
  go_enter Try.func3, Try.ntmps3
  go_wp2_with fail
  have B0 := Blk.born w 24 #[.int .i64 k, .int .i64 o, .bool a, .bool b, .int .i64 y]
  go_wp2_with fail
  refine (own_any k o a b y _).mono ?_
  rintro e w1 ⟨rfl, hb⟩
  have hb1 := below_base1 hb
  have B1 : Blk w1 w.heap.size 24 #[.int .i64 k, .int .i64 o, .bool a, .bool b, .int .i64 y] := (Blk.born _ _ _).kept hb
  clear hb
  have c0 : w1.cell? ⟨w.heap.size, 0, none⟩ = some (.int .i64 k) := B1.cell 0
  have c1 : w1.cell? ⟨w.heap.size, 1, none⟩ = some (.int .i64 o) := B1.cell 1
  have c2 : w1.cell? ⟨w.heap.size, 2, none⟩ = some (.bool a) := B1.cell 2
  have c3 : w1.cell? ⟨w.heap.size, 3, none⟩ = some (.bool b) := B1.cell 3
  have c4 : w1.cell? ⟨w.heap.size, 4, none⟩ = some (.int .i64 y) := B1.cell 4
  go_wp2_with fail
  refine (ask_q k o y side t a b true _ p1 q1 H1.out).mono ?_
  rintro e w2 ⟨rfl, hb⟩
  have hb2 := below_next hb1 hb
  have B2 := B1.kept hb
  clear hb c0 c1 c2 c3 c4
  have c0 : w2.cell? ⟨w.heap.size, 0, none⟩ = some (.int .i64 k) := B2.cell 0
  have c1 : w2.cell? ⟨w.heap.size, 1, none⟩ = some (.int .i64 o) := B2.cell 1
  have c2 : w2.cell? ⟨w.heap.size, 2, none⟩ = some (.bool a) := B2.cell 2
  have c3 : w2.cell? ⟨w.heap.size, 3, none⟩ = some (.bool b) := B2.cell 3
  have c4 : w2.cell? ⟨w.heap.size, 4, none⟩ = some (.int .i64 y) := B2.cell 4
  go_wp2_with fail
  refine (rask_q k o y side t a b true _ p1 q1 H1.out).mono ?_
  rintro e w3 ⟨rfl, hb⟩
  have hb3 := below_next hb2 hb
  have B3 := B2.kept hb
  clear hb c0 c1 c2 c3 c4
  have c0 : w3.cell? ⟨w.heap.size, 0, none⟩ = some (.int .i64 k) := B3.cell 0
  have c1 : w3.cell? ⟨w.heap.size, 1, none⟩ = some (.int .i64 o) := B3.cell 1
  have c2 : w3.cell? ⟨w.heap.size, 2, none⟩ = some (.bool a) := B3.cell 2
  have c3 : w3.cell? ⟨w.heap.size, 3, none⟩ = some (.bool b) := B3.cell 3
  have c4 : w3.cell? ⟨w.heap.size, 4, none⟩ = some (.int .i64 y) := B3.cell 4
  go_wp2_with fail
  refine (own_any k o a b y _).mono ?_
  rintro e w4 ⟨rfl, hb⟩
  have hb4 := below_next hb3 hb
  have B4 := B3.kept hb
  clear hb c0 c1 c2 c3 c4
  have c0 : w4.cell? ⟨w.heap.size, 0, none⟩ = some (.int .i64 k) := B4.cell 0
  have c1 : w4.cell? ⟨w.heap.size, 1, none⟩ = some (.int .i64 o) := B4.cell 1
  have c2 : w4.cell? ⟨w.heap.size, 2, none⟩ = some (.bool a) := B4.cell 2
  have c3 : w4.cell? ⟨w.heap.size, 3, none⟩ = some (.bool b) := B4.cell 3
  have c4 : w4.cell? ⟨w.heap.size, 4, none⟩ = some (.int .i64 y) := B4.cell 4
  go_wp2_with fail
  refine (ask_q k o y side t a b false _ p2 q2 H2.out).mono ?_
  rintro e w5 ⟨rfl, hb⟩
  have hb5 := below_next hb4 hb
  have B5 := B4.kept hb
  clear hb c0 c1 c2 c3 c4
  have c0 : w5.cell? ⟨w.heap.size, 0, none⟩ = some (.int .i64 k) := B5.cell 0
  have c1 : w5.cell? ⟨w.heap.size, 1, none⟩ = some (.int .i64 o) := B5.cell 1
  have c2 : w5.cell? ⟨w.heap.size, 2, none⟩ = some (.bool a) := B5.cell 2
  have c3 : w5.cell? ⟨w.heap.size, 3, none⟩ = some (.bool b) := B5.cell 3
  have c4 : w5.cell? ⟨w.heap.size, 4, none⟩ = some (.int .i64 y) := B5.cell 4
  go_wp2_with fail
  refine (rask_q k o y side t a b false _ p2 q2 H2.out).mono ?_
  rintro e w6 ⟨rfl, hb⟩
  have hb6 := below_next hb5 hb
  have B6 := B5.kept hb
  clear hb c0 c1 c2 c3 c4
  have c0 : w6.cell? ⟨w.heap.size, 0, none⟩ = some (.int .i64 k) := B6.cell 0
  have c1 : w6.cell? ⟨w.heap.size, 1, none⟩ = some (.int .i64 o) := B6.cell 1
  have c2 : w6.cell? ⟨w.heap.size, 2, none⟩ = some (.bool a) := B6.cell 2
  have c3 : w6.cell? ⟨w.heap.size, 3, none⟩ = some (.bool b) := B6.cell 3
  have c4 : w6.cell? ⟨w.heap.size, 4, none⟩ = some (.int .i64 y) := B6.cell 4
  go_wp2_with fail
  have HC : Hid (∀ wq, Below w6.heap.size w6 wq → wq.cell? ⟨w.heap.size, 0, none⟩ = some (.int .i64 k) ∧ wq.cell? ⟨w.heap.size, 1, none⟩ = some (.int .i64 o) ∧ wq.cell? ⟨w.heap.size, 2, none⟩ = some (.bool a) ∧ wq.cell? ⟨w.heap.size, 3, none⟩ = some (.bool b) ∧ wq.cell? ⟨w.heap.size, 4, none⟩ = some (.int .i64 y)) :=
    hide fun wq hq => ⟨(B6.kept hq).cell 0, (B6.kept hq).cell 1, (B6.kept hq).cell 2, (B6.kept hq).cell 3, (B6.kept hq).cell 4⟩
  clear c0 c1 c2 c3 c4
  have er : (r == r) = true := by simp
  have e1 : (p1 == p1) = true := by simp
  have e2 : (p2 == p2) = true := by simp
  have e3 : (q1 == q1) = true := by simp
  have e4 : (q2 == q2) = true := by simp
  refine wp_region_below (by kernel_rfl) (by kernel_rfl) ?_
  iterate 30
    first
      | (refine skipB (by rfl) ?_
         simp only [Act.put, List.setIfInBounds_toArray, List.set_cons_zero, List.set_cons_succ])
      | (refine stepB (by rfl) ?_
         apply Exists.intro
         refine ⟨fun wq hq => ?_, ?_⟩
         · obtain ⟨c0, c1, c2, c3, c4⟩ := HC.out wq hq
           go_simp
           first
             | done
             | rfl
             | (go_at_call 8; ((with_reducible refine (own_any k o a b y _).mono ?_); exact fun e w'' ⟨he, hb⟩ => ⟨he, by have := below_next hq hb; simpa using this⟩))
             | (go_at_call 10; ((with_reducible refine (right_any k o a b y _ r HR.out).mono ?_); exact fun e w'' ⟨he, hb⟩ => ⟨he, by have := below_next hq hb; simpa using this⟩))
             | (go_at_call 11; ((with_reducible refine (rright_q k o a b y _ r HR.out).mono ?_); exact fun e w'' ⟨he, hb⟩ => ⟨he, by have := below_next hq hb; simpa using this⟩))
             | (go_at_call 12; ((with_reducible refine (alive_any _).mono ?_); exact fun e w'' ⟨he, hb⟩ => ⟨he, by have := below_next hq hb; simpa using this⟩))
         simp only [Act.put, List.setIfInBounds_toArray, List.set_cons_zero, List.set_cons_succ])
  refine wpQuiet_nil ?_
  intro wz hz
  go_wp2_with fail
  go_ret
  exact ⟨rfl, below_next hb6 hz⟩

theorem knows_1 {k o y side t : Int} {a b : Bool} (h : k ≠ 4) : askS k o a b y side t true = askS k o a b y side t false := by
  unfold askS
  by_cases hr : rightS k o a b y = false ∨ sid side = false
  · rw [if_pos hr, if_pos hr]
  · have hk := right_k (k := k) (o := o) (a := a) (b := b) (y := y) (by
      cases hx : rightS k o a b y
      · exact absurd (Or.inl hx) hr
      · rfl)
    have hk' : k = 0 ∨ k = 1 ∨ k = 2 ∨ k = 3 := by omega
    have hp : promS k o b y side true = promS k o b y side false := by simp [promS, h]
    rw [hp]
    rcases hk' with rfl | rfl | rfl | rfl <;> simp
theorem knows_2 {o y side t : Int} {a b : Bool} : (askS 4 o a b y side t false).1 = (askS 4 o a b y side t true).1 ∨ (askS 4 o a b y side t false).1 = 3 := by
  unfold askS
  by_cases hr : rightS 4 o a b y = false ∨ sid side = false
  · rw [if_pos hr, if_pos hr]; exact .inl rfl
  · rw [if_neg hr, if_neg hr]
    by_cases h2 : t = 2
    · rw [if_pos h2, if_pos h2]; exact .inl rfl
    · rw [if_neg h2, if_neg h2]
      by_cases h5 : t = 5
      · rw [if_pos h5, if_pos h5]; right; simp [promS]
      · rw [if_neg h5, if_neg h5]
        by_cases h6 : t ≠ 0 ∧ t ≠ 1 ∧ t ≠ 3 ∧ t ≠ 8
        · rw [if_pos h6, if_pos h6]; exact .inl rfl
        · rw [if_neg h6, if_neg h6]; right; simp [closedS]

set_option maxRecDepth 100000 in
set_option maxHeartbeats 2000000 in
theorem knows_any (k o y side t : Int) (a b : Bool) (w : World) :
    Calls Try.prog 4 #[.agg #[.int .i64 k, .int .i64 o, .bool a, .bool b, .int .i64 y], .int .i64 side, .int .i64 t] w fun e w' => e = .returned (.bool true) ∧ Below w.heap.size w w' := by
  obtain ⟨⟨p1, q1⟩, h1⟩ : ∃ x, askS k o a b y side t true = x := ⟨_, rfl⟩
  obtain ⟨⟨p2, q2⟩, h2⟩ : ∃ x, askS k o a b y side t false = x := ⟨_, rfl⟩
  have H1 := hide h1
  have H2 := hide h2
  by_cases h4 : k = 4
  · subst h4
    have hh : p2 = p1 ∨ p2 = 3 := by
      have := knows_2 (o := o) (y := y) (side := side) (t := t) (a := a) (b := b)
      rw [h1, h2] at this
      exact this
    clear h1 h2
    go_enter Try.func4, Try.ntmps4
    go_wp2_with fail
    go_wp2_with fail
    refine (own_any 4 o a b y _).mono ?_
    rintro e w1 ⟨rfl, hb⟩
    have hb1 := below_base1 hb
    have B1 : Blk w1 w.heap.size 24 #[.int .i64 4, .int .i64 o, .bool a, .bool b, .int .i64 y] := (Blk.born _ _ _).kept hb
    clear hb
    have c0 : w1.cell? ⟨w.heap.size, 0, none⟩ = some (.int .i64 4) := B1.cell 0
    have c1 : w1.cell? ⟨w.heap.size, 1, none⟩ = some (.int .i64 o) := B1.cell 1
    have c2 : w1.cell? ⟨w.heap.size, 2, none⟩ = some (.bool a) := B1.cell 2
    have c3 : w1.cell? ⟨w.heap.size, 3, none⟩ = some (.bool b) := B1.cell 3
    have c4 : w1.cell? ⟨w.heap.size, 4, none⟩ = some (.int .i64 y) := B1.cell 4
    go_wp2_with fail
    refine (ask_q 4 o y side t a b true _ p1 q1 H1.out).mono ?_
    rintro e w2 ⟨rfl, hb⟩
    have hb2 := below_next hb1 hb
    have B2 := B1.kept hb
    clear hb c0 c1 c2 c3 c4
    have c0 : w2.cell? ⟨w.heap.size, 0, none⟩ = some (.int .i64 4) := B2.cell 0
    have c1 : w2.cell? ⟨w.heap.size, 1, none⟩ = some (.int .i64 o) := B2.cell 1
    have c2 : w2.cell? ⟨w.heap.size, 2, none⟩ = some (.bool a) := B2.cell 2
    have c3 : w2.cell? ⟨w.heap.size, 3, none⟩ = some (.bool b) := B2.cell 3
    have c4 : w2.cell? ⟨w.heap.size, 4, none⟩ = some (.int .i64 y) := B2.cell 4
    go_wp2_with fail
    refine (own_any 4 o a b y _).mono ?_
    rintro e w3 ⟨rfl, hb⟩
    have hb3 := below_next hb2 hb
    have B3 := B2.kept hb
    clear hb c0 c1 c2 c3 c4
    have c0 : w3.cell? ⟨w.heap.size, 0, none⟩ = some (.int .i64 4) := B3.cell 0
    have c1 : w3.cell? ⟨w.heap.size, 1, none⟩ = some (.int .i64 o) := B3.cell 1
    have c2 : w3.cell? ⟨w.heap.size, 2, none⟩ = some (.bool a) := B3.cell 2
    have c3 : w3.cell? ⟨w.heap.size, 3, none⟩ = some (.bool b) := B3.cell 3
    have c4 : w3.cell? ⟨w.heap.size, 4, none⟩ = some (.int .i64 y) := B3.cell 4
    go_wp2_with fail
    refine (ask_q 4 o y side t a b false _ p2 q2 H2.out).mono ?_
    rintro e w4 ⟨rfl, hb⟩
    have hb4 := below_next hb3 hb
    have B4 := B3.kept hb
    clear hb c0 c1 c2 c3 c4
    have c0 : w4.cell? ⟨w.heap.size, 0, none⟩ = some (.int .i64 4) := B4.cell 0
    have c1 : w4.cell? ⟨w.heap.size, 1, none⟩ = some (.int .i64 o) := B4.cell 1
    have c2 : w4.cell? ⟨w.heap.size, 2, none⟩ = some (.bool a) := B4.cell 2
    have c3 : w4.cell? ⟨w.heap.size, 3, none⟩ = some (.bool b) := B4.cell 3
    have c4 : w4.cell? ⟨w.heap.size, 4, none⟩ = some (.int .i64 y) := B4.cell 4
    by_cases he : p2 = p1
    · subst he
      go_wp2_with fail
      refine (alive_any _).mono ?_
      rintro e w5 ⟨rfl, hb⟩
      go_wp2_with fail
      go_ret
      exact ⟨rfl, below_next hb4 hb⟩
    · have h3 : p2 = 3 := by rcases hh with h | h; exact absurd h he; exact h
      subst h3
      have e1 : ((3 : Int) == p1) = false := by simpa using he
      have e2 : (p1 != 3) = true := by simp; exact fun h => he h.symm
      clear he hh
      go_wp2_with fail
      refine (alive_any _).mono ?_
      rintro e w5 ⟨rfl, hb⟩
      go_wp2_with fail
      go_ret
      exact ⟨rfl, below_next hb4 hb⟩
  · have he : (p1, q1) = (p2, q2) := by rw [← h1, ← h2]; exact knows_1 h4
    injection he with he1 he2
    subst he1
    subst he2
    have e4 : (k != 4) = true := by simpa using h4
    clear h1 h2 h4
    go_enter Try.func4, Try.ntmps4
    go_wp2_with fail
    go_wp2_with fail
    refine (own_any k o a b y _).mono ?_
    rintro e w1 ⟨rfl, hb⟩
    have hb1 := below_base1 hb
    have B1 : Blk w1 w.heap.size 24 #[.int .i64 k, .int .i64 o, .bool a, .bool b, .int .i64 y] := (Blk.born _ _ _).kept hb
    clear hb
    have c0 : w1.cell? ⟨w.heap.size, 0, none⟩ = some (.int .i64 k) := B1.cell 0
    have c1 : w1.cell? ⟨w.heap.size, 1, none⟩ = some (.int .i64 o) := B1.cell 1
    have c2 : w1.cell? ⟨w.heap.size, 2, none⟩ = some (.bool a) := B1.cell 2
    have c3 : w1.cell? ⟨w.heap.size, 3, none⟩ = some (.bool b) := B1.cell 3
    have c4 : w1.cell? ⟨w.heap.size, 4, none⟩ = some (.int .i64 y) := B1.cell 4
    go_wp2_with fail
    refine (ask_q k o y side t a b true _ p1 q1 H1.out).mono ?_
    rintro e w2 ⟨rfl, hb⟩
    have hb2 := below_next hb1 hb
    have B2 := B1.kept hb
    clear hb c0 c1 c2 c3 c4
    have c0 : w2.cell? ⟨w.heap.size, 0, none⟩ = some (.int .i64 k) := B2.cell 0
    have c1 : w2.cell? ⟨w.heap.size, 1, none⟩ = some (.int .i64 o) := B2.cell 1
    have c2 : w2.cell? ⟨w.heap.size, 2, none⟩ = some (.bool a) := B2.cell 2
    have c3 : w2.cell? ⟨w.heap.size, 3, none⟩ = some (.bool b) := B2.cell 3
    have c4 : w2.cell? ⟨w.heap.size, 4, none⟩ = some (.int .i64 y) := B2.cell 4
    go_wp2_with fail
    refine (own_any k o a b y _).mono ?_
    rintro e w3 ⟨rfl, hb⟩
    have hb3 := below_next hb2 hb
    have B3 := B2.kept hb
    clear hb c0 c1 c2 c3 c4
    have c0 : w3.cell? ⟨w.heap.size, 0, none⟩ = some (.int .i64 k) := B3.cell 0
    have c1 : w3.cell? ⟨w.heap.size, 1, none⟩ = some (.int .i64 o) := B3.cell 1
    have c2 : w3.cell? ⟨w.heap.size, 2, none⟩ = some (.bool a) := B3.cell 2
    have c3 : w3.cell? ⟨w.heap.size, 3, none⟩ = some (.bool b) := B3.cell 3
    have c4 : w3.cell? ⟨w.heap.size, 4, none⟩ = some (.int .i64 y) := B3.cell 4
    go_wp2_with fail
    refine (ask_q k o y side t a b false _ p1 q1 H2.out).mono ?_
    rintro e w4 ⟨rfl, hb⟩
    have hb4 := below_next hb3 hb
    have B4 := B3.kept hb
    clear hb c0 c1 c2 c3 c4
    have c0 : w4.cell? ⟨w.heap.size, 0, none⟩ = some (.int .i64 k) := B4.cell 0
    have c1 : w4.cell? ⟨w.heap.size, 1, none⟩ = some (.int .i64 o) := B4.cell 1
    have c2 : w4.cell? ⟨w.heap.size, 2, none⟩ = some (.bool a) := B4.cell 2
    have c3 : w4.cell? ⟨w.heap.size, 3, none⟩ = some (.bool b) := B4.cell 3
    have c4 : w4.cell? ⟨w.heap.size, 4, none⟩ = some (.int .i64 y) := B4.cell 4
    go_wp2_with fail
    refine (alive_any _).mono ?_
    rintro e w5 ⟨rfl, hb⟩
    go_wp2_with fail
    go_ret
    exact ⟨rfl, below_next hb4 hb⟩
end Go.Proofs.Ytohkholbaidjlaa
