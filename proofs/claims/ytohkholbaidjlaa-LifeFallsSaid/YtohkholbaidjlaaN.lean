/- The contracts of Ends and Resets, of the program and of the reference; the chapter's example. -/
import Derived.Test.YtohkholbaidjlaaA
import Derived.Test.YtohkholbaidjlaaR
namespace Go.Proofs.Ytohkholbaidjlaa
open Go.RowKit

/-- A state as five numbers and bits. -/
structure Stt where
  k : Int
  o : Int
  a : Bool
  b : Bool
  y : Int
def Stt.v (s : Stt) : Value := .agg #[.int .i64 s.k, .int .i64 s.o, .bool s.a, .bool s.b, .int .i64 s.y]

def endsS (k o : Int) (a b : Bool) (y side : Int) : Stt :=
  if k ≠ 3 ∨ sid side = false then ⟨k, o, a, b, y⟩
  else if (if side = 0 then b else a) = true then ⟨4, o, false, false, 2⟩
  else if side = 0 then ⟨k, o, true, b, y⟩ else ⟨k, o, a, true, y⟩
def resetsS (k o : Int) (a b : Bool) (y side : Int) : Stt :=
  if (k ≠ 2 ∧ k ≠ 3) ∨ sid side = false then ⟨k, o, a, b, y⟩ else ⟨4, o, false, false, side⟩

theorem ret_agg {k o y k' o' y' : Int} {a b a' b' : Bool} (h : (⟨k, o, a, b, y⟩ : Stt) = ⟨k', o', a', b', y'⟩) :
    Ending.returned (.agg #[.int .i64 k, .int .i64 o, .bool a, .bool b, .int .i64 y]) = .returned (.agg #[.int .i64 k', .int .i64 o', .bool a', .bool b', .int .i64 y']) := by
  injection h with h1 h2 h3 h4 h5
  rw [h1, h2, h3, h4, h5]

theorem endsS_off {k o y side : Int} {a b : Bool} (h : k ≠ 3 ∨ sid side = false) : endsS k o a b y side = ⟨k, o, a, b, y⟩ := by rw [endsS, if_pos h]
theorem resetsS_off {k o y side : Int} {a b : Bool} (h : (k ≠ 2 ∧ k ≠ 3) ∨ sid side = false) : resetsS k o a b y side = ⟨k, o, a, b, y⟩ := by rw [resetsS, if_pos h]
theorem resetsS_on {k o y side : Int} {a b : Bool} (h : ¬ ((k ≠ 2 ∧ k ≠ 3) ∨ sid side = false)) : resetsS k o a b y side = ⟨4, o, false, false, side⟩ := by rw [resetsS, if_neg h]

set_option maxHeartbeats 1000000 in
theorem ends_any (k o : Int) (a b : Bool) (y side : Int) (w : World) :
    Calls Try.prog 13 #[.agg #[.int .i64 k, .int .i64 o, .bool a, .bool b, .int .i64 y], .int .i64 side] w fun e w' => e = .returned (endsS k o a b y side).v ∧ Below w.heap.size w w' := by
  by_cases h3 : k = 3
  · subst h3
    obtain ⟨q, hq⟩ : ∃ q, sid side = q := ⟨_, rfl⟩
    cases q
    · have H := hide hq
      rw [endsS_off (.inr hq)]
      clear hq
      go_enter Try.func13, Try.ntmps13
      go_wp2_with fail
      refine (sided_q _ _ false H.out).mono ?_
      rintro e w1 ⟨rfl, rfl⟩
      go_wp2_with fail
      refine bodyPost_ret (v := .agg #[.int .i64 3, .int .i64 o, .bool a, .bool b, .int .i64 y]) (by simp [results, Try.results13, go_sem]) rfl ⟨rfl, ?_⟩
      exact ((Below.refl _ _).alloc (Nat.le_refl _) _).alloc (by simp) _
    · have hn := arr_eql
      rcases sid_cases hq with rfl | rfl
      · have H := hide hq
        clear hq
        cases a <;> cases b
        · rw [show endsS 3 o false false y 0 = ⟨3, o, true, false, y⟩ from by simp [endsS, sid]]
          go_enter Try.func13, Try.ntmps13
          go_wp2_with fail
          refine (sided_q _ _ true H.out).mono ?_
          rintro e w1 ⟨rfl, rfl⟩
          go_wp2_with fail
          refine bodyPost_ret (v := .agg #[.int .i64 3, .int .i64 o, .bool true, .bool false, .int .i64 y]) (by simp [results, Try.results13, go_sem]) rfl ⟨rfl, ?_⟩
          exact ((Below.refl _ _).alloc (Nat.le_refl _) _).alloc (by simp) _
        · rw [show endsS 3 o false true y 0 = ⟨4, o, false, false, 2⟩ from by simp [endsS, sid]]
          go_enter Try.func13, Try.ntmps13
          go_wp2_with fail
          refine (sided_q _ _ true H.out).mono ?_
          rintro e w1 ⟨rfl, rfl⟩
          go_wp2_with fail
          refine bodyPost_ret (v := .agg #[.int .i64 4, .int .i64 o, .bool false, .bool false, .int .i64 2]) (by simp [results, Try.results13, go_sem]) rfl ⟨rfl, ?_⟩
          exact ((Below.refl _ _).alloc (Nat.le_refl _) _).alloc (by simp) _
        · rw [show endsS 3 o true false y 0 = ⟨3, o, true, false, y⟩ from by simp [endsS, sid]]
          go_enter Try.func13, Try.ntmps13
          go_wp2_with fail
          refine (sided_q _ _ true H.out).mono ?_
          rintro e w1 ⟨rfl, rfl⟩
          go_wp2_with fail
          refine bodyPost_ret (v := .agg #[.int .i64 3, .int .i64 o, .bool true, .bool false, .int .i64 y]) (by simp [results, Try.results13, go_sem]) rfl ⟨rfl, ?_⟩
          exact ((Below.refl _ _).alloc (Nat.le_refl _) _).alloc (by simp) _
        · rw [show endsS 3 o true true y 0 = ⟨4, o, false, false, 2⟩ from by simp [endsS, sid]]
          go_enter Try.func13, Try.ntmps13
          go_wp2_with fail
          refine (sided_q _ _ true H.out).mono ?_
          rintro e w1 ⟨rfl, rfl⟩
          go_wp2_with fail
          refine bodyPost_ret (v := .agg #[.int .i64 4, .int .i64 o, .bool false, .bool false, .int .i64 2]) (by simp [results, Try.results13, go_sem]) rfl ⟨rfl, ?_⟩
          exact ((Below.refl _ _).alloc (Nat.le_refl _) _).alloc (by simp) _
      · have H := hide hq
        clear hq
        cases a <;> cases b
        · rw [show endsS 3 o false false y 1 = ⟨3, o, false, true, y⟩ from by simp [endsS, sid]]
          go_enter Try.func13, Try.ntmps13
          go_wp2_with fail
          refine (sided_q _ _ true H.out).mono ?_
          rintro e w1 ⟨rfl, rfl⟩
          go_wp2_with fail
          refine bodyPost_ret (v := .agg #[.int .i64 3, .int .i64 o, .bool false, .bool true, .int .i64 y]) (by simp [results, Try.results13, go_sem]) rfl ⟨rfl, ?_⟩
          exact ((Below.refl _ _).alloc (Nat.le_refl _) _).alloc (by simp) _
        · rw [show endsS 3 o false true y 1 = ⟨3, o, false, true, y⟩ from by simp [endsS, sid]]
          go_enter Try.func13, Try.ntmps13
          go_wp2_with fail
          refine (sided_q _ _ true H.out).mono ?_
          rintro e w1 ⟨rfl, rfl⟩
          go_wp2_with fail
          refine bodyPost_ret (v := .agg #[.int .i64 3, .int .i64 o, .bool false, .bool true, .int .i64 y]) (by simp [results, Try.results13, go_sem]) rfl ⟨rfl, ?_⟩
          exact ((Below.refl _ _).alloc (Nat.le_refl _) _).alloc (by simp) _
        · rw [show endsS 3 o true false y 1 = ⟨4, o, false, false, 2⟩ from by simp [endsS, sid]]
          go_enter Try.func13, Try.ntmps13
          go_wp2_with fail
          refine (sided_q _ _ true H.out).mono ?_
          rintro e w1 ⟨rfl, rfl⟩
          go_wp2_with fail
          refine bodyPost_ret (v := .agg #[.int .i64 4, .int .i64 o, .bool false, .bool false, .int .i64 2]) (by simp [results, Try.results13, go_sem]) rfl ⟨rfl, ?_⟩
          exact ((Below.refl _ _).alloc (Nat.le_refl _) _).alloc (by simp) _
        · rw [show endsS 3 o true true y 1 = ⟨4, o, false, false, 2⟩ from by simp [endsS, sid]]
          go_enter Try.func13, Try.ntmps13
          go_wp2_with fail
          refine (sided_q _ _ true H.out).mono ?_
          rintro e w1 ⟨rfl, rfl⟩
          go_wp2_with fail
          refine bodyPost_ret (v := .agg #[.int .i64 4, .int .i64 o, .bool false, .bool false, .int .i64 2]) (by simp [results, Try.results13, go_sem]) rfl ⟨rfl, ?_⟩
          exact ((Below.refl _ _).alloc (Nat.le_refl _) _).alloc (by simp) _
  · rw [endsS_off (.inl h3)]
    have e3 : (k != 3) = true := by simpa using h3
    clear h3
    go_enter Try.func13, Try.ntmps13
    go_wp2_with fail
    refine bodyPost_ret (v := .agg #[.int .i64 k, .int .i64 o, .bool a, .bool b, .int .i64 y]) (by simp [results, Try.results13, go_sem]) rfl ⟨rfl, ?_⟩
    exact ((Below.refl _ _).alloc (Nat.le_refl _) _).alloc (by simp) _

set_option maxHeartbeats 1000000 in
theorem rends_any (k o : Int) (a b : Bool) (y side : Int) (w : World) :
    Calls Try.prog 14 #[.agg #[.int .i64 k, .int .i64 o, .bool a, .bool b, .int .i64 y], .int .i64 side] w fun e w' => e = .returned (endsS k o a b y side).v ∧ Below w.heap.size w w' := by
  by_cases h3 : k = 3
  · subst h3
    obtain ⟨q, hq⟩ : ∃ q, sid side = q := ⟨_, rfl⟩
    cases q
    · rw [endsS_off (.inr hq)]
      have s2 : (side != 0) = true := by simpa using (sid_not hq).1
      have s3 : (side != 1) = true := by simpa using (sid_not hq).2
      clear hq
      go_enter Try.func14, Try.ntmps14
      go_wp2_with fail
      refine bodyPost_ret (v := .agg #[.int .i64 3, .int .i64 o, .bool a, .bool b, .int .i64 y]) (by simp [results, Try.results14, go_sem]) rfl ⟨rfl, ?_⟩
      exact ((Below.refl _ _).alloc (Nat.le_refl _) _).alloc (by simp) _
    · rcases sid_cases hq with rfl | rfl
      · clear hq
        cases a <;> cases b
        · rw [show endsS 3 o false false y 0 = ⟨3, o, true, false, y⟩ from by simp [endsS, sid]]
          go_enter Try.func14, Try.ntmps14
          go_wp2_with fail
          refine bodyPost_ret (v := .agg #[.int .i64 3, .int .i64 o, .bool true, .bool false, .int .i64 y]) (by simp [results, Try.results14, go_sem]) rfl ⟨rfl, ?_⟩
          exact ((Below.refl _ _).alloc (Nat.le_refl _) _).alloc (by simp) _
        · rw [show endsS 3 o false true y 0 = ⟨4, o, false, false, 2⟩ from by simp [endsS, sid]]
          go_enter Try.func14, Try.ntmps14
          go_wp2_with fail
          refine bodyPost_ret (v := .agg #[.int .i64 4, .int .i64 o, .bool false, .bool false, .int .i64 2]) (by simp [results, Try.results14, go_sem]) rfl ⟨rfl, ?_⟩
          exact ((Below.refl _ _).alloc (Nat.le_refl _) _).alloc (by simp) _
        · rw [show endsS 3 o true false y 0 = ⟨3, o, true, false, y⟩ from by simp [endsS, sid]]
          go_enter Try.func14, Try.ntmps14
          go_wp2_with fail
          refine bodyPost_ret (v := .agg #[.int .i64 3, .int .i64 o, .bool true, .bool false, .int .i64 y]) (by simp [results, Try.results14, go_sem]) rfl ⟨rfl, ?_⟩
          exact ((Below.refl _ _).alloc (Nat.le_refl _) _).alloc (by simp) _
        · rw [show endsS 3 o true true y 0 = ⟨4, o, false, false, 2⟩ from by simp [endsS, sid]]
          go_enter Try.func14, Try.ntmps14
          go_wp2_with fail
          refine bodyPost_ret (v := .agg #[.int .i64 4, .int .i64 o, .bool false, .bool false, .int .i64 2]) (by simp [results, Try.results14, go_sem]) rfl ⟨rfl, ?_⟩
          exact ((Below.refl _ _).alloc (Nat.le_refl _) _).alloc (by simp) _
      · clear hq
        cases a <;> cases b
        · rw [show endsS 3 o false false y 1 = ⟨3, o, false, true, y⟩ from by simp [endsS, sid]]
          go_enter Try.func14, Try.ntmps14
          go_wp2_with fail
          refine bodyPost_ret (v := .agg #[.int .i64 3, .int .i64 o, .bool false, .bool true, .int .i64 y]) (by simp [results, Try.results14, go_sem]) rfl ⟨rfl, ?_⟩
          exact ((Below.refl _ _).alloc (Nat.le_refl _) _).alloc (by simp) _
        · rw [show endsS 3 o false true y 1 = ⟨3, o, false, true, y⟩ from by simp [endsS, sid]]
          go_enter Try.func14, Try.ntmps14
          go_wp2_with fail
          refine bodyPost_ret (v := .agg #[.int .i64 3, .int .i64 o, .bool false, .bool true, .int .i64 y]) (by simp [results, Try.results14, go_sem]) rfl ⟨rfl, ?_⟩
          exact ((Below.refl _ _).alloc (Nat.le_refl _) _).alloc (by simp) _
        · rw [show endsS 3 o true false y 1 = ⟨4, o, false, false, 2⟩ from by simp [endsS, sid]]
          go_enter Try.func14, Try.ntmps14
          go_wp2_with fail
          refine bodyPost_ret (v := .agg #[.int .i64 4, .int .i64 o, .bool false, .bool false, .int .i64 2]) (by simp [results, Try.results14, go_sem]) rfl ⟨rfl, ?_⟩
          exact ((Below.refl _ _).alloc (Nat.le_refl _) _).alloc (by simp) _
        · rw [show endsS 3 o true true y 1 = ⟨4, o, false, false, 2⟩ from by simp [endsS, sid]]
          go_enter Try.func14, Try.ntmps14
          go_wp2_with fail
          refine bodyPost_ret (v := .agg #[.int .i64 4, .int .i64 o, .bool false, .bool false, .int .i64 2]) (by simp [results, Try.results14, go_sem]) rfl ⟨rfl, ?_⟩
          exact ((Below.refl _ _).alloc (Nat.le_refl _) _).alloc (by simp) _
  · rw [endsS_off (.inl h3)]
    have e3 : (k != 3) = true := by simpa using h3
    clear h3
    go_enter Try.func14, Try.ntmps14
    go_wp2_with fail
    refine bodyPost_ret (v := .agg #[.int .i64 k, .int .i64 o, .bool a, .bool b, .int .i64 y]) (by simp [results, Try.results14, go_sem]) rfl ⟨rfl, ?_⟩
    exact ((Below.refl _ _).alloc (Nat.le_refl _) _).alloc (by simp) _

set_option maxHeartbeats 1000000 in
theorem resets_any (k o : Int) (a b : Bool) (y side : Int) (w : World) :
    Calls Try.prog 15 #[.agg #[.int .i64 k, .int .i64 o, .bool a, .bool b, .int .i64 y], .int .i64 side] w fun e w' => e = .returned (resetsS k o a b y side).v ∧ Below w.heap.size w w' := by
  by_cases hk : k ≠ 2 ∧ k ≠ 3
  · rw [resetsS_off (.inl hk)]
    have e2 : (k != 2) = true := by simpa using hk.1
    have e3 : (k != 3) = true := by simpa using hk.2
    clear hk
    go_enter Try.func15, Try.ntmps15
    go_wp2_with fail
    refine bodyPost_ret (v := .agg #[.int .i64 k, .int .i64 o, .bool a, .bool b, .int .i64 y]) (by simp [results, Try.results15, go_sem]) rfl ⟨rfl, ?_⟩
    exact ((Below.refl _ _).alloc (Nat.le_refl _) _).alloc (by simp) _
  · have hk' : k = 2 ∨ k = 3 := by omega
    obtain ⟨q, hq⟩ : ∃ q, sid side = q := ⟨_, rfl⟩
    have H := hide hq
    cases q
    · rw [resetsS_off (.inr hq)]
      have s2 : (side != 0) = true := by simpa using (sid_not hq).1
      have s3 : (side != 1) = true := by simpa using (sid_not hq).2
      clear hq hk
      rcases hk' with rfl | rfl
      all_goals
        go_enter Try.func15, Try.ntmps15
        go_wp2_with fail
        refine (sided_q _ _ false H.out).mono ?_
        rintro e w1 ⟨rfl, rfl⟩
        go_wp2_with fail
        refine bodyPost_ret (v := .agg #[.int .i64 _, .int .i64 o, .bool a, .bool b, .int .i64 y]) (by simp [results, Try.results15, go_sem]) rfl ⟨rfl, ?_⟩
        exact ((Below.refl _ _).alloc (Nat.le_refl _) _).alloc (by simp) _
    · rw [resetsS_on (by rintro (h | h); exact hk h; rw [hq] at h; cases h)]
      clear hk
      rcases sid_cases hq with rfl | rfl <;> clear hq <;> rcases hk' with rfl | rfl
      all_goals
        go_enter Try.func15, Try.ntmps15
        go_wp2_with fail
        refine (sided_q _ _ true H.out).mono ?_
        rintro e w1 ⟨rfl, rfl⟩
        go_wp2_with fail
        refine bodyPost_ret (v := .agg #[.int .i64 4, .int .i64 o, .bool false, .bool false, .int .i64 _]) (by simp [results, Try.results15, go_sem]) rfl ⟨rfl, ?_⟩
        exact ((Below.refl _ _).alloc (Nat.le_refl _) _).alloc (by simp) _

set_option maxHeartbeats 1000000 in
theorem rresets_any (k o : Int) (a b : Bool) (y side : Int) (w : World) :
    Calls Try.prog 16 #[.agg #[.int .i64 k, .int .i64 o, .bool a, .bool b, .int .i64 y], .int .i64 side] w fun e w' => e = .returned (resetsS k o a b y side).v ∧ Below w.heap.size w w' := by
  by_cases hk : k ≠ 2 ∧ k ≠ 3
  · rw [resetsS_off (.inl hk)]
    have e2 : (k != 2) = true := by simpa using hk.1
    have e3 : (k != 3) = true := by simpa using hk.2
    clear hk
    go_enter Try.func16, Try.ntmps16
    go_wp2_with fail
    refine bodyPost_ret (v := .agg #[.int .i64 k, .int .i64 o, .bool a, .bool b, .int .i64 y]) (by simp [results, Try.results16, go_sem]) rfl ⟨rfl, ?_⟩
    exact ((Below.refl _ _).alloc (Nat.le_refl _) _).alloc (by simp) _
  · have hk' : k = 2 ∨ k = 3 := by omega
    obtain ⟨q, hq⟩ : ∃ q, sid side = q := ⟨_, rfl⟩
    have H := hide hq
    cases q
    · rw [resetsS_off (.inr hq)]
      have s2 : (side != 0) = true := by simpa using (sid_not hq).1
      have s3 : (side != 1) = true := by simpa using (sid_not hq).2
      clear hq hk
      rcases hk' with rfl | rfl
      all_goals
        go_enter Try.func16, Try.ntmps16
        go_wp2_with fail
        refine bodyPost_ret (v := .agg #[.int .i64 _, .int .i64 o, .bool a, .bool b, .int .i64 y]) (by simp [results, Try.results16, go_sem]) rfl ⟨rfl, ?_⟩
        exact ((Below.refl _ _).alloc (Nat.le_refl _) _).alloc (by simp) _
    · rw [resetsS_on (by rintro (h | h); exact hk h; rw [hq] at h; cases h)]
      clear hk
      rcases sid_cases hq with rfl | rfl <;> clear hq <;> rcases hk' with rfl | rfl
      all_goals
        go_enter Try.func16, Try.ntmps16
        go_wp2_with fail
        refine bodyPost_ret (v := .agg #[.int .i64 4, .int .i64 o, .bool false, .bool false, .int .i64 _]) (by simp [results, Try.results16, go_sem]) rfl ⟨rfl, ?_⟩
        exact ((Below.refl _ _).alloc (Nat.le_refl _) _).alloc (by simp) _
end Go.Proofs.Ytohkholbaidjlaa
