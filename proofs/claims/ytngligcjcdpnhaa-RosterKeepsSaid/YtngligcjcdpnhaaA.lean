/- Contracts: life.Right, the reference's Right, own (the same proofs as at the law of life). -/
import Derived.Test.YtngligcjcdpnhaaE
import Derived.Outline
namespace Go.Proofs.Ytngligcjcdpnhaa
open Go.RowKit
set_option linter.unusedSimpArgs false
set_option linter.unusedVariables false

theorem arr_neq (a b c e : Bool) (w : World) : (binOp .neq 27 (.agg #[.bool a, .bool b]) (.agg #[.bool c, .bool e])).run Try.prog w = .ok (.bool (!((a == c) && (b == e)))) w := by
  cases a <;> cases b <;> cases c <;> cases e <;> kernel_rfl
theorem arr_eql (a b c e : Bool) (w : World) : (binOp .eql 27 (.agg #[.bool a, .bool b]) (.agg #[.bool c, .bool e])).run Try.prog w = .ok (.bool ((a == c) && (b == e))) w := by
  cases a <;> cases b <;> cases c <;> cases e <;> kernel_rfl

def sid (n : Int) : Bool := decide (n = 0) || decide (n = 1)
theorem sid_cases {n : Int} (h : sid n = true) : n = 0 ∨ n = 1 := by simpa [sid] using h
theorem sid_not {n : Int} (h : sid n = false) : n ≠ 0 ∧ n ≠ 1 := by simpa [sid] using h

theorem sided_yes (n : Int) (w : World) (h : sid n = true) : Calls Try.prog 37 #[.int .i64 n] w fun e w' => e = .returned (.bool true) ∧ w = w' := by
  rcases sid_cases h with rfl | rfl
  all_goals
    clear h
    go_enter Try.func37, Try.ntmps37
    go_wp2
    go_ret
    exact ⟨rfl, rfl⟩
theorem sided_no (n : Int) (w : World) (h : sid n = false) : Calls Try.prog 37 #[.int .i64 n] w fun e w' => e = .returned (.bool false) ∧ w = w' := by
  have h1 : (n == 0) = false := by simpa using (sid_not h).1
  have h2 : (n == 1) = false := by simpa using (sid_not h).2
  clear h
  go_enter Try.func37, Try.ntmps37
  go_wp2
  go_ret
  exact ⟨rfl, rfl⟩
theorem sided_q (n : Int) (w : World) (q : Bool) (h : sid n = q) : Calls Try.prog 37 #[.int .i64 n] w fun e w' => e = .returned (.bool q) ∧ w = w' := by
  cases q
  · exact sided_no n w h
  · exact sided_yes n w h

def rightS (k o : Int) (a b : Bool) (y : Int) : Bool :=
  sid o && (if k = 0 ∨ k = 1 then (!a && !b && decide (y = 0)) else if k = 2 then ((!a && !b && decide (y = 0)) && decide (o = 1)) else if k = 3 then (decide (y = 0) && !(a && b)) else if k = 4 then ((!a && !b) && decide (0 ≤ y) && decide (y ≤ 2)) else false)

theorem right_nosid (k o : Int) (a b : Bool) (y : Int) (w : World) (h : sid o = false) :
    Calls Try.prog 33 #[.agg #[.int .i64 k, .int .i64 o, .bool a, .bool b, .int .i64 y]] w fun e w' => e = .returned (.bool false) ∧ Below w.heap.size w w' := by
  have H := hide h
  clear h
  go_enter Try.func33, Try.ntmps33
  go_wp2_with (go_at_call 37; refine (sided_q _ _ false H.out).mono ?_; rintro e w1 ⟨rfl, rfl⟩)
  go_ret
  exact ⟨rfl, ((Below.refl _ _).alloc (Nat.le_refl _) _).alloc (by simp) _⟩

set_option maxHeartbeats 400000 in
theorem right_sid (k o : Int) (a b : Bool) (y : Int) (w : World) (h : sid o = true) :
    Calls Try.prog 33 #[.agg #[.int .i64 k, .int .i64 o, .bool a, .bool b, .int .i64 y]] w fun e w' => e = .returned (.bool (rightS k o a b y)) ∧ Below w.heap.size w w' := by
  have heq := @st_eq
  have H := hide h
  clear h
  by_cases h01 : k = 0 ∨ k = 1
  · rcases h01 with rfl | rfl
    all_goals
      go_enter Try.func33, Try.ntmps33
      go_wp2_with (go_at_call 37; refine (sided_q _ _ true H.out).mono ?_; rintro e w1 ⟨rfl, rfl⟩)
      go_ret
      exact ⟨ret_bool (by simp [rightS, eqS, H.out]), ((Below.refl _ _).alloc (Nat.le_refl _) _).alloc (by simp) _⟩
  · have k0 : (k == 0) = false := by simp; omega
    have k1 : (k == 1) = false := by simp; omega
    have K01 := hide h01
    clear h01
    by_cases h2 : k = 2
    · subst h2
      have e1 : (o == 1) = decide (o = 1) := rfl
      obtain ⟨q, hq⟩ : ∃ q, eqS 2 o a b y 2 o false false 0 = q := ⟨_, rfl⟩
      clear k0 k1
      cases q
      all_goals
        go_enter Try.func33, Try.ntmps33
        go_wp2_with (go_at_call 37; refine (sided_q _ _ true H.out).mono ?_; rintro e w1 ⟨rfl, rfl⟩)
        go_ret
        simp only [eqS] at hq
        refine ⟨ret_bool ?_, ((Below.refl _ _).alloc (Nat.le_refl _) _).alloc (by simp) _⟩
        simp [rightS, H.out]
        cases a <;> cases b <;> simp at hq <;> simp [hq]
    · have k2 : (k == 2) = false := by simp; omega
      have K2 := hide h2
      clear h2
      by_cases h3 : k = 3
      · subst h3
        obtain ⟨q, hq⟩ : ∃ q, eqS 3 o a b y 3 o a b 0 = q := ⟨_, rfl⟩
        have hn := arr_neq
        clear k0 k1 k2
        cases q
        all_goals
          go_enter Try.func33, Try.ntmps33
          go_wp2_with (go_at_call 37; refine (sided_q _ _ true H.out).mono ?_; rintro e w1 ⟨rfl, rfl⟩)
          go_ret
          simp only [eqS] at hq
          refine ⟨ret_bool ?_, (((Below.refl _ _).alloc (Nat.le_refl _) _).alloc (by simp) _)⟩
          simp [rightS, H.out]
          cases a <;> cases b <;> simp at hq <;> simp [hq]
      · have k3 : (k == 3) = false := by simp; omega
        have K3 := hide h3
        clear h3
        by_cases h4 : k = 4
        · subst h4
          obtain ⟨q, hq⟩ : ∃ q, eqS 4 o a b y 4 o false false y = q := ⟨_, rfl⟩
          clear k0 k1 k2 k3
          cases q
          · go_enter Try.func33, Try.ntmps33
            go_wp2_with (go_at_call 37; refine (sided_q _ _ true H.out).mono ?_; rintro e w1 ⟨rfl, rfl⟩)
            go_ret
            simp only [eqS] at hq
            refine ⟨ret_bool ?_, (((Below.refl _ _).alloc (Nat.le_refl _) _).alloc (by simp) _)⟩
            simp [rightS, H.out]
            cases a <;> cases b <;> simp at hq <;> simp [hq]
          · by_cases hy : 0 ≤ y
            all_goals
              go_enter Try.func33, Try.ntmps33
              go_wp2_with (go_at_call 37; refine (sided_q _ _ true H.out).mono ?_; rintro e w1 ⟨rfl, rfl⟩)
              go_ret
              simp only [eqS] at hq
              refine ⟨ret_bool ?_, (((Below.refl _ _).alloc (Nat.le_refl _) _).alloc (by simp) _)⟩
              simp [rightS, H.out]
              cases a <;> cases b <;> simp at hq <;> (try simp [hy]) <;> (try omega)
        · have k4 : (k == 4) = false := by simp; omega
          have K4 := hide h4
          clear h4
          go_enter Try.func33, Try.ntmps33
          go_wp2_with (go_at_call 37; refine (sided_q _ _ true H.out).mono ?_; rintro e w1 ⟨rfl, rfl⟩)
          go_ret
          refine ⟨ret_bool ?_, (((Below.refl _ _).alloc (Nat.le_refl _) _).alloc (by simp) _)⟩
          rw [rightS, if_neg K01.out, if_neg K2.out, if_neg K3.out, if_neg K4.out]
          simp

theorem right_any (k o : Int) (a b : Bool) (y : Int) (w : World) (q : Bool) (h : rightS k o a b y = q) :
    Calls Try.prog 33 #[.agg #[.int .i64 k, .int .i64 o, .bool a, .bool b, .int .i64 y]] w fun e w' => e = .returned (.bool q) ∧ Below w.heap.size w w' := by
  rw [← h]
  by_cases hs : sid o = true
  · exact right_sid k o a b y w hs
  · have hs' : sid o = false := by simpa using hs
    have := right_nosid k o a b y w hs'
    have e : rightS k o a b y = false := by simp [rightS, hs']
    rw [e]
    exact this
set_option maxRecDepth 100000 in
set_option maxHeartbeats 1000000 in
theorem rright_any (k o : Int) (a b : Bool) (y : Int) (w : World) :
    Calls Try.prog 34 #[.agg #[.int .i64 k, .int .i64 o, .bool a, .bool b, .int .i64 y]] w fun e w' => e = .returned (.bool (rightS k o a b y)) ∧ Below w.heap.size w w' := by
  cases a <;> cases b
  all_goals
    go_enter Try.func34, Try.ntmps34
    go_wp2
    all_goals
      go_ret
      refine ⟨ret_bool ?_, (Below.refl _ _).alloc (Nat.le_refl _) _⟩
      unfold rightS
      simp_all [sid]
      try first | rfl | omega

theorem rright_q (k o : Int) (a b : Bool) (y : Int) (w : World) (q : Bool) (h : rightS k o a b y = q) :
    Calls Try.prog 34 #[.agg #[.int .i64 k, .int .i64 o, .bool a, .bool b, .int .i64 y]] w fun e w' => e = .returned (.bool q) ∧ Below w.heap.size w w' := by
  rw [← h]; exact rright_any k o a b y w

theorem own_any (k o : Int) (a b : Bool) (y : Int) (w : World) :
    Calls Try.prog 8 #[.agg #[.int .i64 k, .int .i64 o, .bool a, .bool b, .int .i64 y]] w fun e w' => e = .returned (.agg #[.int .i64 k, .int .i64 o, .bool a, .bool b, .int .i64 y]) ∧ Below w.heap.size w w' := by
  go_enter Try.func8, Try.ntmps8
  go_wp2
  refine bodyPost_ret (v := .agg #[.int .i64 k, .int .i64 o, .bool a, .bool b, .int .i64 y]) (by simp [results, Try.results8, go_sem]) rfl ⟨rfl, ?_⟩
  exact ((Below.refl _ _).alloc (Nat.le_refl _) _).alloc (by simp) _

end Go.Proofs.Ytngligcjcdpnhaa
