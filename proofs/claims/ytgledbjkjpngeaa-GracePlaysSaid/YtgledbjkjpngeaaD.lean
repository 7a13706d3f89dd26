/- The memory of closed streams, as numbers: where a stream stands, whether it can be kept, what keeping it does. Plain laws, with no program in sight. -/
import Derived.Test.YtgledbjkjpngeaaK0
namespace Go.Proofs.Ytgledbjkjpngeaa
open Go.RowKit

/-- Where a number stands. -/
def posI : List Int → Int → Option Nat
  | [], _ => none
  | y :: l, x => if y = x then some 0 else (posI l x).map (· + 1)
theorem posI_lt : ∀ {l : List Int} {x : Int} {i : Nat}, posI l x = some i → i < l.length
  | [], x, i, h => by cases h
  | y :: l, x, i, h => by
    unfold posI at h
    split at h
    · injection h with h; subst h; simp
    · cases hp : posI l x with
      | none => rw [hp] at h; cases h
      | some j => rw [hp] at h; simp at h; subst h; have := posI_lt hp; simp <;> omega
theorem posI_get : ∀ {l : List Int} {x : Int} {i : Nat}, posI l x = some i → l[i]? = some x
  | [], x, i, h => by cases h
  | y :: l, x, i, h => by
    unfold posI at h
    split at h
    · rename_i e; injection h with h; subst h e; rfl
    · cases hp : posI l x with
      | none => rw [hp] at h; cases h
      | some j => rw [hp] at h; simp at h; subst h; have := posI_get hp; simpa using this
theorem posI_snoc : ∀ (l : List Int) (x y : Int), posI (l ++ [x]) y = match posI l y with | some i => some i | none => if x = y then some l.length else none
  | [], x, y => by
    show posI [x] y = _
    unfold posI
    split
    · rfl
    · rfl
  | z :: l, x, y => by
    show (if z = y then some 0 else (posI (l ++ [x]) y).map (· + 1)) = match (if z = y then some 0 else (posI l y).map (· + 1)) with | some i => some i | none => if x = y then some (l.length + 1) else none
    by_cases h : z = y
    · rw [if_pos h, if_pos h]
    · rw [if_neg h, if_neg h, posI_snoc l x y]
      cases hp : posI l y with
      | some i => rfl
      | none =>
        by_cases h2 : x = y
        · simp [h2]
        · simp [h2]
theorem posI_none {l : List Int} {x : Int} : posI l x = none ↔ x ∉ l := by
  induction l with
  | nil => simp [posI]
  | cons y l ih =>
    unfold posI
    by_cases h : y = x
    · subst h; simp
    · rw [if_neg h]
      have : ¬ x = y := fun e => h e.symm
      simp [ih, this]

/-- The numbers that were closed, of each for how many spans it was in the set for sure, of each span how many were. -/
structure St where
  ids : List Int
  kp : List Nat
  bz : List Nat
/-- Behind which span a stream may have been forgotten. -/
def St.from (s : St) (i : Nat) : Nat := i + s.kp.getD i 0
/-- How many of the first k meet a test. -/
def cntb (p : Nat → Bool) : Nat → Nat
  | 0 => 0
  | k + 1 => cntb p k + if p k then 1 else 0
theorem cntb_le (p : Nat → Bool) : ∀ k, cntb p k ≤ k
  | 0 => Nat.le_refl _
  | k + 1 => by unfold cntb; have := cntb_le p k; split <;> omega
theorem cntb_congr {p q : Nat → Bool} : ∀ k, (∀ i, i < k → p i = q i) → cntb p k = cntb q k
  | 0, _ => rfl
  | k + 1, h => by unfold cntb; rw [cntb_congr k (fun i hi => h i (by omega)), h k (by omega)]
theorem cntb_more {p q : Nat → Bool} {i0 : Nat} (hp : p i0 = false) (hq : q i0 = true) (he : ∀ i, i ≠ i0 → p i = q i) : ∀ k, i0 < k → cntb q k = cntb p k + 1
  | 0, h => by omega
  | k + 1, h => by
    unfold cntb
    by_cases e : k = i0
    · subst e
      rw [hp, hq, cntb_congr k (fun i hi => (he i (by omega)).symm)]; simp
    · rw [cntb_more hp hq he k (by omega), he k e]; omega
theorem cntb_lt {p : Nat → Bool} {i0 : Nat} (hp : p i0 = false) : ∀ k, i0 < k → cntb p k < k
  | 0, h => by omega
  | k + 1, h => by
    unfold cntb
    by_cases e : k = i0
    · subst e; rw [hp]; have := cntb_le p k; simp <;> omega
    · have := cntb_lt hp k (by omega); split <;> omega
theorem cntb_zero {p : Nat → Bool} : ∀ k, (∀ i, i < k → p i = false) → cntb p k = 0
  | 0, _ => rfl
  | k + 1, h => by unfold cntb; rw [cntb_zero k (fun i hi => h i (by omega)), h k (by omega)]; rfl
/-- Was a stream in the set for sure in a span? How many were? -/
def St.sure (s : St) (j i : Nat) : Bool := decide (i ≤ j ∧ j < s.from i)
def St.cov (s : St) (j : Nat) : Nat := cntb (s.sure j) s.ids.length
structure St.Ok (s : St) : Prop where
  nd : s.ids.Nodup
  lk : s.kp.length = s.ids.length
  lb : s.bz.length = s.ids.length
  le : ∀ i, i < s.ids.length → s.from i ≤ s.ids.length
  ct : ∀ j, j < s.ids.length → s.bz[j]? = some (s.cov j)
theorem St.Ok.bd {s : St} (h : s.Ok) : ∀ b ∈ s.bz, b ≤ s.ids.length := by
  intro b hb
  obtain ⟨j, hj⟩ := List.getElem?_of_mem hb
  have hl := (List.getElem?_eq_some_iff.1 hj).1
  rw [h.lb] at hl
  rw [h.ct j hl] at hj
  rw [← Option.some.inj hj]
  exact cntb_le _ _
def St.empty : St := ⟨[], [], []⟩
def St.close (s : St) (x : Int) : St := if (posI s.ids x).isSome then s else ⟨s.ids ++ [x], s.kp ++ [0], s.bz ++ [0]⟩
def St.fresh (s : St) (x : Int) : Bool := !(posI s.ids x).isSome
def St.can (M : Int) (s : St) (x : Int) : Bool := match posI s.ids x with
  | none => false
  | some i => !(M == 0) && (s.bz.drop (s.from i)).all (fun n => decide ((n : Int) < M))
/-- One more in each span from one on. -/
def bump (k : Nat) (b : List Nat) : List Nat := b.take k ++ (b.drop k).map (· + 1)
def St.keep (M : Int) (s : St) (x : Int) : St := if s.can M x then match posI s.ids x with
  | none => s
  | some i => ⟨s.ids, s.kp.set i (s.ids.length - i), bump (s.from i) s.bz⟩ else s

theorem bump_length (k : Nat) (b : List Nat) : (bump k b).length = b.length := by unfold bump; simp <;> omega
theorem bump_at (k : Nat) (b : List Nat) (j : Nat) : (bump k b)[j]? = (b[j]?).map fun n => if k ≤ j then n + 1 else n := by
  unfold bump
  by_cases h : j < (b.take k).length
  · rw [List.getElem?_append_left h]
    have h2 : j < k := by simp at h; omega
    rw [List.getElem?_take, if_pos h2]
    cases b[j]? with
    | none => rfl
    | some n => simp <;> omega
  · rw [List.getElem?_append_right (by omega)]
    simp only [List.length_take] at h ⊢
    rw [List.getElem?_map, List.getElem?_drop]
    by_cases hk : k ≤ b.length
    · have hm : min k b.length = k := by omega
      rw [hm] at h ⊢
      rw [show k + (j - k) = j from by omega]
      cases b[j]? with
      | none => rfl
      | some n => simp <;> omega
    · have hm : min k b.length = b.length := by omega
      rw [hm] at h ⊢
      rw [List.getElem?_eq_none (by omega), List.getElem?_eq_none (by omega)]; rfl
theorem empty_ok : St.empty.Ok := ⟨List.nodup_nil, rfl, rfl, (fun i hi => by cases hi), (fun j hj => by cases hj)⟩
theorem from_snoc {s : St} (x : Int) (h : s.kp.length = s.ids.length) (i : Nat) : (St.mk (s.ids ++ [x]) (s.kp ++ [0]) (s.bz ++ [0])).from i = s.from i := by
  unfold St.from
  dsimp only
  rw [List.getD_eq_getElem?_getD, List.getD_eq_getElem?_getD]
  by_cases hi : i < s.kp.length
  · rw [List.getElem?_append_left hi]
  · rw [List.getElem?_append_right (by omega), List.getElem?_eq_none (l := s.kp) (by omega)]
    cases i - s.kp.length with
    | zero => rfl
    | succ n => rfl
theorem fresh_ok {s : St} (x : Int) (h : s.Ok) (hf : posI s.ids x = none) : (St.mk (s.ids ++ [x]) (s.kp ++ [0]) (s.bz ++ [0])).Ok := by
  have hfr := from_snoc (s := s) x h.lk
  have hfn : s.from s.ids.length = s.ids.length := by unfold St.from; rw [List.getD_eq_getElem?_getD, List.getElem?_eq_none (by rw [h.lk]; exact Nat.le_refl _)]; rfl
  refine ⟨?_, by simp [h.lk], by simp [h.lb], ?_, ?_⟩
  · rw [List.nodup_append]
    refine ⟨h.nd, by simp, ?_⟩
    intro a ha b hb
    simp at hb
    subst hb
    rintro rfl
    exact posI_none.1 hf ha
  · intro i hi
    rw [hfr]
    simp only [List.length_append, List.length_singleton] at hi ⊢
    by_cases he : i < s.ids.length
    · have := h.le i he; omega
    · have : i = s.ids.length := by omega
      rw [this, hfn]; omega
  · intro j hj
    simp only [List.length_append, List.length_singleton] at hj
    have hsure : ∀ i, (St.mk (s.ids ++ [x]) (s.kp ++ [0]) (s.bz ++ [0])).sure j i = s.sure j i := fun i => by unfold St.sure; rw [hfr]
    have hcov : (St.mk (s.ids ++ [x]) (s.kp ++ [0]) (s.bz ++ [0])).cov j = cntb (s.sure j) s.ids.length + if s.sure j s.ids.length then 1 else 0 := by
      unfold St.cov
      simp only [List.length_append, List.length_singleton]
      rw [cntb_congr _ (fun i _ => hsure i)]; rfl
    have hlast : s.sure j s.ids.length = false := by unfold St.sure; rw [hfn]; simp <;> omega
    rw [hcov, hlast]
    by_cases he : j < s.ids.length
    · rw [List.getElem?_append_left (by rw [h.lb]; exact he), h.ct j he]; rfl
    · have hje : j = s.ids.length := by omega
      subst hje
      rw [List.getElem?_append_right (by rw [h.lb]; exact Nat.le_refl _), h.lb, Nat.sub_self]
      rw [cntb_zero _ (fun i hi => by unfold St.sure; have := h.le i hi; simp <;> omega)]; rfl
theorem close_ok {s : St} (x : Int) (h : s.Ok) : (s.close x).Ok := by
  unfold St.close
  split
  · exact h
  · rename_i hf
    exact fresh_ok x h (by cases hp : posI s.ids x with
      | none => rfl
      | some i => rw [hp] at hf; exact absurd rfl hf)
theorem kept_ok {s : St} {x : Int} {i : Nat} (h : s.Ok) (hp : posI s.ids x = some i) : (St.mk s.ids (s.kp.set i (s.ids.length - i)) (bump (s.from i) s.bz)).Ok := by
  have hil := posI_lt hp
  have hle := h.le i hil
  have hfi : (St.mk s.ids (s.kp.set i (s.ids.length - i)) (bump (s.from i) s.bz)).from i = s.ids.length := by
    unfold St.from; dsimp only
    rw [List.getD_eq_getElem?_getD, List.getElem?_set_self (by rw [h.lk]; exact hil)]
    simp <;> omega
  have hfo : ∀ t, t ≠ i → (St.mk s.ids (s.kp.set i (s.ids.length - i)) (bump (s.from i) s.bz)).from t = s.from t := fun t ht => by
    unfold St.from; dsimp only
    rw [List.getD_eq_getElem?_getD, List.getElem?_set_ne (fun e => ht e.symm), ← List.getD_eq_getElem?_getD]
  refine ⟨h.nd, by simp [h.lk], by simp [bump_length, h.lb], ?_, ?_⟩
  · intro t ht
    by_cases e : t = i
    · subst e; rw [hfi]; exact Nat.le_refl _
    · rw [hfo t e]; exact h.le t ht
  · intro j hj
    dsimp only at hj
    rw [bump_at, h.ct j hj]
    simp only [Option.map_some]
    congr 1
    have hso : ∀ t, t ≠ i → s.sure j t = (St.mk s.ids (s.kp.set i (s.ids.length - i)) (bump (s.from i) s.bz)).sure j t := fun t ht => by unfold St.sure; rw [hfo t ht]
    by_cases hk : s.from i ≤ j
    · rw [if_pos hk]
      have h1 : s.sure j i = false := by unfold St.sure; simp <;> omega
      have h2 : (St.mk s.ids (s.kp.set i (s.ids.length - i)) (bump (s.from i) s.bz)).sure j i = true := by
        unfold St.sure; rw [hfi]
        have : i ≤ s.from i := by unfold St.from; omega
        simp <;> omega
      exact (cntb_more h1 h2 hso _ hil).symm
    · rw [if_neg hk]
      refine cntb_congr _ fun t ht => ?_
      by_cases e : t = i
      · subst e
        unfold St.sure; rw [hfi]
        have : (t ≤ j ∧ j < s.from t) ↔ (t ≤ j ∧ j < s.ids.length) := by omega
        simp only [this]
      · exact hso t e
theorem keep_ok {M : Int} {s : St} (x : Int) (h : s.Ok) : (s.keep M x).Ok := by
  unfold St.keep
  split
  · cases hp : posI s.ids x with
    | none => exact h
    | some i => exact kept_ok h hp
  · exact h
theorem can_pos {M : Int} {s : St} {x : Int} (h : s.can M x = true) : ∃ i, posI s.ids x = some i := by
  unfold St.can at h
  cases hp : posI s.ids x with
  | none => rw [hp] at h; cases h
  | some i => exact ⟨i, rfl⟩
end Go.Proofs.Ytgledbjkjpngeaa
