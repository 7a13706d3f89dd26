/- A roster's streams, as numbers: what may be begun, what is put in its place, what is known of a number. Plain laws, with no program in sight. -/
import Derived.Test.YtngligcjcdpnhaaA
namespace Go.Proofs.Ytngligcjcdpnhaa
open Go.RowKit
set_option linter.unusedSimpArgs false
set_option linter.unusedVariables false

/-- Where a number stands. -/
def posI : List Int → Int → Option Nat
  | [], _ => none
  | y :: l, x => if y = x then some 0 else (posI l x).map (· + 1)
theorem posI_lt : ∀ {l : List Int} {x : Int} {i : Nat}, posI l x = some i → i < l.length
  | [], x, i, h => by cases h
  | y :: l, x, i, h => by
    unfold posI at h
    split at h
    · injection h with h; subst h; simp
    · cases hp : posI l x with
      | none => rw [hp] at h; cases h
      | some j => rw [hp] at h; simp at h; subst h; have := posI_lt hp; simp <;> omega
theorem posI_get : ∀ {l : List Int} {x : Int} {i : Nat}, posI l x = some i → l[i]? = some x
  | [], x, i, h => by cases h
  | y :: l, x, i, h => by
    unfold posI at h
    split at h
    · rename_i e; injection h with h; subst h e; rfl
    · cases hp : posI l x with
      | none => rw [hp] at h; cases h
      | some j => rw [hp] at h; simp at h; subst h; have := posI_get hp; simpa using this
theorem posI_snoc : ∀ (l : List Int) (x y : Int), posI (l ++ [x]) y = match posI l y with | some i => some i | none => if x = y then some l.length else none
  | [], x, y => by
    show posI [x] y = _
    unfold posI
    split
    · rfl
    · rfl
  | z :: l, x, y => by
    show (if z = y then some 0 else (posI (l ++ [x]) y).map (· + 1)) = match (if z = y then some 0 else (posI l y).map (· + 1)) with | some i => some i | none => if x = y then some (l.length + 1) else none
    by_cases h : z = y
    · rw [if_pos h, if_pos h]
    · rw [if_neg h, if_neg h, posI_snoc l x y]
      cases hp : posI l y with
      | some i => rfl
      | none =>
        by_cases h2 : x = y
        · simp [h2]
        · simp [h2]
theorem posI_none {l : List Int} {x : Int} : posI l x = none ↔ x ∉ l := by
  induction l with
  | nil => simp [posI]
  | cons y l ih =>
    unfold posI
    by_cases h : y = x
    · subst h; simp
    · rw [if_neg h]
      have : ¬ x = y := fun e => h e.symm
      simp [ih, this]

theorem posI_first : ∀ {l : List Int} {x : Int} {k : Nat}, l[k]? = some x → (∀ j, j < k → l[j]? ≠ some x) → posI l x = some k
  | [], x, k, h, _ => by simp at h
  | y :: l, x, 0, h, _ => by simp at h; subst h; unfold posI; rw [if_pos rfl]
  | y :: l, x, k + 1, h, hn => by
    have h0 := hn 0 (by omega)
    have hne : ¬ y = x := fun e => h0 (by rw [e]; rfl)
    unfold posI
    rw [if_neg hne, posI_first (by simpa using h) (fun j hj => by simpa using hn (j + 1) (by omega))]; rfl
theorem posI_nobody {l : List Int} {x : Int} (h : ∀ j : Nat, l[j]? ≠ some x) : posI l x = none := posI_none.2 fun hm => by
  obtain ⟨j, hj⟩ := List.getElem?_of_mem hm
  exact h j hj
def atI (l : List Int) (x : Int) : Option Int := match posI l x with
  | some i => some (i : Nat)
  | none => none

/-- A stream: its number, its state, its window. -/
structure Sm where
  id : Int
  k : Int
  o : Int
  a : Bool
  b : Bool
  y : Int
  cx : Nat
  cy : Nat
/-- A state. -/
structure Stt where
  k : Int
  o : Int
  a : Bool
  b : Bool
  y : Int
def Sm.st (m : Sm) : Stt := ⟨m.k, m.o, m.a, m.b, m.y⟩
def Stt.zero : Stt := ⟨0, 0, false, false, 0⟩
def ids (l : List Sm) : List Int := l.map Sm.id
theorem ids_length (l : List Sm) : (ids l).length = l.length := by unfold ids; simp
theorem ids_snoc (l : List Sm) (m : Sm) : ids (l ++ [m]) = ids l ++ [m.id] := by unfold ids; simp
theorem ids_get {l : List Sm} {i : Nat} {m : Sm} (h : l[i]? = some m) : (ids l)[i]? = some m.id := by unfold ids; rw [List.getElem?_map, h]; rfl
theorem ids_set {l : List Sm} {i : Nat} {m : Sm} (h : (ids l)[i]? = some m.id) : ids (l.set i m) = ids l := by
  unfold ids at h ⊢
  rw [List.map_set]
  apply List.ext_getElem?
  intro j
  rw [List.getElem?_set]
  by_cases e : i = j
  · subst e
    rw [if_pos rfl, if_pos (List.getElem?_eq_some_iff.1 h).1, h]
  · rw [if_neg e]
/-- Who may begin a stream. -/
def ownK (id : Int) : Bool := decide (1 ≤ id) && decide (id ≤ 2147483647)
def ownO (id : Int) : Int := if ownK id = true then 1 - id % 2 else 0
theorem ownK_iff (id : Int) : ownK id = true ↔ 1 ≤ id ∧ id ≤ 2147483647 := by unfold ownK; simp
theorem ownO_two (id : Int) : ownO id = 0 ∨ ownO id = 1 := by
  unfold ownO
  split <;> omega
def mayS (m : Sm) : Bool := (ownK m.id && rightS m.k m.o m.a m.b m.y) && (decide (2 ≤ m.k) && decide (m.o = ownO m.id))
theorem may_iff {m : Sm} (h : mayS m = true) : ownK m.id = true ∧ rightS m.k m.o m.a m.b m.y = true ∧ 2 ≤ m.k ∧ m.o = ownO m.id := by
  unfold mayS at h
  simp only [Bool.and_eq_true, decide_eq_true_eq] at h
  exact ⟨h.1.1, h.1.2, h.2.1, h.2.2⟩
/-- The greatest number of an owner. -/
def lastI (l : List Int) (side : Int) : Int := l.foldl (fun n x => if ownO x = side then max n x else n) 0
def lastL (l : List Sm) (side : Int) : Int := lastI (ids l) side
theorem lastI_snoc (l : List Int) (x side : Int) : lastI (l ++ [x]) side = if ownO x = side then max (lastI l side) x else lastI l side := by
  unfold lastI; rw [List.foldl_append]; rfl
theorem lastL_nil (side : Int) : lastL [] side = 0 := rfl
theorem lastL_snoc (l : List Sm) (m : Sm) (side : Int) : lastL (l ++ [m]) side = if ownO m.id = side then max (lastL l side) m.id else lastL l side := by
  unfold lastL; rw [ids_snoc, lastI_snoc]
theorem lastL_set {l : List Sm} {i : Nat} {m : Sm} (h : (ids l)[i]? = some m.id) (side : Int) : lastL (l.set i m) side = lastL l side := by
  unfold lastL; rw [ids_set h]
theorem lastL_take {l : List Sm} {k : Nat} {m : Sm} (h : l[k]? = some m) (side : Int) : lastL (l.take (k + 1)) side = if ownO m.id = side then max (lastL (l.take k) side) m.id else lastL (l.take k) side := by
  rw [List.take_add_one, h]
  exact lastL_snoc _ _ _
theorem foldl_mono : ∀ (l : List Int) (side n : Int), n ≤ l.foldl (fun n x => if ownO x = side then max n x else n) n
  | [], _, n => Int.le_refl n
  | x :: l, side, n => by
    show n ≤ l.foldl _ (if ownO x = side then max n x else n)
    have h := foldl_mono l side (if ownO x = side then max n x else n)
    split at h
    · rename_i e; rw [if_pos e]; have := Int.le_max_left n x; omega
    · rename_i e; rw [if_neg e]; exact h
theorem lastI_nonneg (l : List Int) (side : Int) : 0 ≤ lastI l side := foldl_mono l side 0
theorem lastL_nonneg (l : List Sm) (side : Int) : 0 ≤ lastL l side := lastI_nonneg _ _
theorem lastL_out (l : List Sm) (side : Int) (h0 : side ≠ 0) (h1 : side ≠ 1) : lastL l side = 0 := by
  unfold lastL lastI
  induction ids l with
  | nil => rfl
  | cons x l ih =>
    have h2 := ownO_two x
    show l.foldl _ (if ownO x = side then max 0 x else 0) = 0
    rw [if_neg (by omega)]; exact ih
theorem foldl_le : ∀ (l : List Int) (side n x : Int), x ∈ l → ownO x = side → x ≤ l.foldl (fun n x => if ownO x = side then max n x else n) n
  | [], _, _, _, h, _ => by cases h
  | z :: l, side, n, x, h, ho => by
    show x ≤ l.foldl _ (if ownO z = side then max n z else n)
    rcases List.mem_cons.1 h with h | h
    · subst h
      rw [if_pos ho]
      have := foldl_mono l side (max n x)
      have := Int.le_max_right n x
      omega
    · exact foldl_le l side _ x h ho
theorem lastL_le {l : List Sm} {x : Int} (h : x ∈ ids l) : x ≤ lastL l (ownO x) := foldl_le _ _ _ _ h rfl
theorem lastI_top (l : List Int) (side M : Int) (hM : 0 ≤ M) (h : ∀ x ∈ l, x ≤ M) : lastI l side ≤ M := by
  unfold lastI
  have : ∀ (l : List Int) (n : Int), n ≤ M → (∀ x ∈ l, x ≤ M) → l.foldl (fun n x => if ownO x = side then max n x else n) n ≤ M := by
    intro l
    induction l with
    | nil => intro n h _; exact h
    | cons x l ih =>
      intro n hn hl
      refine ih _ ?_ (fun z hz => hl z (List.mem_cons_of_mem _ hz))
      have := hl x (List.mem_cons_self ..)
      dsimp only
      split <;> omega
  exact this l 0 hM h

/-- How many are open. -/
def opn (side : Int) (m : Sm) : Bool := decide (m.k = 3) && decide (m.o = side)
def activeL (l : List Sm) (side : Int) : Nat := l.countP (opn side)
theorem activeL_take {l : List Sm} {k : Nat} {m : Sm} (h : l[k]? = some m) (side : Int) : activeL (l.take (k + 1)) side = if opn side m = true then activeL (l.take k) side + 1 else activeL (l.take k) side := by
  rw [List.take_add_one, h]
  unfold activeL
  rw [List.countP_append]
  show _ + List.countP (opn side) [m] = _
  rw [List.countP_cons, List.countP_nil]
  split <;> rfl
theorem activeL_le (l : List Sm) (side : Int) : activeL l side ≤ l.length := List.countP_le_length

/-- What is known of a number. -/
def stateL (l : List Sm) (id : Int) : Stt := match posI (ids l) id with
  | some i => (l.getD i ⟨0, 0, 0, false, false, 0, 0, 0⟩).st
  | none => if ownK id = true then (if id < lastL l (ownO id) then ⟨1, ownO id, false, false, 0⟩ else ⟨0, ownO id, false, false, 0⟩) else .zero
theorem stateL_some {l : List Sm} {id : Int} {i : Nat} {m : Sm} (h : posI (ids l) id = some i) (hm : l[i]? = some m) : stateL l id = m.st := by
  unfold stateL; rw [h]
  show (l.getD i _).st = _
  rw [List.getD_eq_getElem?_getD, hm]; rfl
theorem stateL_none {l : List Sm} {id : Int} (h : posI (ids l) id = none) : stateL l id = if ownK id = true then (if id < lastL l (ownO id) then ⟨1, ownO id, false, false, 0⟩ else ⟨0, ownO id, false, false, 0⟩) else .zero := by
  unfold stateL; rw [h]

/-- May it be begun? -/
def canB (l : List Sm) (m : Sm) : Bool := mayS m && decide (lastL l (ownO m.id) < m.id)
def begE (l : List Sm) (m : Sm) (most : Int) : Int := if canB l m = true then (if (l.length : Int) < most then 0 else 6) else 1
def begL (l : List Sm) (m : Sm) (most : Int) : List Sm := if canB l m = true ∧ (l.length : Int) < most then l ++ [m] else l
def setB (l : List Sm) (m : Sm) : Bool := (posI (ids l) m.id).isSome && mayS m
def setL (l : List Sm) (m : Sm) : List Sm := if mayS m = true then (match posI (ids l) m.id with | some i => l.set i m | none => l) else l

/-- What the list of a roster is. -/
structure Ok (l : List Sm) : Prop where
  may : ∀ m ∈ l, mayS m = true
  nd : (ids l).Nodup
theorem Ok.nil : Ok [] := ⟨fun _ h => (by cases h), List.nodup_nil⟩
theorem Ok.own {l : List Sm} (h : Ok l) {x : Int} (hx : x ∈ ids l) : ownK x = true := by
  unfold ids at hx
  obtain ⟨m, hm, rfl⟩ := List.mem_map.1 hx
  exact (may_iff (h.may m hm)).1
theorem Ok.top {l : List Sm} (h : Ok l) (side : Int) : lastL l side ≤ 2147483647 := lastI_top _ _ _ (by omega) fun x hx => ((ownK_iff x).1 (h.own hx)).2
theorem Ok.pos {l : List Sm} (h : Ok l) {i : Nat} {m : Sm} (hm : l[i]? = some m) : posI (ids l) m.id = some i := by
  refine posI_first (ids_get hm) fun j hj e => ?_
  have h1 := ids_get hm
  obtain ⟨h2, h3⟩ := List.getElem?_eq_some_iff.1 h1
  obtain ⟨h4, h5⟩ := List.getElem?_eq_some_iff.1 e
  have := (List.nodup_iff_pairwise_ne.1 h.nd)
  have h6 := List.pairwise_iff_getElem.1 this j i h4 h2 hj
  exact h6 (h5.trans h3.symm)
theorem fresh {l : List Sm} {m : Sm} (h : lastL l (ownO m.id) < m.id) : m.id ∉ ids l := fun hm => by
  have := lastL_le hm
  omega
theorem canB_iff {l : List Sm} {m : Sm} (h : canB l m = true) : mayS m = true ∧ lastL l (ownO m.id) < m.id := by
  unfold canB at h
  simpa using h
theorem Ok.snoc {l : List Sm} {m : Sm} (h : Ok l) (hc : canB l m = true) : Ok (l ++ [m]) := by
  obtain ⟨h1, h2⟩ := canB_iff hc
  refine ⟨fun z hz => ?_, ?_⟩
  · rcases List.mem_append.1 hz with hz | hz
    · exact h.may z hz
    · rw [List.mem_singleton.1 hz]; exact h1
  · rw [ids_snoc, List.nodup_append]
    refine ⟨h.nd, by simp, fun a ha b hb => ?_⟩
    rw [List.mem_singleton.1 hb]
    intro e
    exact fresh h2 (e ▸ ha)
theorem Ok.beg {l : List Sm} (h : Ok l) (m : Sm) (most : Int) : Ok (begL l m most) := by
  unfold begL
  split
  · rename_i hc; exact h.snoc hc.1
  · exact h
theorem Ok.set {l : List Sm} {m : Sm} {i : Nat} (h : Ok l) (hm : mayS m = true) (hi : posI (ids l) m.id = some i) : Ok (l.set i m) := by
  refine ⟨fun z hz => ?_, ?_⟩
  · rcases List.mem_or_eq_of_mem_set hz with hz | hz
    · exact h.may z hz
    · rw [hz]; exact hm
  · rw [ids_set (posI_get hi)]; exact h.nd
theorem Ok.setL {l : List Sm} (h : Ok l) (m : Sm) : Ok (setL l m) := by
  unfold Proofs.Ytngligcjcdpnhaa.setL
  split
  · rename_i hm
    split
    · rename_i i hi; exact h.set hm hi
    · exact h
  · exact h
theorem begL_length (l : List Sm) (m : Sm) (most : Int) : (begL l m most).length ≤ l.length + 1 := by
  unfold begL; split <;> simp
theorem setL_length (l : List Sm) (m : Sm) : (setL l m).length = l.length := by
  unfold setL
  split
  · split <;> simp
  · rfl
theorem at_snoc {l : List Sm} {m : Sm} {n : Nat} (hp : m.id ∉ ids l) (hn : l.length = n) (y : Int) : (if y = m.id then some (n : Int) else atI (ids l) y) = atI (ids (l ++ [m])) y := by
  unfold atI
  rw [ids_snoc, posI_snoc, ids_length, hn]
  by_cases e : y = m.id
  · subst e
    rw [if_pos rfl, posI_none.2 hp]; simp
  · rw [if_neg e]
    cases hq : posI (ids l) y with
    | some i => rfl
    | none => simp [Ne.symm e]
end Go.Proofs.Ytngligcjcdpnhaa
