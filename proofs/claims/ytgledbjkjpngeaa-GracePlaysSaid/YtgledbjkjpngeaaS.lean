/- The sets that are possible, and lists of them. Plain laws, with no program in sight. -/
import Derived.Test.YtgledbjkjpngeaaD
namespace Go.Proofs.Ytgledbjkjpngeaa
open Go.RowKit

theorem cntb_mono {p q : Nat → Bool} : ∀ k, (∀ i, i < k → p i = true → q i = true) → cntb p k ≤ cntb q k
  | 0, _ => Nat.le_refl _
  | k + 1, h => by
    unfold cntb
    have h1 := cntb_mono k (fun i hi => h i (by omega))
    have h2 := h k (by omega)
    cases hp : p k with
    | false => simp <;> omega
    | true => rw [h2 hp]; simp <;> omega
theorem cntb_or {p q r : Nat → Bool} : ∀ k, (∀ i, i < k → r i = true → p i = true ∨ q i = true) → cntb r k ≤ cntb p k + cntb q k
  | 0, _ => Nat.le_refl _
  | k + 1, h => by
    unfold cntb
    have h1 := cntb_or k (fun i hi => h i (by omega))
    have h2 := h k (by omega)
    cases hr : r k with
    | false => simp <;> omega
    | true =>
      rcases h2 hr with e | e
      · rw [e]; simp <;> omega
      · rw [e]; simp <;> omega
theorem cntb_pos {p : Nat → Bool} {i0 : Nat} (h : p i0 = true) : ∀ k, i0 < k → 0 < cntb p k
  | 0, hk => by omega
  | k + 1, hk => by
    unfold cntb
    by_cases e : k = i0
    · subst e; rw [h]; simp
    · have := cntb_pos h k (by omega); omega

/-- Is one in a set? -/
def isIn (b : List Bool) (i : Nat) : Bool := b.getD i false
theorem isIn_some {b : List Bool} {i : Nat} {q : Bool} (h : b[i]? = some q) : isIn b i = q := by unfold isIn; rw [List.getD_eq_getElem?_getD, h]; rfl
theorem isIn_lt {b : List Bool} {i : Nat} (h : isIn b i = true) : i < b.length := by
  unfold isIn at h
  rw [List.getD_eq_getElem?_getD] at h
  cases e : b[i]? with
  | none => rw [e] at h; cases h
  | some q => exact (List.getElem?_eq_some_iff.1 e).1
theorem isIn_get {b : List Bool} {i : Nat} (h : i < b.length) : b[i]? = some (isIn b i) := by
  unfold isIn; rw [List.getD_eq_getElem?_getD, List.getElem?_eq_getElem h]; rfl
theorem isIn_set {b : List Bool} {i : Nat} (q : Bool) (h : i < b.length) (k : Nat) : isIn (b.set i q) k = if k = i then q else isIn b k := by
  unfold isIn
  rw [List.getD_eq_getElem?_getD, List.getD_eq_getElem?_getD, List.getElem?_set]
  by_cases e : k = i
  · subst e; rw [if_pos rfl, if_pos h, if_pos rfl]; rfl
  · rw [if_neg (fun e' => e e'.symm), if_neg e]
theorem isIn_snoc (b : List Bool) (q : Bool) (k : Nat) : isIn (b ++ [q]) k = if k = b.length then q else isIn b k := by
  unfold isIn
  rw [List.getD_eq_getElem?_getD, List.getD_eq_getElem?_getD, List.getElem?_append]
  by_cases e : k < b.length
  · rw [if_pos e, if_neg (by omega)]
  · rw [if_neg e]
    by_cases e2 : k = b.length
    · subst e2; simp
    · rw [if_neg e2, List.getElem?_eq_none (by simp; omega), List.getElem?_eq_none (by omega)]
theorem isIn_none (n k : Nat) : isIn (List.replicate n false) k = false := by
  cases h : isIn (List.replicate n false) k with
  | false => rfl
  | true =>
    have h1 := isIn_lt h
    have h2 := isIn_get h1
    rw [h, List.getElem?_replicate] at h2
    rw [List.length_replicate] at h1
    rw [if_pos h1] at h2
    cases h2
theorem isIn_ext {a b : List Bool} (hl : a.length = b.length) (h : ∀ k, k < b.length → isIn a k = isIn b k) : a = b := by
  apply List.ext_getElem? 
  intro k
  by_cases e : k < b.length
  · rw [isIn_get (by omega), isIn_get e, h k e]
  · rw [List.getElem?_eq_none (by omega), List.getElem?_eq_none (by omega)]
/-- How many a set has. -/
def sz (b : List Bool) : Nat := cntb (isIn b) b.length
/-- A set with no more than another. -/
def Sub (a b : List Bool) : Prop := a.length = b.length ∧ ∀ i, isIn a i = true → isIn b i = true
theorem Sub.refl (a : List Bool) : Sub a a := ⟨rfl, fun _ h => h⟩
theorem Sub.trans {a b c : List Bool} (h : Sub a b) (h1 : Sub b c) : Sub a c := ⟨h.1.trans h1.1, fun i hi => h1.2 i (h.2 i hi)⟩
theorem sub_less {b : List Bool} (t : Nat) : Sub (b.set t false) b := by
  refine ⟨by simp, fun i hi => ?_⟩
  have := isIn_lt hi
  rw [List.length_set] at this
  by_cases e : t < b.length
  · rw [isIn_set _ e] at hi
    split at hi
    · cases hi
    · exact hi
  · rwa [List.set_eq_of_length_le (by omega)] at hi

/-! ### Which sets are possible -/
def St.load (s : St) (b : List Bool) (j : Nat) : Nat := cntb (fun i => isIn b i && decide (s.from i ≤ j)) s.ids.length
def St.poss (M : Int) (s : St) (b : List Bool) : Prop := b.length = s.ids.length ∧ ∀ j, j < s.ids.length → ((s.cov j + s.load b j : Nat) : Int) ≤ M
theorem poss_sub {M : Int} {s : St} {a b : List Bool} (h : s.poss M b) (hs : Sub a b) : s.poss M a := by
  refine ⟨hs.1.trans h.1, fun j hj => ?_⟩
  have h1 := h.2 j hj
  have h2 : s.load a j ≤ s.load b j := cntb_mono _ (fun i _ hi => by
    rw [Bool.and_eq_true] at hi ⊢
    exact ⟨hs.2 i hi.1, hi.2⟩)
  omega
theorem poss_sz {M : Int} {s : St} {b : List Bool} (hM : 0 ≤ M) (h : s.poss M b) : ((sz b : Nat) : Int) ≤ M := by
  unfold sz
  rw [h.1]
  by_cases hn : s.ids.length = 0
  · rw [hn]; exact hM
  · have h1 := h.2 (s.ids.length - 1) (by omega)
    have h2 : cntb (isIn b) s.ids.length ≤ s.cov (s.ids.length - 1) + s.load b (s.ids.length - 1) := cntb_or _ (fun i hi hb => by
      by_cases e : s.from i ≤ s.ids.length - 1
      · right; rw [hb, decide_eq_true e]; rfl
      · left; unfold St.sure; exact decide_eq_true ⟨by omega, by omega⟩)
    omega
theorem poss_empty {M : Int} (b : List Bool) : St.empty.poss M b ↔ b = [] := by
  constructor
  · intro h; exact List.eq_nil_of_length_eq_zero h.1
  · rintro rfl; exact ⟨rfl, fun j hj => by cases hj⟩
theorem cntb_step {p : Nat → Bool} {k : Nat} {q : Bool} (h : p k = q) : cntb p (k + 1) = cntb p k + if q then 1 else 0 := by subst h; rfl
theorem from_end {s : St} (hok : s.Ok) : s.from s.ids.length = s.ids.length := by
  unfold St.from
  rw [List.getD_eq_getElem?_getD, List.getElem?_eq_none (by rw [hok.lk]; exact Nat.le_refl _)]; rfl
theorem close_poss {M : Int} {s : St} {x : Int} (hM : 0 ≤ M) (hok : s.Ok) (hx : posI s.ids x = none) (b : List Bool) (c : Bool) (hl : b.length = s.ids.length) :
    (s.close x).poss M (b ++ [c]) ↔ s.poss M b ∧ (c = true → ((sz b : Nat) : Int) < M) := by
  have e : s.close x = ⟨s.ids ++ [x], s.kp ++ [0], s.bz ++ [0]⟩ := by unfold St.close; rw [hx]; rfl
  obtain ⟨s', hs'⟩ : ∃ s', s' = St.mk (s.ids ++ [x]) (s.kp ++ [0]) (s.bz ++ [0]) := ⟨_, rfl⟩
  rw [e, ← hs']
  have hfr : ∀ i, s'.from i = s.from i := fun i => by rw [hs']; exact from_snoc x hok.lk i
  have hn : s'.ids.length = s.ids.length + 1 := by rw [hs']; simp
  have hcov : ∀ j, j < s.ids.length → s'.cov j = s.cov j := fun j hj => by
    unfold St.cov; rw [hn]
    have h1 : s'.sure j s.ids.length = false := by unfold St.sure; simp; omega
    rw [cntb_step h1]
    exact (cntb_congr _ (fun i _ => by unfold St.sure; rw [hfr]))
  have hcn : s'.cov s.ids.length = 0 := cntb_zero _ (fun i hi => by
    unfold St.sure; rw [hfr]
    have : s.from i ≤ s.ids.length := by
      rw [hn] at hi
      by_cases e : i < s.ids.length
      · exact hok.le i e
      · have : i = s.ids.length := by omega
        rw [this, from_end hok]; exact Nat.le_refl _
    simp; omega)
  have hload : ∀ j, j < s.ids.length → s'.load (b ++ [c]) j = s.load b j := fun j hj => by
    unfold St.load; rw [hn]
    have h1 : (isIn (b ++ [c]) s.ids.length && decide (s'.from s.ids.length ≤ j)) = false := by
      rw [hfr, from_end hok, decide_eq_false (by omega), Bool.and_false]
    rw [cntb_step h1]
    exact (cntb_congr _ (fun i hi => by rw [hfr, isIn_snoc, if_neg (by omega)]))
  have hln : s'.load (b ++ [c]) s.ids.length = sz b + if c then 1 else 0 := by
    unfold St.load; rw [hn]
    have h1 : (isIn (b ++ [c]) s.ids.length && decide (s'.from s.ids.length ≤ s.ids.length)) = c := by
      rw [hfr, from_end hok, decide_eq_true (Nat.le_refl _), Bool.and_true, isIn_snoc, if_pos hl.symm]
    rw [cntb_step h1]
    congr 1
    unfold sz
    rw [hl]
    exact (cntb_congr _ (fun i hi => by
      rw [hfr, decide_eq_true (hok.le i hi), Bool.and_true, isIn_snoc, if_neg (by omega)]))
  constructor
  · intro h
    have h3 := h.2 s.ids.length (by omega)
    rw [hcn, hln] at h3
    refine ⟨⟨hl, fun j hj => ?_⟩, fun hc => ?_⟩
    · have := h.2 j (by omega)
      rwa [hcov j hj, hload j hj] at this
    · rw [hc] at h3; simp at h3; omega
  · rintro ⟨h1, h2⟩
    refine ⟨by rw [hn]; simp [hl], fun j hj => ?_⟩
    by_cases ej : j < s.ids.length
    · rw [hcov j ej, hload j ej]; exact h1.2 j ej
    · have : j = s.ids.length := by omega
      rw [this, hcn, hln]
      have h4 := poss_sz hM h1
      cases c with
      | false => simp; exact h4
      | true => have := h2 rfl; simp; omega
theorem keep_poss {M : Int} {s : St} {x : Int} {i : Nat} (hok : s.Ok) (hp : posI s.ids x = some i) (hc : s.can M x = true) (b : List Bool) (hl : b.length = s.ids.length) :
    (s.keep M x).poss M b ↔ s.poss M (b.set i true) := by
  have hil := posI_lt hp
  have e : s.keep M x = ⟨s.ids, s.kp.set i (s.ids.length - i), bump (s.from i) s.bz⟩ := by unfold St.keep; rw [hc, hp]; rfl
  obtain ⟨s', hs'⟩ : ∃ s', s' = St.mk s.ids (s.kp.set i (s.ids.length - i)) (bump (s.from i) s.bz) := ⟨_, rfl⟩
  rw [e, ← hs']
  have hn : s'.ids = s.ids := by rw [hs']
  have hfi : s'.from i = s.ids.length := by
    rw [hs']; unfold St.from; dsimp only
    rw [List.getD_eq_getElem?_getD, List.getElem?_set_self (by rw [hok.lk]; exact hil)]
    simp <;> omega
  have hfo : ∀ k, k ≠ i → s'.from k = s.from k := fun k hk => by
    rw [hs']; unfold St.from; dsimp only
    rw [List.getD_eq_getElem?_getD, List.getElem?_set_ne (fun e => hk e.symm), List.getD_eq_getElem?_getD]
  have hib : i < b.length := by omega
  have hsum : ∀ j, j < s.ids.length → s'.cov j + s'.load b j = s.cov j + s.load (b.set i true) j := fun j hj => by
    unfold St.cov St.load
    rw [hn]
    by_cases ej : s.from i ≤ j
    · have hij : i ≤ j := by unfold St.from at ej; omega
      have h1 : cntb (s'.sure j) s.ids.length = cntb (s.sure j) s.ids.length + 1 := cntb_more (i0 := i)
        (by unfold St.sure; exact decide_eq_false (by omega)) (by unfold St.sure; rw [hfi]; exact decide_eq_true ⟨hij, hj⟩)
        (fun k hk => by unfold St.sure; rw [hfo k hk]) _ hil
      have h2 : cntb (fun k => isIn (b.set i true) k && decide (s.from k ≤ j)) s.ids.length = cntb (fun k => isIn b k && decide (s'.from k ≤ j)) s.ids.length + 1 := cntb_more (i0 := i)
        (by rw [hfi, decide_eq_false (by omega), Bool.and_false]) (by rw [isIn_set _ hib, if_pos rfl, decide_eq_true ej]; rfl)
        (fun k hk => by rw [hfo k hk, isIn_set _ hib, if_neg hk]) _ hil
      omega
    · have h1 : cntb (s'.sure j) s.ids.length = cntb (s.sure j) s.ids.length := cntb_congr _ (fun k _ => by
        unfold St.sure
        by_cases hk : k = i
        · subst hk; rw [hfi]
          by_cases h : k ≤ j
          · rw [decide_eq_true ⟨h, hj⟩, decide_eq_true ⟨h, by omega⟩]
          · rw [decide_eq_false (by omega), decide_eq_false (by omega)]
        · rw [hfo k hk])
      have h2 : cntb (fun k => isIn (b.set i true) k && decide (s.from k ≤ j)) s.ids.length = cntb (fun k => isIn b k && decide (s'.from k ≤ j)) s.ids.length := cntb_congr _ (fun k _ => by
        by_cases hk : k = i
        · subst hk; rw [hfi, decide_eq_false ej, decide_eq_false (by omega), Bool.and_false, Bool.and_false]
        · rw [hfo k hk, isIn_set _ hib, if_neg hk])
      rw [h1, h2]
  unfold St.poss
  rw [hn]
  constructor
  · intro h; exact ⟨by simp [hl], fun j hj => by rw [← hsum j hj]; exact h.2 j hj⟩
  · intro h; exact ⟨hl, fun j hj => by rw [hsum j hj]; exact h.2 j hj⟩
/-- The empty set is possible. -/
def St.base (M : Int) (s : St) : Prop := s.poss M (List.replicate s.ids.length false)
theorem can_poss {M : Int} {s : St} {x : Int} {i : Nat} (hok : s.Ok) (hp : posI s.ids x = some i) (hb : s.base M) (hM : 0 ≤ M) :
    s.can M x = true ↔ s.poss M ((List.replicate s.ids.length false).set i true) := by
  have hil := posI_lt hp
  have hir : i < (List.replicate s.ids.length false).length := by simp; exact hil
  have hfl := hok.le i hil
  have hld : ∀ j, s.from i ≤ j → 0 < s.load ((List.replicate s.ids.length false).set i true) j := fun j ej => cntb_pos (i0 := i) (by rw [isIn_set _ hir, if_pos rfl, decide_eq_true ej]; rfl) _ hil
  have hl1 : ∀ j, s.load ((List.replicate s.ids.length false).set i true) j = if s.from i ≤ j then 1 else 0 := fun j => by
    by_cases ej : s.from i ≤ j
    · rw [if_pos ej]
      have h1 : s.load ((List.replicate s.ids.length false).set i true) j = cntb (fun _ => false) s.ids.length + 1 := cntb_more (i0 := i) rfl (by rw [isIn_set _ hir, if_pos rfl, decide_eq_true ej]; rfl)
        (fun k hk => by rw [isIn_set _ hir, if_neg hk, isIn_none]; rfl) _ hil
      rw [h1, cntb_zero _ (fun _ _ => rfl)]
    · rw [if_neg ej]
      exact cntb_zero _ (fun k _ => by
        by_cases hk : k = i
        · subst hk; rw [decide_eq_false ej, Bool.and_false]
        · rw [isIn_set _ hir, if_neg hk, isIn_none]; rfl)
  unfold St.can
  rw [hp]
  dsimp only
  rw [Bool.and_eq_true, List.all_eq_true]
  constructor
  · rintro ⟨_, h2⟩
    refine ⟨by simp, fun j hj => ?_⟩
    rw [hl1]
    have h3 := hb.2 j hj
    by_cases ej : s.from i ≤ j
    · rw [if_pos ej]
      have h4 := h2 (s.cov j) (List.mem_of_getElem? (i := j - s.from i) (by rw [List.getElem?_drop, ← hok.ct j hj]; congr 1; omega))
      have h5 := of_decide_eq_true h4
      omega
    · rw [if_neg ej]; omega
  · intro h
    refine ⟨?_, fun n hn => ?_⟩
    · have h3 := h.2 i hil
      have : M ≠ 0 := by
        intro h0
        rw [h0] at h3
        by_cases ei : s.from i ≤ i
        · have := hld i ei; omega
        · have : 0 < s.cov i := cntb_pos (i0 := i) (by unfold St.sure; exact decide_eq_true ⟨Nat.le_refl _, by omega⟩) _ hil
          omega
      simp [this]
    · obtain ⟨t, ht⟩ := List.getElem?_of_mem hn
      rw [List.getElem?_drop] at ht
      have hl := (List.getElem?_eq_some_iff.1 ht).1
      rw [hok.lb] at hl
      rw [hok.ct _ hl] at ht
      have h3 := h.2 _ hl
      rw [hl1, if_pos (by omega), Option.some.inj ht] at h3
      exact decide_eq_true (by omega)
theorem base_close {M : Int} {s : St} {x : Int} (hM : 0 ≤ M) (hok : s.Ok) (hx : posI s.ids x = none) (hb : s.base M) : (s.close x).base M := by
  have h := (close_poss hM hok hx (List.replicate s.ids.length false) false (by simp)).2 ⟨hb, fun h => by cases h⟩
  have e : (s.close x).ids.length = s.ids.length + 1 := by unfold St.close; rw [hx]; simp
  unfold St.base
  rw [e, List.replicate_succ']
  exact h
theorem base_keep {M : Int} {s : St} {x : Int} {i : Nat} (hM : 0 ≤ M) (hok : s.Ok) (hp : posI s.ids x = some i) (hb : s.base M) (hc : s.can M x = true) : (s.keep M x).base M := by
  have e : (s.keep M x).ids = s.ids := by unfold St.keep; rw [hc, hp]; rfl
  unfold St.base
  rw [e]
  exact (keep_poss hok hp hc _ (by simp)).2 ((can_poss hok hp hb hM).1 hc)
end Go.Proofs.Ytgledbjkjpngeaa
