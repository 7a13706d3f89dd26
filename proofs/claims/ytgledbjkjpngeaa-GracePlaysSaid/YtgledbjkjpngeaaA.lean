/- Lists of sets: one more, all that are left when some are forgotten. Plain laws, with no program in sight. -/
import Derived.Test.YtgledbjkjpngeaaS
namespace Go.Proofs.Ytgledbjkjpngeaa
open Go.RowKit

theorem nd_le {α : Type} [BEq α] [LawfulBEq α] : ∀ (l m : List α), l.Nodup → (∀ x ∈ l, x ∈ m) → l.length ≤ m.length
  | [], _, _, _ => Nat.zero_le _
  | x :: l, m, hn, hs => by
    rw [List.nodup_cons] at hn
    have hx := hs x (by simp)
    have h1 := nd_le l (m.erase x) hn.2 (fun y hy => by
      have hne : y ≠ x := by rintro rfl; exact hn.1 hy
      exact (List.mem_erase_of_ne hne).2 (hs y (by simp [hy])))
    rw [List.length_erase_of_mem hx] at h1
    have : 0 < m.length := List.length_pos_of_mem hx
    simp; omega
/-- All sets of a size. -/
def allS : Nat → List (List Bool)
  | 0 => [[]]
  | n + 1 => (allS n).map (false :: ·) ++ (allS n).map (true :: ·)
theorem allS_length : ∀ n, (allS n).length = 2 ^ n
  | 0 => rfl
  | n + 1 => by unfold allS; simp [allS_length n]; omega
theorem mem_allS : ∀ (b : List Bool), b ∈ allS b.length
  | [] => by simp [allS]
  | false :: b => by unfold allS; simp [mem_allS b]
  | true :: b => by unfold allS; simp [mem_allS b]
theorem few_sets {l : List (List Bool)} {n : Nat} (h : l.Nodup) (hl : ∀ b ∈ l, b.length = n) (hn : n ≤ 7) : l.length ≤ 128 := by
  have h1 := nd_le l (allS n) h (fun b hb => by rw [← hl b hb]; exact mem_allS b)
  rw [allS_length] at h1
  have h2 : 2 ^ n ≤ 2 ^ 7 := Nat.pow_le_pow_right (by decide) hn
  omega

/-- One more, if it is not there. -/
def ins (l : List (List Bool)) (b : List Bool) : List (List Bool) := if b ∈ l then l else l ++ [b]
theorem mem_ins {l : List (List Bool)} {b x : List Bool} : x ∈ ins l b ↔ x ∈ l ∨ x = b := by
  unfold ins
  split
  · rename_i h
    constructor
    · exact .inl
    · rintro (h1 | rfl)
      · exact h1
      · exact h
  · simp
theorem nd_ins {l : List (List Bool)} (b : List Bool) (h : l.Nodup) : (ins l b).Nodup := by
  unfold ins
  split
  · exact h
  · rename_i hb
    rw [List.nodup_append]
    refine ⟨h, by simp, ?_⟩
    intro x hx y hy
    rw [List.mem_singleton.1 hy]
    rintro rfl
    exact hb hx
theorem get_ins {l : List (List Bool)} (b : List Bool) {i : Nat} (h : i < l.length) : (ins l b)[i]? = l[i]? := by
  unfold ins
  split
  · rfl
  · rw [List.getElem?_append_left h]
theorem len_ins (l : List (List Bool)) (b : List Bool) : l.length ≤ (ins l b).length ∧ (ins l b).length ≤ l.length + 1 := by
  unfold ins
  split <;> simp

/-- All of bs are there, and of the first i sets all that have one less, of the next one those for the first k. -/
structure Forg (bs out : List (List Bool)) (i k : Nat) : Prop where
  nd : out.Nodup
  sub : ∀ x ∈ out, ∃ y ∈ bs, Sub x y
  all : ∀ y ∈ bs, y ∈ out
  old : ∀ j b, j < i → out[j]? = some b → ∀ t, b.set t false ∈ out
  now : ∀ b, out[i]? = some b → ∀ t, t < k → b.set t false ∈ out
theorem Forg.len {bs out : List (List Bool)} {i k n : Nat} (h : Forg bs out i k) (hn : ∀ b ∈ bs, b.length = n) : ∀ b ∈ out, b.length = n := fun b hb => by
  obtain ⟨y, hy, hs⟩ := h.sub b hb
  rw [hs.1, hn y hy]
theorem Forg.skip {bs out : List (List Bool)} {i k : Nat} (h : Forg bs out i k) {b : List Bool} (hb : out[i]? = some b) (hk : isIn b k = false) : Forg bs out i (k + 1) := by
  refine ⟨h.nd, h.sub, h.all, h.old, fun b' hb' t ht => ?_⟩
  by_cases e : t < k
  · exact h.now b' hb' t e
  · have : t = k := by omega
    subst this
    rw [hb] at hb'
    have e := Option.some.inj hb'
    subst e
    have : b.set t false = b := isIn_ext (by simp) (fun j hj => by
      by_cases e2 : t < b.length
      · rw [isIn_set _ e2]
        split
        · rename_i e3; rw [e3, hk]
        · rfl
      · rw [List.set_eq_of_length_le (by omega)])
    rw [this]
    exact List.mem_of_getElem? hb
theorem Forg.less {bs out : List (List Bool)} {i k : Nat} (h : Forg bs out i k) {b : List Bool} (hb : out[i]? = some b) : Forg bs (ins out (b.set k false)) i (k + 1) := by
  have hi := (List.getElem?_eq_some_iff.1 hb).1
  have hbm := List.mem_of_getElem? hb
  refine ⟨nd_ins _ h.nd, fun x hx => ?_, fun y hy => mem_ins.2 (.inl (h.all y hy)), fun j b' hj hb' t => ?_, fun b' hb' t ht => ?_⟩
  · rcases mem_ins.1 hx with hx | rfl
    · exact h.sub x hx
    · obtain ⟨y, hy, hs⟩ := h.sub b hbm
      exact ⟨y, hy, (sub_less k).trans hs⟩
  · rw [get_ins _ (by omega)] at hb'
    exact mem_ins.2 (.inl (h.old j b' hj hb' t))
  · rw [get_ins _ hi] at hb'
    rw [hb] at hb'
    have e := Option.some.inj hb'
    subst e
    by_cases e : t < k
    · exact mem_ins.2 (.inl (h.now b hb t e))
    · have : t = k := by omega
      subst this
      exact mem_ins.2 (.inr rfl)
theorem Forg.next {bs out : List (List Bool)} {i k : Nat} (h : Forg bs out i k) {b : List Bool} (hb : out[i]? = some b) (hk : b.length ≤ k) : Forg bs out (i + 1) 0 := by
  refine ⟨h.nd, h.sub, h.all, fun j b' hj hb' t => ?_, fun _ _ t ht => absurd ht (by omega)⟩
  by_cases e : j < i
  · exact h.old j b' e hb' t
  · have : j = i := by omega
    subst this
    rw [hb] at hb'
    have e := Option.some.inj hb'
    subst e
    by_cases e2 : t < k
    · exact h.now b hb t e2
    · rw [List.set_eq_of_length_le (by omega)]
      exact List.mem_of_getElem? hb
theorem Forg.none {bs out : List (List Bool)} {i k : Nat} (h : Forg bs out i k) (hi : out.length ≤ i) : ∀ x, x ∈ out ↔ ∃ y ∈ bs, Sub x y := by
  intro x
  refine ⟨h.sub x, ?_⟩
  rintro ⟨y, hy, hs⟩
  have hcl : ∀ b ∈ out, ∀ t, b.set t false ∈ out := fun b hb t => by
    obtain ⟨j, hj⟩ := List.getElem?_of_mem hb
    have := (List.getElem?_eq_some_iff.1 hj).1
    exact h.old j b (by omega) hj t
  have key : ∀ m, m ≤ y.length → ∃ z ∈ out, z.length = y.length ∧ ∀ t, isIn z t = if t < m then isIn x t else isIn y t := by
    intro m
    induction m with
    | zero => intro _; exact ⟨y, h.all y hy, rfl, fun t => by rw [if_neg (by omega)]⟩
    | succ m ih =>
      intro hm
      obtain ⟨z, hz, hzl, hzt⟩ := ih (by omega)
      cases hx : isIn x m with
      | true =>
        refine ⟨z, hz, hzl, fun t => ?_⟩
        rw [hzt]
        by_cases e : t < m
        · rw [if_pos e, if_pos (by omega)]
        · rw [if_neg e]
          by_cases e2 : t = m
          · subst e2; rw [if_pos (by omega), hx, hs.2 t hx]
          · rw [if_neg (by omega)]
      | false =>
        refine ⟨z.set m false, hcl z hz m, by simp [hzl], fun t => ?_⟩
        rw [isIn_set _ (by omega)]
        by_cases e2 : t = m
        · subst e2; rw [if_pos rfl, if_pos (by omega), hx]
        · rw [if_neg e2, hzt]
          by_cases e : t < m
          · rw [if_pos e, if_pos (by omega)]
          · rw [if_neg e, if_neg (by omega)]
  obtain ⟨z, hz, hzl, hzt⟩ := key y.length (Nat.le_refl _)
  have : z = x := isIn_ext (by rw [hzl, hs.1]) (fun t ht => by rw [hzt, if_pos (by rw [← hs.1]; exact ht)])
  rw [← this]; exact hz
/-- The first loop: of the first m of bs each one is there. -/
theorem forg_start {bs out : List (List Bool)} (hn : out.Nodup) (hm : ∀ x, x ∈ out ↔ x ∈ bs) : Forg bs out 0 0 :=
  ⟨hn, fun x hx => ⟨x, (hm x).1 hx, Sub.refl x⟩, fun y hy => (hm y).2 hy, fun j _ hj => absurd hj (by omega), fun _ _ t ht => absurd ht (by omega)⟩

/-- The list tells which sets are possible. -/
def Fits (M : Int) (s : St) (bs : List (List Bool)) : Prop := bs.Nodup ∧ ∀ b, b ∈ bs ↔ s.poss M b
theorem fits_len {M : Int} {s : St} {bs : List (List Bool)} (h : Fits M s bs) : ∀ b ∈ bs, b.length = s.ids.length := fun b hb => ((h.2 b).1 hb).1
theorem fits_empty (M : Int) : Fits M .empty [[]] := ⟨by simp, fun b => by rw [poss_empty]; simp⟩
/-- What a closing makes of a set. -/
def twoOf (M : Int) (b : List Bool) : List (List Bool) := (b ++ [false]) :: (if ((sz b : Nat) : Int) < M then [b ++ [true]] else [])
theorem fits_close {M M0 : Int} {s : St} {x : Int} {bs out : List (List Bool)} (hM : M = if M0 ≤ 0 then 0 else M0) (hok : s.Ok) (hx : posI s.ids x = none) (h : Fits M s bs) (hn : out.Nodup)
    (ho : ∀ b, b ∈ out ↔ ∃ y ∈ bs.flatMap (twoOf M0), Sub b y) : Fits M (s.close x) out := by
  have hM0 : 0 ≤ M := by rw [hM]; split <;> omega
  have e : (s.close x).ids.length = s.ids.length + 1 := by unfold St.close; rw [hx]; simp
  have hy : ∀ y, y ∈ bs.flatMap (twoOf M0) ↔ (s.close x).poss M y := by
    intro y
    rw [List.mem_flatMap]
    have hlt : ∀ b : List Bool, (((sz b : Nat) : Int) < M0) ↔ (((sz b : Nat) : Int) < M) := fun b => by rw [hM]; split <;> omega
    constructor
    · rintro ⟨b, hb, hy⟩
      have hp := (h.2 b).1 hb
      unfold twoOf at hy
      rw [List.mem_cons] at hy
      rcases hy with rfl | hy
      · exact (close_poss hM0 hok hx b false hp.1).2 ⟨hp, fun h => by cases h⟩
      · split at hy
        · rename_i hs
          rw [List.mem_singleton.1 hy]
          exact (close_poss hM0 hok hx b true hp.1).2 ⟨hp, fun _ => (hlt b).1 hs⟩
        · cases hy
    · intro hp
      have hl := hp.1
      rw [e] at hl
      rcases List.eq_nil_or_concat y with rfl | ⟨b, c, rfl⟩
      · simp at hl
      · have hbl : b.length = s.ids.length := by simp at hl; exact hl
        rw [List.concat_eq_append] at hp ⊢
        obtain ⟨h1, h2⟩ := (close_poss hM0 hok hx b c hbl).1 hp
        refine ⟨b, (h.2 b).2 h1, ?_⟩
        unfold twoOf
        cases c with
        | false => simp
        | true => rw [if_pos ((hlt b).2 (h2 rfl))]; simp
  refine ⟨hn, fun b => ?_⟩
  rw [ho]
  constructor
  · rintro ⟨y, h1, h2⟩; exact poss_sub ((hy y).1 h1) h2
  · intro hp; exact ⟨b, (hy b).2 hp, Sub.refl b⟩
theorem sub_set {x y : List Bool} {i : Nat} (h : Sub x y) (hi : isIn y i = true) : Sub (x.set i true) y := by
  refine ⟨by simp [h.1], fun k hk => ?_⟩
  by_cases e : i < x.length
  · rw [isIn_set _ e] at hk
    split at hk
    · rename_i e2; rw [e2]; exact hi
    · exact h.2 k hk
  · rw [List.set_eq_of_length_le (by omega)] at hk; exact h.2 k hk
theorem set_sub {x : List Bool} {i : Nat} : Sub x (x.set i true) := by
  refine ⟨by simp, fun k hk => ?_⟩
  by_cases e : i < x.length
  · rw [isIn_set _ e]
    split
    · rfl
    · exact hk
  · rw [List.set_eq_of_length_le (by omega)]; exact hk
theorem fits_keep {M : Int} {s : St} {x : Int} {i : Nat} {bs out : List (List Bool)} (hok : s.Ok) (hp : posI s.ids x = some i) (hc : s.can M x = true) (h : Fits M s bs) (hn : out.Nodup)
    (ho : ∀ b, b ∈ out ↔ ∃ y ∈ bs.filter (fun b => isIn b i), Sub b y) : Fits M (s.keep M x) out := by
  have hil := posI_lt hp
  have e : (s.keep M x).ids = s.ids := by unfold St.keep; rw [hc, hp]; rfl
  refine ⟨hn, fun b => ?_⟩
  rw [ho]
  constructor
  · rintro ⟨y, h1, h2⟩
    rw [List.mem_filter] at h1
    have hy := (h.2 y).1 h1.1
    exact (keep_poss hok hp hc b (h2.1.trans hy.1)).2 (poss_sub hy (sub_set h2 h1.2))
  · intro hb
    have hl : b.length = s.ids.length := by rw [hb.1, e]
    have h1 := (keep_poss hok hp hc b hl).1 hb
    refine ⟨b.set i true, List.mem_filter.2 ⟨(h.2 _).2 h1, ?_⟩, set_sub⟩
    show isIn (b.set i true) i = true
    rw [isIn_set _ (by omega), if_pos rfl]
/-- Some set has a stream just if it can be kept. -/
theorem fits_can {M : Int} {s : St} {x : Int} {i : Nat} {bs : List (List Bool)} (hM : 0 ≤ M) (hok : s.Ok) (hp : posI s.ids x = some i) (h : Fits M s bs) (hb : s.base M) : bs.any (fun b => isIn b i) = s.can M x := by
  have hil := posI_lt hp
  rw [Bool.eq_iff_iff, List.any_eq_true, can_poss hok hp hb hM]
  constructor
  · rintro ⟨b, h1, h2⟩
    have hy := (h.2 b).1 h1
    refine poss_sub hy (sub_set ⟨by simp [hy.1], fun k hk => ?_⟩ h2)
    rw [isIn_none] at hk; cases hk
  · intro h1
    exact ⟨_, (h.2 _).2 h1, by rw [isIn_set _ (by simp; exact hil), if_pos rfl]⟩
end Go.Proofs.Ytgledbjkjpngeaa
