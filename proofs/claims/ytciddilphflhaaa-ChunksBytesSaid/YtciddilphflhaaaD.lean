/- Plain laws: chunks put together, and cut. -/
import Derived.Test.YtciddilphflhaaaK0
namespace Go.Proofs.Ytciddilphflhaaa

/-- A chunk: who sent it, and its bytes. -/
abbrev CL := List (Int × List Int)
/-- How many bytes all have. -/
def tot (l : CL) : Nat := (l.map fun d => d.2.length).sum
theorem tot_snoc (l : CL) (d : Int × List Int) : tot (l ++ [d]) = tot l + d.2.length := by unfold tot; simp
theorem tot_take {l : CL} {k : Nat} {d : Int × List Int} (h : l[k]? = some d) : tot (l.take (k + 1)) = tot (l.take k) + d.2.length := by
  obtain ⟨hk, e⟩ := List.getElem?_eq_some_iff.1 h
  rw [List.take_succ_eq_append_getElem hk, e, tot_snoc]
theorem tot_le (l : CL) (k : Nat) : tot (l.take k) ≤ tot l := by
  unfold tot
  conv => rhs; rw [← List.take_append_drop k l]
  rw [List.map_append, List.sum_append]
  omega
theorem tot_at {l : CL} {k : Nat} {d : Int × List Int} (h : l[k]? = some d) : d.2.length ≤ tot l := by
  have h1 := tot_take h
  have h2 := tot_le l (k + 1)
  omega

/-- One chunk behind those that are put together already. -/
def addC (out : CL) (d : Int × List Int) : CL :=
  if d.2 = [] then out else
  match out.getLast? with
  | none => [d]
  | some p => if p.1 = d.1 then out.dropLast ++ [(p.1, p.2 ++ d.2)] else out ++ [d]
def joinC (l : CL) : CL := l.foldl addC []

theorem addC_nil (out : CL) (f : Int) : addC out (f, []) = out := by unfold addC; rw [if_pos rfl]
theorem addC_same (o : CL) (f : Int) (b c : List Int) : addC (o ++ [(f, b)]) (f, c) = o ++ [(f, b ++ c)] := by
  unfold addC
  by_cases h : c = []
  · subst h; rw [if_pos rfl, List.append_nil]
  · rw [if_neg h, List.getLast?_append]
    simp
theorem addC_first {f : Int} {b : List Int} (h : b ≠ []) : addC [] (f, b) = [(f, b)] := by unfold addC; rw [if_neg h]; rfl
theorem addC_other {o : CL} {f g : Int} {b c : List Int} (hg : g ≠ f) (h : b ≠ []) : addC (o ++ [(g, c)]) (f, b) = o ++ [(g, c)] ++ [(f, b)] := by
  unfold addC
  rw [if_neg h, List.getLast?_append]
  simp [hg]
/-- Which of the three it is. -/
theorem addC_cases (out : CL) (f : Int) : (∃ o b, out = o ++ [(f, b)]) ∨ ((∀ b, b ≠ [] → addC out (f, b) = out ++ [(f, b)]) ∧ ∀ p, out.getLast? = some p → p.1 ≠ f) := by
  rcases List.eq_nil_or_concat out with rfl | ⟨o, ⟨g, c⟩, h⟩
  · exact .inr ⟨fun b hb => addC_first hb, fun p hp => by simp at hp⟩
  · rw [List.concat_eq_append] at h
    subst h
    by_cases hg : g = f
    · subst hg; exact .inl ⟨o, c, rfl⟩
    · refine .inr ⟨fun b hb => addC_other hg hb, fun p hp => ?_⟩
      rw [List.getLast?_append] at hp
      simp at hp
      subst hp
      exact hg
theorem addC_addC (out : CL) (f : Int) (b c : List Int) : addC (addC out (f, b)) (f, c) = addC out (f, b ++ c) := by
  by_cases hb : b = []
  · subst hb; rw [addC_nil, List.nil_append]
  · rcases addC_cases out f with ⟨o, d, rfl⟩ | ⟨h, _⟩
    · rw [addC_same, addC_same, addC_same, List.append_assoc]
    · rw [h b hb, addC_same, h (b ++ c) (by simp [hb])]
theorem joinC_snoc (l : CL) (d : Int × List Int) : joinC (l ++ [d]) = addC (joinC l) d := by unfold joinC; rw [List.foldl_append]; rfl
theorem joinC_take {l : CL} {k : Nat} {d : Int × List Int} (h : l[k]? = some d) : joinC (l.take (k + 1)) = addC (joinC (l.take k)) d := by
  obtain ⟨hk, e⟩ := List.getElem?_eq_some_iff.1 h
  rw [List.take_succ_eq_append_getElem hk, e, joinC_snoc]
theorem addC_tot (out : CL) (d : Int × List Int) : tot (addC out d) = tot out + d.2.length := by
  obtain ⟨f, b⟩ := d
  by_cases hb : b = []
  · subst hb; rw [addC_nil]; rfl
  · rcases addC_cases out f with ⟨o, c, rfl⟩ | ⟨h, _⟩
    · rw [addC_same, tot_snoc, tot_snoc, List.length_append]; simp; omega
    · rw [h b hb, tot_snoc]
theorem addC_len (out : CL) (d : Int × List Int) : (addC out d).length ≤ out.length + 1 := by
  obtain ⟨f, b⟩ := d
  by_cases hb : b = []
  · subst hb; rw [addC_nil]; omega
  · rcases addC_cases out f with ⟨o, c, rfl⟩ | ⟨h, _⟩
    · rw [addC_same]; simp
    · rw [h b hb]; simp
theorem snoc_ind {α : Type} {P : List α → Prop} (h0 : P []) (h1 : ∀ l a, P l → P (l ++ [a])) (l : List α) : P l := by
  have key : ∀ l : List α, P l.reverse := fun l => by
    induction l with
    | nil => exact h0
    | cons a l ih => rw [List.reverse_cons]; exact h1 _ _ ih
  have := key l.reverse
  rwa [List.reverse_reverse] at this
theorem joinC_tot (l : CL) : tot (joinC l) = tot l := by
  induction l using snoc_ind with
  | h0 => rfl
  | h1 l d ih => rw [joinC_snoc, addC_tot, ih, tot_snoc]
theorem joinC_len (l : CL) : (joinC l).length ≤ l.length := by
  induction l using snoc_ind with
  | h0 => simp [joinC]
  | h1 l d ih => rw [joinC_snoc]; have := addC_len (joinC l) d; simp; omega
/-- The last of them, and what is ahead. -/
theorem addC_last (out : CL) (f : Int) {b : List Int} (hb : b ≠ []) : ∃ o c, addC out (f, b) = o ++ [(f, c)] := by
  rcases addC_cases out f with ⟨o, c, rfl⟩ | ⟨h, _⟩
  · exact ⟨o, c ++ b, addC_same _ _ _ _⟩
  · exact ⟨out, b, h b hb⟩

/-! ### What is joined stays as it is -/
def Good (l : CL) : Prop := joinC l = l ∧ ∀ d ∈ l, d.2 ≠ []
theorem good_add {l : CL} (h : Good l) (d : Int × List Int) : Good (addC l d) := by
  obtain ⟨f, b⟩ := d
  by_cases hb : b = []
  · subst hb; rw [addC_nil]; exact h
  · rcases addC_cases l f with ⟨o, c, rfl⟩ | ⟨h1, h2⟩
    · rw [addC_same]
      have hc : c ≠ [] := h.2 (f, c) (by simp)
      refine ⟨?_, fun d hd => ?_⟩
      · have h1 := h.1
        rw [joinC_snoc] at h1
        rw [joinC_snoc, ← addC_addC, h1, addC_same]
      · rcases List.mem_append.1 hd with hd | hd
        · exact h.2 d (by simp [hd])
        · rw [List.mem_singleton.1 hd]; simp [hc]
    · rw [h1 b hb]
      refine ⟨by rw [joinC_snoc, h.1, h1 b hb], fun d hd => ?_⟩
      rcases List.mem_append.1 hd with hd | hd
      · exact h.2 d hd
      · rw [List.mem_singleton.1 hd]; exact hb
theorem joinC_good (l : CL) : Good (joinC l) := by
  induction l using snoc_ind with
  | h0 => exact ⟨rfl, fun d hd => by cases hd⟩
  | h1 l d ih => rw [joinC_snoc]; exact good_add ih d
theorem joinC_joinC (l : CL) : joinC (joinC l) = joinC l := (joinC_good l).1

/-! ### Cut, byte by byte -/
/-- The size at a place. -/
def szAt (zs : List Int) (at_ : Nat) : Nat := (max (zs.getD (at_ % zs.length) 0) 1).toNat
theorem szAt_pos (zs : List Int) (k : Nat) : 1 ≤ szAt zs k := by unfold szAt; omega
/-- One byte more in the last piece. -/
def addB (out : CL) (y : Int) : CL := match out.getLast? with
  | none => out
  | some p => out.dropLast ++ [(p.1, p.2 ++ [y])]
theorem addB_snoc (o : CL) (f : Int) (c : List Int) (y : Int) : addB (o ++ [(f, c)]) y = o ++ [(f, c ++ [y])] := by
  unfold addB
  rw [List.getLast?_append]
  simp
structure CSt where
  out : CL
  at_ : Nat
  room : Nat
def CSt.step (zs : List Int) (f : Int) (s : CSt) (y : Int) : CSt :=
  if s.room = 0 then ⟨s.out ++ [(f, [y])], s.at_ + 1, szAt zs s.at_ - 1⟩ else ⟨addB s.out y, s.at_, s.room - 1⟩
def CSt.run (zs : List Int) (f : Int) (s : CSt) (b : List Int) : CSt := b.foldl (CSt.step zs f) s
theorem run_snoc (zs : List Int) (f : Int) (s : CSt) (b : List Int) (y : Int) : s.run zs f (b ++ [y]) = (s.run zs f b).step zs f y := by unfold CSt.run; rw [List.foldl_append]; rfl
theorem run_append (zs : List Int) (f : Int) (s : CSt) (b c : List Int) : s.run zs f (b ++ c) = (s.run zs f b).run zs f c := by unfold CSt.run; rw [List.foldl_append]
/-- A whole chunk: the room left over is forgotten. -/
def CSt.chunk (zs : List Int) (s : CSt) (d : Int × List Int) : CSt := let r := s.run zs d.1 d.2; ⟨r.out, r.at_, 0⟩
def cutS (zs : List Int) (l : CL) : CSt := l.foldl (CSt.chunk zs) ⟨[], 0, 0⟩
def cutC (zs : List Int) (l : CL) : CL := (cutS zs l).out
theorem cutS_take {zs : List Int} {l : CL} {k : Nat} {d : Int × List Int} (h : l[k]? = some d) : cutS zs (l.take (k + 1)) = (cutS zs (l.take k)).chunk zs d := by
  obtain ⟨hk, e⟩ := List.getElem?_eq_some_iff.1 h
  unfold cutS
  rw [List.take_succ_eq_append_getElem hk, e, List.foldl_append]
  rfl
theorem cutS_room (zs : List Int) (l : CL) : (cutS zs l).room = 0 := by
  induction l using snoc_ind with
  | h0 => rfl
  | h1 l d ih => unfold cutS; rw [List.foldl_append]; rfl
/-- What holds while one chunk is cut: where there is room, the last piece is the chunk's. -/
def CSt.Fine (f : Int) (s : CSt) : Prop := 0 < s.room → ∃ o c, s.out = o ++ [(f, c)]
theorem step_fine {zs : List Int} {f : Int} {s : CSt} (y : Int) (h : s.Fine f) : (s.step zs f y).Fine f := by
  unfold CSt.step
  split
  · exact fun _ => ⟨s.out, [y], rfl⟩
  · rename_i hr
    obtain ⟨o, c, e⟩ := h (by omega)
    intro _
    dsimp only
    rw [e, addB_snoc]
    exact ⟨o, _, rfl⟩
theorem step_tot {zs : List Int} {f : Int} {s : CSt} (y : Int) (h : s.Fine f) : tot (s.step zs f y).out = tot s.out + 1 ∧ (s.step zs f y).out.length ≤ s.out.length + 1 ∧ joinC (s.step zs f y).out = addC (joinC s.out) (f, [y]) ∧ (s.step zs f y).at_ ≤ s.at_ + 1 := by
  unfold CSt.step
  split
  · dsimp only
    refine ⟨by rw [tot_snoc]; rfl, by simp, by rw [joinC_snoc], Nat.le_refl _⟩
  · rename_i hr
    obtain ⟨o, c, e⟩ := h (by omega)
    dsimp only
    rw [e, addB_snoc]
    refine ⟨by rw [tot_snoc, tot_snoc]; simp; omega, by simp, ?_, Nat.le_succ _⟩
    rw [joinC_snoc, joinC_snoc, addC_addC]
theorem run_all {zs : List Int} {f : Int} {s : CSt} (h : s.Fine f) (b : List Int) : (s.run zs f b).Fine f ∧ tot (s.run zs f b).out = tot s.out + b.length ∧ (s.run zs f b).out.length ≤ s.out.length + b.length ∧ joinC (s.run zs f b).out = addC (joinC s.out) (f, b) ∧ (s.run zs f b).at_ ≤ s.at_ + b.length := by
  induction b using snoc_ind with
  | h0 => exact ⟨h, rfl, Nat.le_refl _, (addC_nil _ _).symm, Nat.le_refl _⟩
  | h1 b y ih =>
    obtain ⟨h1, h2, h3, h4, h5⟩ := ih
    obtain ⟨e1, e2, e3, e4⟩ := step_tot (zs := zs) y h1
    rw [run_snoc]
    refine ⟨step_fine y h1, by rw [e1, h2]; simp; omega, by simp; omega, by rw [e3, h4, addC_addC], by simp; omega⟩
theorem fine_zero {f : Int} {s : CSt} (h : s.room = 0) : s.Fine f := fun h1 => by omega
theorem cut_all (zs : List Int) (l : CL) : tot (cutC zs l) = tot l ∧ (cutC zs l).length ≤ tot l ∧ joinC (cutC zs l) = joinC l ∧ (cutS zs l).at_ ≤ tot l := by
  induction l using snoc_ind with
  | h0 => exact ⟨rfl, Nat.le_refl _, rfl, Nat.le_refl _⟩
  | h1 l d ih =>
    have e : cutS zs (l ++ [d]) = (cutS zs l).chunk zs d := by unfold cutS; rw [List.foldl_append]; rfl
    have h := run_all (zs := zs) (fine_zero (f := d.1) (cutS_room zs l)) d.2
    unfold cutC at ih ⊢
    rw [e, tot_snoc, joinC_snoc]
    unfold CSt.chunk
    dsimp only
    obtain ⟨h1, h2, h3, h4, h5⟩ := h
    exact ⟨by rw [h2, ih.1], by omega, by rw [h4, ih.2.2.1], by omega⟩
/-- Several bytes at once, into one piece. -/
theorem run_piece {zs : List Int} {f : Int} {s : CSt} (h : s.room = 0) (b : List Int) (hb : b ≠ []) (hn : b.length ≤ szAt zs s.at_) : s.run zs f b = ⟨s.out ++ [(f, b)], s.at_ + 1, szAt zs s.at_ - b.length⟩ := by
  induction b using snoc_ind with
  | h0 => exact absurd rfl hb
  | h1 b y ih =>
    rw [run_snoc]
    simp at hn
    by_cases he : b = []
    · subst he
      unfold CSt.run CSt.step
      simp [h]
    · rw [ih he (by omega)]
      unfold CSt.step
      rw [if_neg (by dsimp only; omega)]
      dsimp only
      rw [addB_snoc]
      simp
      omega
end Go.Proofs.Ytciddilphflhaaa
