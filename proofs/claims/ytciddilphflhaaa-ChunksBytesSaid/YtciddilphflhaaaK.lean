/- Lists of chunks in memory: seen, and the call's own. -/
import Derived.Test.YtciddilphflhaaaD
import Derived.Test.YtciddilphflhaaaProg
namespace Go.Proofs.Ytciddilphflhaaa
open Go.RowKit

theorem info33 : (Try.prog.info? 33).map (fun i => (i.zero, i.size, i.bytes)) = some (some (.agg #[.int .i64 0, .slice none 0 0]), 2, 32) := by kernel_rfl
theorem info5 : (Try.prog.info? 5).map (fun i => (i.zero, i.size, i.bytes)) = some (some (.int .u8 0), 1, 1) := by kernel_rfl

/-- A list of chunks, as it is seen. -/
def Chunks (w : World) (A : Option Addr) (l : CL) : Prop :=
  ∀ i f b, l[i]? = some (f, b) → ∃ g o B c, A = some ⟨g, o, none⟩ ∧ w.cell? ⟨g, o + i * 2, none⟩ = some (.int .i64 f) ∧ w.cell? ⟨g, o + i * 2 + 1, none⟩ = some (.slice B b.length c) ∧ (B = none → b.length = 0 ∧ c = 0) ∧ b.length ≤ c ∧ Sees w B (b.map (Value.int .u8))
theorem Chunks.kept {w w' : World} {A : Option Addr} {l : CL} (h : Chunks w A l) (hb : Below w.heap.size w w') : Chunks w' A l := fun i f b hi => by
  obtain ⟨g, o, B, c, e, c0, c1, hn, hc, hs⟩ := h i f b hi
  have hg : g < w.heap.size := World.block_lt_of_cell? w _ c0
  exact ⟨g, o, B, c, e, (hb.cell (p := ⟨g, o + i * 2, none⟩) hg).trans c0, (hb.cell (p := ⟨g, o + i * 2 + 1, none⟩) hg).trans c1, hn, hc, hs.kept hb⟩
theorem Chunks.nil (w : World) (A : Option Addr) : Chunks w A [] := fun i f b h => by simp at h

/-! ### The call's own -/
/-- The heads of chunks: who, and the slice of bytes. -/
abbrev HL := List (Int × Value)
def cellsC (hs : HL) : List Value := hs.flatMap fun p => [.int .i64 p.1, p.2]
theorem cellsC_snoc (hs : HL) (p : Int × Value) : cellsC (hs ++ [p]) = cellsC hs ++ [.int .i64 p.1, p.2] := by unfold cellsC; simp
theorem cellsC_length (hs : HL) : (cellsC hs).length = hs.length * 2 := by
  induction hs with
  | nil => rfl
  | cons p t ih => unfold cellsC at ih ⊢; rw [List.flatMap_cons, List.length_append, ih]; simp; omega
theorem cellsC_get : ∀ {hs : HL} {i : Nat} {p : Int × Value}, hs[i]? = some p → (cellsC hs)[i * 2]? = some (.int .i64 p.1) ∧ (cellsC hs)[i * 2 + 1]? = some p.2
  | q :: t, 0, p, h => by simp at h; subst h; exact ⟨rfl, rfl⟩
  | q :: t, i + 1, p, h => by
    have := cellsC_get (hs := t) (i := i) (p := p) (by simpa using h)
    unfold cellsC at this ⊢
    rw [List.flatMap_cons]
    have e1 : (i + 1) * 2 = i * 2 + 2 := by omega
    rw [e1]
    exact this
theorem cellsC_set (hs : HL) (f : Int) (v v' : Value) : (cellsC (hs ++ [(f, v)])).set (hs.length * 2 + 1) v' = cellsC (hs ++ [(f, v')]) := by
  rw [cellsC_snoc, cellsC_snoc, List.set_append]
  rw [if_neg (by rw [cellsC_length]; omega), cellsC_length]
  have e : hs.length * 2 + 1 - hs.length * 2 = 1 := by omega
  rw [e]
  rfl

/-- Each head's slice is a row of the call's own. -/
def RowsC (w : World) (base : Nat) (hs : HL) (l : CL) : Prop :=
  hs.length = l.length ∧ ∀ (i : Nat) (p : Int × Value) (d : Int × List Int), hs[i]? = some p → l[i]? = some d → p.1 = d.1 ∧ w.ownsRow base 5 1 p.2 d.2.length (d.2.map (Value.int .u8))
theorem RowsC.nil (w : World) (base : Nat) : RowsC w base [] [] := ⟨rfl, fun i p d h => by simp at h⟩
theorem RowsC.snoc {w : World} {base : Nat} {hs : HL} {l : CL} {f : Int} {v : Value} {b : List Int} (h : RowsC w base hs l) (hv : w.ownsRow base 5 1 v b.length (b.map (Value.int .u8))) : RowsC w base (hs ++ [(f, v)]) (l ++ [(f, b)]) := by
  refine ⟨by simp [h.1], fun i p d hp hd => ?_⟩
  by_cases hi : i < hs.length
  · rw [List.getElem?_append_left hi] at hp
    rw [List.getElem?_append_left (by rw [← h.1]; exact hi)] at hd
    exact h.2 i p d hp hd
  · have hlt := (List.getElem?_eq_some_iff.1 hp).1
    simp at hlt
    obtain rfl : i = hs.length := by omega
    rw [List.getElem?_append_right (Nat.le_refl _), Nat.sub_self] at hp
    rw [h.1, List.getElem?_append_right (Nat.le_refl _), Nat.sub_self] at hd
    simp at hp hd
    subst hp hd
    exact ⟨rfl, hv⟩
theorem RowsC.init {w : World} {base : Nat} {hs : HL} {l : CL} {p : Int × Value} {d : Int × List Int} (h : RowsC w base (hs ++ [p]) (l ++ [d])) : RowsC w base hs l ∧ p.1 = d.1 ∧ w.ownsRow base 5 1 p.2 d.2.length (d.2.map (Value.int .u8)) := by
  have hl : hs.length = l.length := by have := h.1; simp at this; exact this
  refine ⟨⟨hl, fun i p' d' hp hd => ?_⟩, ?_⟩
  · have h1 := (List.getElem?_eq_some_iff.1 hp).1
    exact h.2 i p' d' (by rw [List.getElem?_append_left h1]; exact hp) (by rw [List.getElem?_append_left (by omega)]; exact hd)
  · exact h.2 hs.length p d (by rw [List.getElem?_append_right (Nat.le_refl _)]; simp) (by rw [List.getElem?_append_right (by omega), hl]; simp)
theorem RowsC.map {w w' : World} {base : Nat} {hs : HL} {l : CL} (h : RowsC w base hs l) (hm : ∀ p ∈ hs, ∀ n xs, w.ownsRow base 5 1 p.2 n xs → w'.ownsRow base 5 1 p.2 n xs) : RowsC w' base hs l :=
  ⟨h.1, fun i p d hp hd => ⟨(h.2 i p d hp hd).1, hm p (List.mem_of_getElem? hp) _ _ (h.2 i p d hp hd).2⟩⟩
/-- Every head's block is there already. -/
theorem RowsC.at_head {w : World} {base : Nat} {hs : HL} {l : CL} (h : RowsC w base hs l) {p : Int × Value} (hp : p ∈ hs) : ∃ n xs, w.ownsRow base 5 1 p.2 n xs := by
  obtain ⟨i, hi⟩ := List.getElem?_of_mem hp
  have h1 := (List.getElem?_eq_some_iff.1 hi).1
  exact ⟨_, _, (h.2 i p (l[i]'(by rw [← h.1]; exact h1)) hi (by rw [List.getElem?_eq_getElem (by rw [← h.1]; exact h1)])).2⟩

/-- Two rows of different elements are two blocks. -/
theorem own_types {w : World} {base base' e e' z z' n n' : Nat} {v v' : Value} {xs xs' : List Value} (h : w.ownsRow base e z v n xs) (h' : w.ownsRow base' e' z' v' n' xs') (he : e ≠ e') : v.ownBlock = none ∨ v.ownBlock ≠ v'.ownBlock := by
  rcases h.2 with ⟨rfl, _⟩ | ⟨g, cap, cur, rfl, _, hg, _⟩
  · exact .inl rfl
  · refine .inr fun hb => ?_
    rcases h'.2 with ⟨rfl, _⟩ | ⟨g', cap', cur', rfl, _, hg', _⟩
    · cases hb
    · have : g = g' := by simpa [Value.ownBlock] using hb
      subst this
      rw [hg] at hg'
      injection hg' with hg'
      injection hg' with _ e1
      exact he e1

structure OwnC (base : Nat) (w : World) (A : Option Addr) (n c : Nat) (hs : HL) (l : CL) : Prop where
  own : w.ownsRow base 33 2 (.slice A n c) n (cellsC hs)
  num : l.length = n
  rows : RowsC w base hs l
  apart : (hs.map (·.2)).Pairwise fun v v' => ∀ g, v.ownBlock = some g → v'.ownBlock ≠ some g
section
variable {base : Nat} {w w' : World} {A : Option Addr} {n c : Nat} {hs : HL} {l : CL}
theorem OwnC.nil (base : Nat) (w : World) : OwnC base w none 0 0 [] [] := ⟨World.ownsRow_nil _ _ _ _, rfl, RowsC.nil _ _, List.Pairwise.nil⟩
theorem OwnC.kept (h : OwnC base w A n c hs l) (hb : Below w.heap.size w w') : OwnC base w' A n c hs l :=
  ⟨own_kept h.own hb, h.num, h.rows.map fun p _ n xs hp => own_kept hp hb, h.apart⟩
/-- The element behind the others. -/
theorem OwnC.push {w1 w2 : World} {A' : Option Addr} {c' : Nat} {f : Int} {v : Value} {b : List Int} (h : OwnC base w A n c hs l) (hk : Below w.heap.size w w1) (hv : w1.ownsRow base 5 1 v b.length (b.map (Value.int .u8))) (hn : ∀ g, v.ownBlock = some g → w.heap.size ≤ g)
    (ho : w2.ownsRow base 33 2 (.slice A' (n + 1) c') (n + 1) (cellsC hs ++ [.int .i64 f, v])) (hg : w1.grownBy w2 (Value.slice A n c).ownBlock) : OwnC base w2 A' (n + 1) c' (hs ++ [(f, v)]) (l ++ [(f, b)]) := by
  have h1 := h.kept hk
  refine ⟨by rw [cellsC_snoc]; exact ho, by rw [List.length_append, h.num]; rfl, ?_, ?_⟩
  · refine RowsC.snoc ?_ ?_
    · exact h1.rows.map fun p hp n xs hr => hr.kept hg (own_types hr h1.own (by decide))
    · exact hv.kept hg (own_types hv h1.own (by decide))
  · rw [List.map_append, List.pairwise_append]
    refine ⟨h.apart, by simp, fun a ha b' hb' g hga => ?_⟩
    simp at hb'
    subst hb'
    intro hgb
    obtain ⟨p, hp, rfl⟩ := List.mem_map.1 ha
    obtain ⟨m, xs, hr⟩ := h.rows.at_head hp
    have e1 := (hr.lt g hga).2
    have e2 := hn g hgb
    omega
end
/-- What is known of the last. -/
theorem OwnC.last {base : Nat} {w : World} {A : Option Addr} {n c : Nat} {hs : HL} {l0 : CL} {f : Int} {b : List Int} (h : OwnC base w A n c hs (l0 ++ [(f, b)])) :
    ∃ hs0 B cb g, hs = hs0 ++ [(f, .slice B b.length cb)] ∧ hs0.length = l0.length ∧ n = l0.length + 1 ∧ A = some ⟨g, 0, none⟩ ∧ w.cell? ⟨g, l0.length * 2, none⟩ = some (.int .i64 f) ∧ w.cell? ⟨g, l0.length * 2 + 1, none⟩ = some (.slice B b.length cb) ∧ w.frozen? ⟨g, l0.length * 2 + 1, none⟩ = false ∧ w.ownsRow base 5 1 (.slice B b.length cb) b.length (b.map (Value.int .u8)) ∧ base ≤ g := by
  have hn := h.num
  have hl := h.rows.1
  rcases List.eq_nil_or_concat hs with rfl | ⟨hs0, p, e⟩
  · simp at hl
  · rw [List.concat_eq_append] at e
    subst e
    obtain ⟨f', v⟩ := p
    obtain ⟨h1, h2, h3⟩ := h.rows.init
    dsimp only at h2 h3
    subst h2
    obtain ⟨B, cb, rfl⟩ := own_form h3
    simp at hn hl
    obtain ⟨g, cap, cur, he, hb, hgg, _⟩ : ∃ g cap cur, Value.slice A n c = .slice (some ⟨g, 0, none⟩) n cap ∧ base ≤ g ∧ w.heap[g]? = some (.cells cur 33 (0, 0)) ∧ True := by
      rcases h.own.2 with ⟨_, h0⟩ | ⟨g, cap, cur, he, hb, hg, _⟩
      · omega
      · exact ⟨g, cap, cur, he, hb, hg, trivial⟩
    injection he with e1 e2 e3
    subst e1 e3
    obtain ⟨c0, c1⟩ := cellsC_get (hs := hs0 ++ [(f', Value.slice B b.length cb)]) (i := l0.length) (p := (f', Value.slice B b.length cb)) (by rw [← hl, List.getElem?_append_right (Nat.le_refl _)]; simp)
    refine ⟨hs0, B, cb, g, rfl, hl, hn.symm, rfl, ?_, ?_, h.own.frozenAt _, h3, hb⟩
    · rw [h.own.cellAt _ (by omega)]; exact c0
    · rw [h.own.cellAt _ (by omega)]; exact c1
/-- Bytes behind the last one's, and the new slice stored. -/
theorem OwnC.more {base : Nat} {w w1 w2 : World} {g n c m g' c' : Nat} {hs0 : HL} {l0 : CL} {f : Int} {b e : List Int} {B : Option Addr} {cb : Nat} (h : OwnC base w (some ⟨g, 0, none⟩) n c (hs0 ++ [(f, .slice B b.length cb)]) (l0 ++ [(f, b)])) (hl : hs0.length = l0.length) (hk : Below w.heap.size w w1)
    (hv : w2.ownsRow base 5 1 (.slice (some ⟨g', 0, none⟩) m c') m ((b ++ e).map (Value.int .u8))) (hm : m = (b ++ e).length) (hg : w1.grownBy w2 (Value.slice B b.length cb).ownBlock) (hat : (Value.slice B b.length cb).ownBlock = some g' ∨ g' = w1.heap.size) :
    OwnC base (w2.setCell ⟨g, l0.length * 2 + 1, none⟩ (.slice (some ⟨g', 0, none⟩) m c')) (some ⟨g, 0, none⟩) n c (hs0 ++ [(f, .slice (some ⟨g', 0, none⟩) m c')]) (l0 ++ [(f, b ++ e)]) := by
  subst hm
  have h1 := h.kept hk
  obtain ⟨r0, _, r2⟩ := h1.rows.init
  have hown : w2.ownsRow base 33 2 (.slice (some ⟨g, 0, none⟩) n c) n (cellsC (hs0 ++ [(f, .slice B b.length cb)])) := h1.own.kept hg (by
    rcases own_types h1.own r2 (by decide) with h2 | h2
    · cases h2
    · exact .inr h2)
  have hap := h.apart
  rw [List.map_append, List.pairwise_append] at hap
  obtain ⟨a1, _, a2⟩ := hap
  have hrow2 : RowsC w2 base hs0 l0 := r0.map fun p hp n xs hr => hr.kept hg (by
    cases hpb : p.2.ownBlock with
    | none => exact .inl rfl
    | some k => exact .inr fun e => a2 p.2 (List.mem_map.2 ⟨p, hp, rfl⟩) _ (List.mem_singleton.2 rfl) k hpb e.symm)
  obtain ⟨s1, s2⟩ := hown.stored (l0.length * 2 + 1) (.slice (some ⟨g', 0, none⟩) (b ++ e).length c')
  rw [← hl, cellsC_set] at s1
  rw [hl] at s1
  refine ⟨s1, ?_, ?_, ?_⟩
  · have := h.num; simp at this ⊢; exact this
  · refine RowsC.snoc (f := f) ?_ ?_
    · exact hrow2.map fun p _ n xs hr => hr.kept s2 (by
        rcases own_types hr hown (by decide) with h3 | h3
        · exact .inl h3
        · exact .inr h3)
    · exact hv.kept s2 (by
        rcases own_types hv hown (by decide) with h3 | h3
        · exact .inl h3
        · exact .inr h3)
  · rw [List.map_append, List.pairwise_append]
    refine ⟨a1, by simp, fun x hx y hy k hk1 hk2 => ?_⟩
    simp at hy
    subst hy
    have e1 : g' = k := by simpa [Value.ownBlock] using hk2
    subst e1
    rcases hat with h3 | h3
    · exact a2 x hx _ (List.mem_singleton.2 rfl) g' hk1 h3
    · obtain ⟨p, hp, rfl⟩ := List.mem_map.1 hx
      obtain ⟨m, xs, hr⟩ := r0.at_head hp
      have := (hr.lt g' hk1).2
      omega
/-- As it is seen. -/
theorem OwnC.chunks {base : Nat} {w : World} {A : Option Addr} {n c : Nat} {hs : HL} {l : CL} (h : OwnC base w A n c hs l) : Chunks w A l := fun i f b hi => by
  have hil := (List.getElem?_eq_some_iff.1 hi).1
  have hn := h.num
  have hhl := h.rows.1
  obtain ⟨p, hp⟩ : ∃ p, hs[i]? = some p := ⟨_, List.getElem?_eq_getElem (by omega)⟩
  obtain ⟨h1, h2⟩ := h.rows.2 i p (f, b) hp hi
  dsimp only at h1 h2
  obtain ⟨c0, c1⟩ := cellsC_get hp
  obtain ⟨g, cap, he⟩ : ∃ g cap, Value.slice A n c = .slice (some ⟨g, 0, none⟩) n cap := by
    rcases h.own.2 with ⟨_, h0⟩ | ⟨g, cap, cur, he, _⟩
    · omega
    · exact ⟨g, cap, he⟩
  injection he with e1 e2 e3
  subst e1 e3
  obtain ⟨B, cb, hv⟩ := own_form h2
  rw [hv] at h2 c1
  rw [h1] at c0
  refine ⟨g, 0, B, cb, rfl, ?_, ?_, ?_, ?_, Sees.of_own h2⟩
  · rw [Nat.zero_add, h.own.cellAt _ (by omega)]; exact c0
  · rw [Nat.zero_add, h.own.cellAt _ (by omega)]; exact c1
  · rintro rfl
    rcases h2.2 with ⟨e1, e2⟩ | ⟨g, cap, cur, e1, _⟩
    · injection e1 with _ e3 e4
      exact ⟨e3, e4⟩
    · injection e1 with e2; cases e2
  · rcases h2.2 with ⟨e1, e2⟩ | ⟨g, cap, cur, e1, _, _, h4, _⟩
    · omega
    · injection e1 with _ e3 e4
      omega
end Go.Proofs.Ytciddilphflhaaa
