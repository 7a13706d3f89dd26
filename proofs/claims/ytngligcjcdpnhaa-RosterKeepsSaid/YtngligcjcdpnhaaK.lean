/- Words for memory that turns in some blocks alone; maps from integers to integers. -/
import Derived.Test.YtngligcjcdpnhaaRows
import Derived.Test.YtngligcjcdpnhaaK0
import Derived.Maps.OwnSet
import Derived.Outline
import Derived.IntWalk
import Derived.WalkMore
import Derived.StillTailTactics
namespace Go.Proofs.Ytngligcjcdpnhaa
open Go.RowKit Go.Maps
set_option linter.unusedSimpArgs false
set_option linter.unusedVariables false

/-- w' is w with new blocks, and turned in the blocks of F alone. -/
structure Only (F : List Nat) (w w' : World) : Prop where
  os : w'.os = w.os
  tape : w'.tape = w.tape
  output : w'.output = w.output
  size : w.heap.size ≤ w'.heap.size
  block : ∀ i, i < w.heap.size → i ∉ F → w'.heap[i]? = w.heap[i]?
section
variable {F F1 : List Nat} {w w1 w2 w' : World}
theorem Only.refl (F : List Nat) (w : World) : Only F w w := ⟨rfl, rfl, rfl, Nat.le_refl _, fun _ _ _ => rfl⟩
theorem Only.next (h : Only F w w1) (h1 : Only F1 w1 w2) (hF : ∀ b ∈ F1, b ∈ F ∨ w.heap.size ≤ b) : Only F w w2 :=
  ⟨h1.os.trans h.os, h1.tape.trans h.tape, h1.output.trans h.output, Nat.le_trans h.size h1.size, fun i hi hn => (h1.block i (Nat.lt_of_lt_of_le hi h.size) fun hm => by
    rcases hF i hm with h2 | h2
    · exact hn h2
    · omega).trans (h.block i hi hn)⟩
theorem Only.of_grown {row : Option Nat} (h : w.grownBy w' row) (hr : ∀ b, row = some b → b ∈ F ∨ w.heap.size ≤ b) : Only F w w' :=
  ⟨h.os, h.tape, h.output, h.size, fun i hi hn => h.block i hi fun e => by
    rcases hr i e.symm with h2 | h2
    · exact hn h2
    · omega⟩
theorem Only.of_below (h : Below w.heap.size w w') : Only F w w' := ⟨h.os, h.tape, h.output, h.size, fun i hi _ => h.block i hi⟩
theorem Only.alloc (w : World) (o : Obj) : Only F w (w.alloc o) := Only.of_below ((Below.refl _ _).alloc (Nat.le_refl _) o)
theorem Only.store (w : World) {p : Addr} (hp : p.block ∈ F) (u : Value) : Only F w (w.setCell p u) :=
  ⟨rfl, rfl, rfl, by simp, fun i _ hn => Below.heap_setCell w p u i fun e => hn (by rw [e]; exact hp)⟩
theorem Only.drewN (w : World) (n : Nat) : Only F w (w.drewN n) := ⟨rfl, rfl, rfl, Nat.le_refl _, fun _ _ _ => rfl⟩
theorem Only.drew (w : World) : Only F w w.drew := ⟨rfl, rfl, rfl, Nat.le_refl _, fun _ _ _ => rfl⟩
theorem Only.mono (h : Only F w w') (hF : ∀ b ∈ F, b ∈ F1 ∨ w.heap.size ≤ b) : Only F1 w w' :=
  ⟨h.os, h.tape, h.output, h.size, fun i hi hn => h.block i hi fun hm => by
    rcases hF i hm with h2 | h2
    · exact hn h2
    · omega⟩
theorem Only.below (h : Only F w w') {B : Nat} (hB : B ≤ w.heap.size) (hF : ∀ b ∈ F, B ≤ b) : Below B w w' :=
  ⟨h.os, h.tape, h.output, h.size, fun i hi => h.block i (Nat.lt_of_lt_of_le hi hB) fun hm => by have := hF i hm; omega⟩
theorem Blk.only {g : Nat} {t : TypeId} {cs : Array Value} (h : Blk w g t cs) (o : Only F w w') (hg : g ∉ F) : Blk w' g t cs := (o.block g h.lt hg).trans h
theorem own_only {base : Nat} {e : TypeId} {size : Nat} {v : Value} {n : Nat} {xs : List Value} (h : w.ownsRow base e size v n xs) (o : Only F w w') (hv : ∀ b, v.ownBlock = some b → b ∉ F) : w'.ownsRow base e size v n xs := by
  refine ⟨h.1, ?_⟩
  rcases h.2 with h2 | ⟨g, cap, cur, e1, e2, e3, r⟩
  · exact .inl h2
  · subst e1
    exact .inr ⟨g, cap, cur, rfl, e2, (o.block g (Array.getElem?_eq_some_iff.1 e3).1 (hv g rfl)).trans e3, r⟩
end

/-- A slice that is seen, in a block that K names. -/
def SeesK (w : World) (K : Nat → Prop) (A : Option Addr) (xs : List Value) : Prop :=
  ∀ (j : Nat) (u : Value), xs[j]? = some u → ∃ b o, A = some ⟨b, o, none⟩ ∧ K b ∧ w.cell? ⟨b, o + j, none⟩ = some u
section
variable {w w' : World} {K K' : Nat → Prop} {A : Option Addr} {xs : List Value}
theorem SeesK.sees (h : SeesK w K A xs) : Sees w A xs := fun j u hj => by
  obtain ⟨b, o, h1, _, h2⟩ := h j u hj
  exact ⟨b, o, h1, h2⟩
theorem SeesK.mono (h : SeesK w K A xs) (hk : ∀ g, g < w.heap.size → K g → K' g) : SeesK w K' A xs := fun j u hj => by
  obtain ⟨b, o, h1, h2, h3⟩ := h j u hj
  exact ⟨b, o, h1, hk b (World.block_lt_of_cell? w _ h3) h2, h3⟩
theorem SeesK.blocks (h : SeesK w K A xs) (hb : ∀ g, g < w.heap.size → K g → w'.heap[g]? = w.heap[g]?) : SeesK w' K A xs := fun j u hj => by
  obtain ⟨b, o, h1, h2, h3⟩ := h j u hj
  exact ⟨b, o, h1, h2, (World.cell?_of_block (hb b (World.block_lt_of_cell? w _ h3) h2)).trans h3⟩
end

structure Sl (w : World) (K : Nat → Prop) (A : Option Addr) (n c : Nat) (xs : List Value) : Prop where
  nn : A = none → n = 0 ∧ c = 0
  le : n ≤ c
  sees : SeesK w K A xs
theorem Sl.mono {w : World} {K K' : Nat → Prop} {A : Option Addr} {n c : Nat} {xs : List Value} (h : Sl w K A n c xs) (hk : ∀ g, g < w.heap.size → K g → K' g) : Sl w K' A n c xs := ⟨h.nn, h.le, h.sees.mono hk⟩
theorem Sl.blocks {w w' : World} {K : Nat → Prop} {A : Option Addr} {n c : Nat} {xs : List Value} (h : Sl w K A n c xs) (hb : ∀ g, g < w.heap.size → K g → w'.heap[g]? = w.heap[g]?) : Sl w' K A n c xs := ⟨h.nn, h.le, h.sees.blocks hb⟩
theorem Sl.kept {w w' : World} {K : Nat → Prop} {A : Option Addr} {n c : Nat} {xs : List Value} (h : Sl w K A n c xs) (hb : Below w.heap.size w w') : Sl w' K A n c xs := h.blocks fun g hg _ => hb.block g hg
theorem Sl.only {w w' : World} {K : Nat → Prop} {F : List Nat} {A : Option Addr} {n c : Nat} {xs : List Value} (h : Sl w K A n c xs) (o : Only F w w') (hF : ∀ g, K g → g ∉ F) : Sl w' K A n c xs := h.blocks fun g hg hk => o.block g hg (hF g hk)
theorem Sl.nil (w : World) (K : Nat → Prop) : Sl w K none 0 0 [] := ⟨fun _ => ⟨rfl, rfl⟩, Nat.le_refl _, fun j u h => by simp at h⟩
theorem own_sees {w : World} {base n c sz : Nat} {e : TypeId} {A : Option Addr} {xs : List Value} (h : w.ownsRow base e sz (.slice A n c) n xs) : SeesK w (fun g => base ≤ g) A xs := by
  intro j u hj
  rcases h.2 with ⟨e1, e2⟩ | ⟨g, cap, cur, e1, _⟩
  · have := h.1
    rw [e2, Nat.zero_mul] at this
    rw [List.length_eq_zero_iff.1 this] at hj
    simp at hj
  · injection e1 with e2 e3 e4
    subst e2 e4
    refine ⟨g, 0, rfl, own_row_ge h g rfl, ?_⟩
    rw [Nat.zero_add, h.cellAt j (by have := (List.getElem?_eq_some_iff.1 hj).1; have := h.1; omega)]
    exact hj
theorem own_nn {w : World} {base n c sz : Nat} {e : TypeId} {A : Option Addr} {xs : List Value} (h : w.ownsRow base e sz (.slice A n c) n xs) : (A = none → n = 0 ∧ c = 0) ∧ n ≤ c := by
  rcases h.2 with ⟨hv, h0⟩ | ⟨g, cap, cur, hv, _, _, h4, _⟩
  · injection hv with e1 e2 e3
    exact ⟨fun _ => ⟨h0, e3⟩, by omega⟩
  · injection hv with e1 e2 e3
    subst e1 e3
    exact ⟨(fun h => by cases h), h4⟩
theorem own_sl {w : World} {base n c sz : Nat} {e : TypeId} {A : Option Addr} {xs : List Value} (h : w.ownsRow base e sz (.slice A n c) n xs) : Sl w (fun g => base ≤ g) A n c xs := ⟨(own_nn h).1, (own_nn h).2, own_sees h⟩
theorem grown_refl (w : World) (row : Option Nat) : w.grownBy w row := ⟨rfl, rfl, rfl, Nat.le_refl _, fun _ _ _ => rfl⟩

/-! ### Maps from integers to integers -/
theorem kk : Keyed Try.prog 3 := int_keyed Try.underlying3
theorem zeroE (w : World) : (zeroValue 3).run Try.prog w = .ok (.int .i64 0) w := by kernel_rfl
/-- Block b is a map that holds at each key what f says. -/
def MapI (w : World) (b N : Nat) (f : Int → Option Int) : Prop :=
  ∃ D : DataW Unit, w.ownsMap Try.prog 3 (plainElem Try.prog 3) b N D ∧ IsMap D ∧ (∀ x, (Lit.int .i64 x).wf = true → Maps.has D (.int .i64 x) = (f x).isSome) ∧ ∀ x c, (Lit.int .i64 x).wf = true → f x = some c → D.atKey (.int .i64 x) (.lit (.int .i64 0)) = .lit (.int .i64 c)
section
variable {w w' : World} {b N : Nat} {f : Int → Option Int}
theorem MapI.lt (h : MapI w b N f) : b < w.heap.size := by obtain ⟨D, h1, _⟩ := h; exact h1.lt
theorem MapI.made (w : World) : MapI (w.alloc (.map #[] 0)) w.heap.size 0 (fun _ => none) :=
  ⟨.map [], World.ownsMap_made _ _ _ _, isMap_empty, fun _ _ => rfl, fun _ _ _ h => by cases h⟩
theorem MapI.only {F : List Nat} (h : MapI w b N f) (o : Only F w w') (hb : b ∉ F) : MapI w' b N f := by
  obtain ⟨D, ⟨es, clock, h1, r1⟩, r⟩ := h
  exact ⟨D, ⟨es, clock, (o.block b (Array.getElem?_eq_some_iff.1 h1).1 hb).trans h1, r1⟩, r⟩
theorem MapI.ne {g : Nat} {t : TypeId} {cs : Array Value} (h : MapI w b N f) (hb : Blk w g t cs) : g ≠ b := by
  rintro rfl
  obtain ⟨D, ⟨es, clock, h1, _⟩, _⟩ := h
  have := h1.symm.trans hb
  simp at this
/-- What stands there, with what the laws say. -/
theorem MapI.at (h : MapI w b N f) (x : Int) (hx : (Lit.int .i64 x).wf = true) : ∃ D : DataW Unit, w.ownsMap Try.prog 3 (plainElem Try.prog 3) b N D ∧ Maps.has D (.int .i64 x) = (f x).isSome ∧ D.atKey (.int .i64 x) (.lit (.int .i64 0)) = .lit (.int .i64 ((f x).getD 0)) := by
  obtain ⟨D, h1, _, h2, h3⟩ := h
  refine ⟨D, h1, h2 x hx, ?_⟩
  cases hf : f x with
  | none => exact atKey_of_not_has (by rw [h2 x hx, hf]; rfl) _
  | some c => exact h3 x c hx hf
theorem lit_inj {a c : Int} (h : (DataW.lit (.int .i64 a) : DataW Unit) = .lit (.int .i64 c)) : a = c := by injection h with h; injection h
theorem MapI.look (h : MapI w b N f) (x : Int) (hx : (Lit.int .i64 x).wf = true) : (Instr.lookup 56 (.map (some b)) (.int .i64 x) false).run Try.prog w = .ok (.int .i64 ((f x).getD 0)) w := by
  obtain ⟨D, h1, _, h3⟩ := h.at x hx
  obtain ⟨c, hrun, hat, _⟩ := h1.lookup_int kk Try.underlying56 Try.underlying3 (zeroE _) (keyOf_int_mk Try.underlying3 hx)
  rw [h3] at hat
  rw [hrun, ← lit_inj hat]
theorem wpList_get_ok {ops : Array Oper} {rest : List Oper} {o : Oper} {a : Act} {Q : Exit → Act → World → Prop} (hg : o.guard = none) (m x : Operand) (hop : o.op = Op.lookup 56 m x true) (h : MapI w b N f)
    (hm : a.eval m = .map (some b)) (k : Int) (hx : a.eval x = .int .i64 k) (hk : (Lit.int .i64 k).wf = true) (c : Int) (q : Bool) (hc : (f k).getD 0 = c) (hq : (f k).isSome = q)
    (hK : wpList Try.prog ops Q rest (a.put o.dst (.tuple #[.int .i64 c, .bool q])) w) : wpList Try.prog ops Q (o :: rest) a w := by
  obtain ⟨D, h1, h2, h3⟩ := h.at k hk
  refine wpList_lookup_own_ok_int w hg m x 56 hop 3 3 .i64 kk Try.underlying56 Try.underlying3 (zeroE _) b N D hm h1 _ _ hx (keyOf_int_mk Try.underlying3 hk) fun c' hat _ => ?_
  rw [h3] at hat
  rw [← lit_inj hat, h2, hc, hq]
  exact hK
theorem wpList_get {ops : Array Oper} {rest : List Oper} {o : Oper} {a : Act} {Q : Exit → Act → World → Prop} (hg : o.guard = none) (m x : Operand) (hop : o.op = Op.lookup 56 m x false) (h : MapI w b N f)
    (hm : a.eval m = .map (some b)) (k : Int) (hx : a.eval x = .int .i64 k) (hk : (Lit.int .i64 k).wf = true) (c : Int) (hc : (f k).getD 0 = c)
    (hK : wpList Try.prog ops Q rest (a.put o.dst (.int .i64 c)) w) : wpList Try.prog ops Q (o :: rest) a w := by
  obtain ⟨D, h1, h2, h3⟩ := h.at k hk
  refine wpList_lookup_own_int w hg m x 56 hop 3 3 .i64 kk Try.underlying56 Try.underlying3 (zeroE _) b N D hm h1 _ _ hx (keyOf_int_mk Try.underlying3 hk) fun c' hat _ => ?_
  rw [h3] at hat
  rw [← lit_inj hat, hc]
  exact hK
theorem wpList_put {ops : Array Oper} {rest : List Oper} {o : Oper} {a : Act} {Q : Exit → Act → World → Prop} (hg : o.guard = none) (m x v : Operand) (hop : o.op = Op.mapUpdate 56 m x v) (h : MapI w b N f) (hN : N < maxLen)
    (hm : a.eval m = .map (some b)) (k u : Int) (hx : a.eval x = .int .i64 k) (hv : a.eval v = .int .i64 u) (hk : (Lit.int .i64 k).wf = true) (hu : (Lit.int .i64 u).wf = true)
    (hK : ∀ w', MapI w' b (N + 1) (fun y => if y = k then some u else f y) → w.grownBy w' (some b) → wpList Try.prog ops Q rest (a.put o.dst undef) w') : wpList Try.prog ops Q (o :: rest) a w := by
  obtain ⟨D, h1, hi, h2, h3⟩ := h
  have hkl : WideAt.IsKeyLit (.int .i64 k) := trivial
  refine wpList_mapUpdate_own w hg m x v 56 hop 3 3 kk Try.underlying56 _ b N D hm h1 hN _ _ _ hx hv (keyOf_int_mk Try.underlying3 hk) (.lit (.int .i64 u)) [] (plainElem_int Try.underlying3 hu) fun w' h4 h5 => hK w' ⟨_, h4, hi.put _ _, ?_, ?_⟩ h5
  · intro y hy
    dsimp only
    by_cases e : y = k
    · subst e; rw [if_pos rfl, has_put_same hi hkl]; rfl
    · rw [if_neg e, has_put_other (by intro h; injection h with h h'; exact e h'), h2 y hy]
  · intro y c hy hc
    dsimp only at hc
    by_cases e : y = k
    · subst e; rw [if_pos rfl] at hc; injection hc with hc; subst hc; exact atKey_put_same hi hkl _ _
    · rw [if_neg e] at hc
      rw [atKey_put_other (by intro h; injection h with h h'; exact e h')]; exact h3 y c hy hc
end
end Go.Proofs.Ytngligcjcdpnhaa
