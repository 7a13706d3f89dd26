/- Blocks: plain words; frames in memory; memory that turns in some blocks alone. -/
import Derived.Test.YtpjibdnoiioaoaaK0
import Derived.Test.YtpjibdnoiioaoaaProg
import Derived.Outline
import Derived.IntWalk
import Derived.WalkMore
import Derived.BigQuiet
import Derived.Laws.AppendOwnNone
import Derived.Laws.BitsLemmas
import Derived.Lib.BufferMore
namespace Go.Proofs.Ytpjibdnoiioaoaa
open Go.RowKit
set_option linter.unusedSimpArgs false
set_option linter.unusedVariables false

/-! ### Plain -/
/-- A frame: its numbers, its bytes, its settings. -/
structure Fr where
  ty : Int
  fl : Int
  st : Int
  pad : Int
  data : List Int
  sets : List (Int × Int)
  wt : Int
  par : Int
  alone : Bool
  prom : Int
  last : Int
  code : Int
  step : Int
def Fr.zero : Fr := ⟨0, 0, 0, 0, [], [], 0, 0, false, 0, 0, 0, 0⟩
def takesB (l : List Fr) (f : Fr) : Bool := match l with
  | [] => f.ty != 9
  | a :: _ => f.ty == 9 && f.st == a.st
def partB (t : Int) : Bool := t == 1 || t == 5 || t == 9
def allD (l : List Fr) : List Int := l.flatMap (·.data)
theorem allD_snoc (l : List Fr) (f : Fr) : allD (l ++ [f]) = allD l ++ f.data := by unfold allD; simp
theorem allD_take {l : List Fr} {k : Nat} {f : Fr} (h : l[k]? = some f) : allD (l.take (k + 1)) = allD (l.take k) ++ f.data := by
  obtain ⟨hk, e⟩ := List.getElem?_eq_some_iff.1 h
  rw [List.take_succ_eq_append_getElem hk, e, allD_snoc]

/-! ### Memory -/
/-- w' is w with new blocks, and turned in the blocks of F alone. -/
structure Only (F : List Nat) (w w' : World) : Prop where
  os : w'.os = w.os
  tape : w'.tape = w.tape
  output : w'.output = w.output
  size : w.heap.size ≤ w'.heap.size
  block : ∀ i, i < w.heap.size → i ∉ F → w'.heap[i]? = w.heap[i]?
section
variable {F F1 : List Nat} {w w1 w2 w' : World}
theorem Only.refl (F : List Nat) (w : World) : Only F w w := ⟨rfl, rfl, rfl, Nat.le_refl _, fun _ _ _ => rfl⟩
theorem Only.next (h : Only F w w1) (h1 : Only F1 w1 w2) (hF : ∀ b ∈ F1, b ∈ F ∨ w.heap.size ≤ b) : Only F w w2 :=
  ⟨h1.os.trans h.os, h1.tape.trans h.tape, h1.output.trans h.output, Nat.le_trans h.size h1.size, fun i hi hn => (h1.block i (Nat.lt_of_lt_of_le hi h.size) fun hm => by
    rcases hF i hm with h2 | h2
    · exact hn h2
    · omega).trans (h.block i hi hn)⟩
theorem Only.of_grown {row : Option Nat} (h : w.grownBy w' row) (hr : ∀ b, row = some b → b ∈ F ∨ w.heap.size ≤ b) : Only F w w' :=
  ⟨h.os, h.tape, h.output, h.size, fun i hi hn => h.block i hi fun e => by
    rcases hr i e.symm with h2 | h2
    · exact hn h2
    · omega⟩
theorem Only.of_below (h : Below w.heap.size w w') : Only F w w' := ⟨h.os, h.tape, h.output, h.size, fun i hi _ => h.block i hi⟩
theorem Only.alloc (w : World) (o : Obj) : Only F w (w.alloc o) := Only.of_below ((Below.refl _ _).alloc (Nat.le_refl _) o)
theorem Only.store (w : World) {p : Addr} (hp : p.block ∈ F) (u : Value) : Only F w (w.setCell p u) :=
  ⟨rfl, rfl, rfl, by simp, fun i _ hn => Below.heap_setCell w p u i fun e => hn (by rw [e]; exact hp)⟩
theorem Only.drewN (w : World) (n : Nat) : Only F w (w.drewN n) := ⟨rfl, rfl, rfl, Nat.le_refl _, fun _ _ _ => rfl⟩
theorem Only.drew (w : World) : Only F w w.drew := ⟨rfl, rfl, rfl, Nat.le_refl _, fun _ _ _ => rfl⟩
theorem Only.mono (h : Only F w w') (hF : ∀ b ∈ F, b ∈ F1 ∨ w.heap.size ≤ b) : Only F1 w w' :=
  ⟨h.os, h.tape, h.output, h.size, fun i hi hn => h.block i hi fun hm => by
    rcases hF i hm with h2 | h2
    · exact hn h2
    · omega⟩
theorem Only.below (h : Only F w w') {B : Nat} (hB : B ≤ w.heap.size) (hF : ∀ b ∈ F, B ≤ b) : Below B w w' :=
  ⟨h.os, h.tape, h.output, h.size, fun i hi => h.block i (Nat.lt_of_lt_of_le hi hB) fun hm => by have := hF i hm; omega⟩
theorem Blk.only {g : Nat} {t : TypeId} {cs : Array Value} (h : Blk w g t cs) (o : Only F w w') (hg : g ∉ F) : Blk w' g t cs := (o.block g h.lt hg).trans h
theorem own_only {base : Nat} {e : TypeId} {size : Nat} {v : Value} {n : Nat} {xs : List Value} (h : w.ownsRow base e size v n xs) (o : Only F w w') (hv : ∀ b, v.ownBlock = some b → b ∉ F) : w'.ownsRow base e size v n xs := by
  refine ⟨h.1, ?_⟩
  rcases h.2 with h2 | ⟨g, cap, cur, e1, e2, e3, r⟩
  · exact .inl h2
  · subst e1
    exact .inr ⟨g, cap, cur, rfl, e2, (o.block g (Array.getElem?_eq_some_iff.1 e3).1 (hv g rfl)).trans e3, r⟩
end

/-- A slice that is seen, in a block that K names. -/
def SeesK (w : World) (K : Nat → Prop) (A : Option Addr) (xs : List Value) : Prop :=
  ∀ (j : Nat) (u : Value), xs[j]? = some u → ∃ b o, A = some ⟨b, o, none⟩ ∧ K b ∧ w.cell? ⟨b, o + j, none⟩ = some u
section
variable {w w' : World} {K K' : Nat → Prop} {A : Option Addr} {xs : List Value}
theorem SeesK.sees (h : SeesK w K A xs) : Sees w A xs := fun j u hj => by
  obtain ⟨b, o, h1, _, h2⟩ := h j u hj
  exact ⟨b, o, h1, h2⟩
theorem SeesK.mono (h : SeesK w K A xs) (hk : ∀ g, g < w.heap.size → K g → K' g) : SeesK w K' A xs := fun j u hj => by
  obtain ⟨b, o, h1, h2, h3⟩ := h j u hj
  exact ⟨b, o, h1, hk b (World.block_lt_of_cell? w _ h3) h2, h3⟩
theorem SeesK.blocks (h : SeesK w K A xs) (hb : ∀ g, g < w.heap.size → K g → w'.heap[g]? = w.heap[g]?) : SeesK w' K A xs := fun j u hj => by
  obtain ⟨b, o, h1, h2, h3⟩ := h j u hj
  exact ⟨b, o, h1, h2, (World.cell?_of_block (hb b (World.block_lt_of_cell? w _ h3) h2)).trans h3⟩
end

theorem info30 : (Try.prog.info? 30).map (fun i => (i.zero, i.size, i.bytes)) = some (some (.agg #[.int .i64 0, .int .i64 0, .int .i64 0, .int .i64 0, .slice none 0 0, .slice none 0 0, .int .i64 0, .int .i64 0, .bool false, .int .i64 0, .int .i64 0, .int .i64 0, .int .i64 0]), 13, 136) := by kernel_rfl
theorem info5 : (Try.prog.info? 5).map (fun i => (i.zero, i.size, i.bytes)) = some (some (.int .u8 0), 1, 1) := by kernel_rfl
theorem info48 : (Try.prog.info? 48).map (fun i => (i.zero, i.size, i.bytes)) = some (some (.agg #[.int .i64 0, .int .i64 0]), 2, 16) := by kernel_rfl
def cellsS (l : List (Int × Int)) : List Value := l.flatMap fun p => [.int .i64 p.1, .int .i64 p.2]
theorem cellsS_length (l : List (Int × Int)) : (cellsS l).length = l.length * 2 := by
  induction l with
  | nil => rfl
  | cons p t ih => unfold cellsS at ih ⊢; rw [List.flatMap_cons, List.length_append, ih]; simp; omega
theorem cellsS_get : ∀ {l : List (Int × Int)} {i : Nat} {p : Int × Int}, l[i]? = some p → (cellsS l)[i * 2]? = some (.int .i64 p.1) ∧ (cellsS l)[i * 2 + 1]? = some (.int .i64 p.2)
  | q :: t, 0, p, h => by simp at h; subst h; exact ⟨rfl, rfl⟩
  | q :: t, i + 1, p, h => by
    have := cellsS_get (l := t) (i := i) (p := p) (by simpa using h)
    unfold cellsS at this ⊢
    rw [List.flatMap_cons]
    have e1 : (i + 1) * 2 = i * 2 + 2 := by omega
    rw [e1]
    exact this
theorem oneS {l : List (Int × Int)} : ∀ u ∈ cellsS l, u.oneCell' = true := by
  intro u hu
  unfold cellsS at hu
  obtain ⟨p, _, h⟩ := List.mem_flatMap.1 hu
  simp at h
  rcases h with rfl | rfl <;> rfl
def u8s (l : List Int) : List Value := l.map (Value.int .u8)
theorem oneB {l : List Int} : ∀ u ∈ u8s l, u.oneCell' = true := by
  intro u hu
  obtain ⟨q, _, rfl⟩ := List.mem_map.1 hu
  rfl
theorem u8s_length (l : List Int) : (u8s l).length = l.length := by unfold u8s; simp
theorem u8s_append (a b : List Int) : u8s (a ++ b) = u8s a ++ u8s b := by unfold u8s; simp

/-- A slice of what a frame holds, as it lies. -/
structure Sl (w : World) (K : Nat → Prop) (A : Option Addr) (n c : Nat) (xs : List Value) : Prop where
  nn : A = none → n = 0 ∧ c = 0
  le : n ≤ c
  sees : SeesK w K A xs
theorem Sl.mono {w : World} {K K' : Nat → Prop} {A : Option Addr} {n c : Nat} {xs : List Value} (h : Sl w K A n c xs) (hk : ∀ g, g < w.heap.size → K g → K' g) : Sl w K' A n c xs := ⟨h.nn, h.le, h.sees.mono hk⟩
theorem Sl.blocks {w w' : World} {K : Nat → Prop} {A : Option Addr} {n c : Nat} {xs : List Value} (h : Sl w K A n c xs) (hb : ∀ g, g < w.heap.size → K g → w'.heap[g]? = w.heap[g]?) : Sl w' K A n c xs := ⟨h.nn, h.le, h.sees.blocks hb⟩
theorem Sl.kept {w w' : World} {K : Nat → Prop} {A : Option Addr} {n c : Nat} {xs : List Value} (h : Sl w K A n c xs) (hb : Below w.heap.size w w') : Sl w' K A n c xs := h.blocks fun g hg _ => hb.block g hg
theorem Sl.only {w w' : World} {K : Nat → Prop} {F : List Nat} {A : Option Addr} {n c : Nat} {xs : List Value} (h : Sl w K A n c xs) (o : Only F w w') (hF : ∀ g, K g → g ∉ F) : Sl w' K A n c xs := h.blocks fun g hg hk => o.block g hg (hF g hk)
theorem Sl.nil (w : World) (K : Nat → Prop) : Sl w K none 0 0 [] := ⟨fun _ => ⟨rfl, rfl⟩, Nat.le_refl _, fun j u h => by simp at h⟩
/-- A frame, as it lies. -/
structure FS (w : World) (K : Nat → Prop) (f : Fr) (D : Option Addr) (dn dc : Nat) (S : Option Addr) (sn sc : Nat) : Prop where
  dl : f.data.length = dn
  sl : f.sets.length = sn
  d : Sl w K D dn dc (u8s f.data)
  s : Sl w K S sn sc (cellsS f.sets)
section
variable {w w' : World} {K K' : Nat → Prop} {f : Fr} {D S : Option Addr} {dn dc sn sc : Nat}
theorem FS.mono (h : FS w K f D dn dc S sn sc) (hk : ∀ g, g < w.heap.size → K g → K' g) : FS w K' f D dn dc S sn sc := ⟨h.dl, h.sl, h.d.mono hk, h.s.mono hk⟩
theorem FS.kept (h : FS w K f D dn dc S sn sc) (hb : Below w.heap.size w w') : FS w' K f D dn dc S sn sc := ⟨h.dl, h.sl, h.d.kept hb, h.s.kept hb⟩
theorem FS.only {F : List Nat} (h : FS w K f D dn dc S sn sc) (o : Only F w w') (hF : ∀ g, K g → g ∉ F) : FS w' K f D dn dc S sn sc := ⟨h.dl, h.sl, h.d.only o hF, h.s.only o hF⟩
theorem FS.zero (w : World) (K : Nat → Prop) : FS w K Fr.zero none 0 0 none 0 0 := ⟨rfl, rfl, Sl.nil _ _, Sl.nil _ _⟩
end
/-- What an owned row is. -/
theorem own_sees {w : World} {base n c sz : Nat} {e : TypeId} {A : Option Addr} {xs : List Value} (h : w.ownsRow base e sz (.slice A n c) n xs) : SeesK w (fun g => base ≤ g) A xs := by
  intro j u hj
  rcases h.2 with ⟨e1, e2⟩ | ⟨g, cap, cur, e1, _⟩
  · have := h.1
    rw [e2, Nat.zero_mul] at this
    rw [List.length_eq_zero_iff.1 this] at hj
    simp at hj
  · injection e1 with e2 e3 e4
    subst e2 e4
    refine ⟨g, 0, rfl, own_row_ge h g rfl, ?_⟩
    rw [Nat.zero_add, h.cellAt j (by have := (List.getElem?_eq_some_iff.1 hj).1; have := h.1; omega)]
    exact hj
theorem own_nn {w : World} {base n c sz : Nat} {e : TypeId} {A : Option Addr} {xs : List Value} (h : w.ownsRow base e sz (.slice A n c) n xs) : (A = none → n = 0 ∧ c = 0) ∧ n ≤ c := by
  rcases h.2 with ⟨hv, h0⟩ | ⟨g, cap, cur, hv, _, _, h4, _⟩
  · injection hv with e1 e2 e3
    exact ⟨fun _ => ⟨h0, e3⟩, by omega⟩
  · injection hv with e1 e2 e3
    subst e1 e3
    exact ⟨(fun h => by cases h), h4⟩
theorem own_sl {w : World} {base n c sz : Nat} {e : TypeId} {A : Option Addr} {xs : List Value} (h : w.ownsRow base e sz (.slice A n c) n xs) : Sl w (fun g => base ≤ g) A n c xs := ⟨(own_nn h).1, (own_nn h).2, own_sees h⟩
theorem own_none {w : World} (base : Nat) (e : TypeId) (sz : Nat) (h : base ≤ w.heap.size) : (w.alloc (.cells #[] e)).ownsRow base e sz (.slice (some ⟨w.heap.size, 0, none⟩) 0 0) 0 [] :=
  ⟨by simp, .inr ⟨_, 0, #[], rfl, h, heap_alloc_new w _, Nat.le_refl _, Nat.zero_le _, by simp, by simp⟩⟩

theorem grown_refl (w : World) (row : Option Nat) : w.grownBy w row := ⟨rfl, rfl, rfl, Nat.le_refl _, fun _ _ _ => rfl⟩
/-- All of one slice behind a slice of the call's own. -/
theorem wpList_pour {P : Program} {w : World} {ops : Array Oper} {rest : List Oper} {o : Oper} {a : Act} {Q : Exit → Act → World → Prop} (hgd : o.guard = none) (s x : Operand) (t : TypeId)
    (ho : o.op = .call { callee := .builtin .append, args := #[s, x], argTypes := #[t, t] })
    (base : Nat) (e : TypeId) (sz : Nat) {z : Value} {bytes : Nat} (hi : (P.info? e).map (fun i => (i.zero, i.size, i.bytes)) = some (some z, sz, bytes)) (hzs : z.cells.size = sz) (hsz : 0 < sz) (ht : P.underlying t = some (.slice e))
    (v : Value) (n : Nat) (xs : List Value) (hs : a.eval s = v) (hown : w.ownsRow base e sz v n xs)
    (A : Option Addr) (m c : Nat) (news : List Value) (hx : a.eval x = .slice A m c) (hl : news.length = m * sz) (hA : A = none → m = 0 ∧ c = 0) (hsee : Sees w A news) (h1 : ∀ u ∈ news, u.oneCell' = true)
    (h63 : n + m ≤ maxLen) (hbytes : (n + m) * bytes ≤ 140737488355328) (hbase : base ≤ w.heap.size)
    (h : ∀ B c' w', w'.ownsRow base e sz (.slice B (n + m) c') (n + m) (xs ++ news) → w.grownBy w' v.ownBlock → wpList P ops Q rest (a.put o.dst (.slice B (n + m) c')) w') : wpList P ops Q (o :: rest) a w := by
  obtain ⟨i0, hi0, hz0, hz1, hz2⟩ := info_parts hi
  cases hAe : A with
  | none =>
    obtain ⟨h2, h3⟩ := hA hAe
    subst h2 h3 hAe
    rw [Nat.zero_mul] at hl
    have hnil := List.eq_nil_of_length_eq_zero hl
    subst hnil
    refine wpList_append_own_none hgd s x t ho base e i0 sz ht hi0 v n xs hs hown hx ?_
    obtain ⟨B, c', hv⟩ := own_form hown
    have h4 := h B c' w (by rw [List.append_nil, Nat.add_zero, ← hv]; exact hown) (grown_refl _ _)
    rw [Nat.add_zero, ← hv] at h4
    exact h4
  | some ad =>
    subst hAe
    refine wpList_append_own _ hgd s x t ho base e i0 z sz bytes ht hi0 hz0 hz1 hz2 hzs hsz v n xs hs hown ad m c news hx hl (fun j u hu => ?_) h1 h63 hbytes hbase ?_
    · obtain ⟨b, o, e1, e2⟩ := hsee j u hu
      injection e1 with e1
      subst e1
      rwa [Addr.add_lit]
    · intro v' w' hown' hg _
      obtain ⟨B, c', hv⟩ := own_form hown'
      subst hv
      exact h B c' w' hown' hg
theorem pour_below {w w2 : World} {o : Obj} {c : Nat} (hg : (w.alloc o).grownBy w2 (Value.slice (some ⟨w.heap.size, 0, none⟩) 0 c).ownBlock) : Below w.heap.size w w2 :=
  ((Below.refl _ _).alloc (Nat.le_refl _) _).grown hg (by simp) (fun j hj => by
    have e : w.heap.size = j := Option.some.inj hj
    omega)
end Go.Proofs.Ytpjibdnoiioaoaa
