/- The book in memory; the steps that lay it. -/
import Derived.Test.YtlnaedaibhglcaaK
import Derived.Laws.Tables
namespace Go.Proofs.Ytlnaedaibhglcaa
open Go.RowKit

/-- A block of a book, cell by cell. -/
def Bk (w : World) (g : Nat) (cv : Nat → Value) : Prop := ∃ cs : Array Value, Blk w g 41 cs ∧ cs.size = 352 ∧ ∀ i, i < 352 → cs[i]? = some (cv i)
section
variable {w w' : World} {g : Nat} {cv cv' : Nat → Value}
theorem Bk.lt (h : Bk w g cv) : g < w.heap.size := by obtain ⟨cs, hb, _⟩ := h; exact hb.lt
theorem Bk.cell (h : Bk w g cv) {i : Nat} (hi : i < 352) : w.cell? ⟨g, i, none⟩ = some (cv i) := by
  obtain ⟨cs, hb, _, hc⟩ := h
  rw [hb.cell]; exact hc i hi
theorem Bk.free (h : Bk w g cv) (i : Nat) : w.frozen? ⟨g, i, none⟩ = false := by obtain ⟨cs, hb, _⟩ := h; exact hb.free i
theorem Bk.alloc (h : Bk w g cv) (o : Obj) : Bk (w.alloc o) g cv := by obtain ⟨cs, hb, hs⟩ := h; exact ⟨cs, hb.alloc o, hs⟩
theorem Bk.drew (h : Bk w g cv) : Bk w.drew g cv := h
theorem Bk.drewN (h : Bk w g cv) (n : Nat) : Bk (w.drewN n) g cv := h
theorem Bk.kept (h : Bk w g cv) (hb : Below w.heap.size w w') : Bk w' g cv := by obtain ⟨cs, h1, hs⟩ := h; exact ⟨cs, h1.kept hb, hs⟩
theorem Bk.grown {row : Option Nat} (h : Bk w g cv) (hb : w.grownBy w' row) (hg : some g ≠ row) : Bk w' g cv := by obtain ⟨cs, h1, hs⟩ := h; exact ⟨cs, h1.grown hb hg, hs⟩
theorem Bk.store (h : Bk w g cv) (i : Nat) (u : Value) : Bk (w.setCell ⟨g, i, none⟩ u) g (fun j => if j = i then u else cv j) := by
  obtain ⟨cs, hb, hs, hc⟩ := h
  refine ⟨_, hb.store i u, by simpa using hs, fun j hj => ?_⟩
  rw [Array.getElem?_setIfInBounds]
  show _ = some (if j = i then u else cv j)
  by_cases hji : j = i
  · subst hji; rw [if_pos rfl, if_pos (by omega), if_pos rfl]
  · rw [if_neg (fun e => hji e.symm), if_neg hji]; exact hc j hj
theorem Bk.aside (h : Bk w g cv) {p : Addr} (hp : g ≠ p.block) (u : Value) : Bk (w.setCell p u) g cv := by obtain ⟨cs, h1, hs⟩ := h; exact ⟨cs, h1.aside hp u, hs⟩
theorem Bk.congr (h : Bk w g cv) (hc : ∀ i, i < 352 → cv i = cv' i) : Bk w g cv' := by obtain ⟨cs, h1, hs, h2⟩ := h; exact ⟨cs, h1, hs, fun i hi => by rw [h2 i hi, hc i hi]⟩
end

/-- What a book's cells hold: whether it is made, the codes, the order, the first codes, the counts, the places. -/
def bv (m : Bool) (C : Nat → Nat) (o : Value) (F N P : Nat → Nat) (i : Nat) : Value :=
  if i = 0 then .bool m else if i < 258 then .int .i64 (C (i - 1) : Nat) else if i = 258 then o else if i < 290 then .int .i64 (F (i - 259) : Nat) else if i < 321 then .int .i64 (N (i - 290) : Nat) else .int .i64 (P (i - 321) : Nat)
def zr (_ : Nat) : Nat := 0
def bookCells (m : Bool) : Array Value := (Value.bool m :: (List.replicate 257 (.int .i64 0) ++ (.slice none 0 0 :: List.replicate 93 (.int .i64 0)))).toArray
theorem book_size (m : Bool) : (bookCells m).size = 352 := by cases m <;> decide +kernel
theorem book_cells (m : Bool) (i : Nat) (h : i < 352) : (bookCells m)[i]? = some (bv m zr (.slice none 0 0) zr zr zr i) := by
  unfold bookCells bv zr
  rw [List.getElem?_toArray]
  rcases i with _ | i
  · rfl
  · rw [List.getElem?_cons_succ, if_neg (by omega)]
    by_cases h1 : i + 1 < 258
    · rw [if_pos h1, List.getElem?_append_left (by rw [List.length_replicate]; omega), List.getElem?_replicate, if_pos (by omega)]; rfl
    · rw [if_neg h1, List.getElem?_append_right (by rw [List.length_replicate]; omega), List.length_replicate]
      by_cases h2 : i + 1 = 258
      · rw [if_pos h2, show i - 257 = 0 from by omega]; rfl
      · rw [if_neg h2, show i - 257 = (i - 258) + 1 from by omega, List.getElem?_cons_succ, List.getElem?_replicate, if_pos (by omega)]
        split
        · rfl
        · split <;> rfl
theorem Bk.born (w : World) (m : Bool) : Bk (w.alloc (.cells (bookCells m) 41)) w.heap.size (bv m zr (.slice none 0 0) zr zr zr) := ⟨_, Blk.born _ _ _, book_size m, book_cells m⟩

theorem built_book : Try.prog.built 41 [(0, .bool true)] = some (bookCells true) := by kernel_rfl
theorem wpList_book {ops : Array Oper} {rest : List Oper} {o : Oper} {a : Act} {w : World} {Q : Exit → Act → World → Prop} (hg : o.guard = none) (ho : o.op = .build 41 #[(0, .const (.bool true))])
    (h : wpList Try.prog ops Q rest (a.put o.dst (.agg (bookCells true))) w) : wpList Try.prog ops Q (o :: rest) a w := by
  obtain ⟨p, hp⟩ : ∃ p, p = Try.prog := ⟨_, rfl⟩
  have hb := built_book
  rw [← hp] at hb h ⊢
  clear hp
  have e : p.built 41 ((#[(0, Operand.const (.bool true))] : Array (Nat × Operand)).map fun (i, x) => (i, a.eval x)).toList = some (bookCells true) := by simpa [Act.eval] using hb
  refine wpList_build hg 41 _ ho (by rw [e]; exact Option.isSome_some) ?_
  rw [e]; exact h
theorem wpList_bookbox {ops : Array Oper} {rest : List Oper} {o : Oper} {a : Act} {w : World} {Q : Exit → Act → World → Prop} {x : Operand} (hg : o.guard = none) (ho : o.op = .box 41 x) (hx : a.eval x = .agg (bookCells true))
    (h : wpList Try.prog ops Q rest (a.put o.dst (.pointer (some ⟨w.heap.size, 0, none⟩))) (w.alloc (.cells (bookCells true) 41))) : wpList Try.prog ops Q (o :: rest) a w := by
  refine wpList_plain hg fun _ hK => ?_
  unfold Oper.wp execOp
  have e : (Instr.box 41 (.agg (bookCells true))).run Try.prog w = .ok (.pointer (some ⟨w.heap.size, 0, none⟩)) (w.alloc (.cells (bookCells true) 41)) := by
    simp [Instr.box, go_sem]
  simp only [ho, hx, Sem.run_bind, e, Result.andThen_ok]
  exact hK _ _ h
end Go.Proofs.Ytlnaedaibhglcaa
