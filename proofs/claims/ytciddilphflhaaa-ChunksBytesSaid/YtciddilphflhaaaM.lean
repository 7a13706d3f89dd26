/- Contracts: Same, Large, Clone; append of chunks and of bytes. -/
import Derived.Test.YtciddilphflhaaaK
import Derived.Lib.BufferMore
import Derived.Outline
import Derived.IntWalk
import Derived.WalkMore
import Derived.BigQuiet
namespace Go.Proofs.Ytciddilphflhaaa
open Go.RowKit

set_option maxRecDepth 10000 in
theorem same01 (A B : Option Addr) (n c d : Nat) (xs : List Int) (w : World) (hl : xs.length = n) (hn : n ≤ 1000000) (hs : Sees w A (xs.map (Value.int .u8))) (ht : Sees w B (xs.map (Value.int .u8))) :
    Calls Try.prog 15 #[.slice A n c, .slice B n d] w fun e w' => e = .returned (.bool true) ∧ Below w.heap.size w w' := by
  have HL := hide hl
  have HA := hide hs
  have HB := hide ht
  clear hl hs ht
  go_enter Try.func15, Try.ntmps15
  go_wp2_with fail
  go_loopw [5] (fun i wr => ∃ k : Nat, k ≤ n ∧ i = .int .i64 k ∧ Hid (Below w.heap.size w wr)) (fun i _ => n - (intOf i).toNat)
  case atStart => exact ⟨0, Nat.zero_le _, rfl, hide (Below.refl _ _)⟩
  case round =>
    obtain ⟨k, hk, rfl, HW⟩ := hrel
    by_cases hlt : k < n
    · have hkl : k < xs.length := by have := HL.out; omega
      obtain ⟨y, hy⟩ : ∃ y, xs[k] = y := ⟨_, rfl⟩
      have hu : (xs.map (Value.int .u8))[k]? = some (.int .u8 y) := by rw [List.getElem?_map, List.getElem?_eq_getElem hkl, hy]; rfl
      obtain ⟨b, o, rfl, hc⟩ := (HA.out.kept HW.out) k _ hu
      obtain ⟨b', o', rfl, hc'⟩ := (HB.out.kept HW.out) k _ hu
      have i1 : (k : Int) < (n : Int) := by omega
      have i3 : (0 : Int) ≤ (k : Int) := by omega
      clear hy hu hkl
      go_wp2_with fail
      go_quiet (fail)
      go_wp2_with fail
      go_roundw
      case rel => exact ⟨k + 1, by omega, by go_num, hide (below_drewN HW.out _)⟩
      case measure => simp [intOf]; omega
    · go_wp2_with fail
      go_ret
      exact ⟨rfl, HW.out⟩

theorem oneC (f : Int) {v : Value} (h : v.oneCell' = true) : ∀ u ∈ [Value.int .i64 f, v], u.oneCell' = true := by
  intro u hu
  simp at hu
  rcases hu with rfl | rfl
  · rfl
  · exact h
theorem oneB {l : List Int} : ∀ u ∈ l.map (Value.int .u8), u.oneCell' = true := by
  intro u hu
  obtain ⟨q, _, rfl⟩ := List.mem_map.1 hu
  rfl

/-- One chunk behind the call's own, at a plain region's list. -/
theorem wpList_chunk {W : World} {ops : Array Oper} {rest : List Oper} {o : Oper} {a : Act} {Q : Exit → Act → World → Prop} (hgd : o.guard = none) (s x : Operand) (ho : o.op = .call { callee := .builtin .append, args := #[s, x], argTypes := #[22, 22] })
    (base n c : Nat) (A : Option Addr) (hs : HL) (f : Int) (v : Value) (es : a.eval s = .slice A n c) (hown : W.ownsRow base 33 2 (.slice A n c) n (cellsC hs)) (g : Nat) (ex : a.eval x = .slice (some ⟨g, 0, none⟩) 1 1) (hblk : Blk W g 33 #[.int .i64 f, v]) (h1 : v.oneCell' = true) (hn : n ≤ 100000) (hbase : base ≤ W.heap.size)
    (h : ∀ A' c' w', w'.ownsRow base 33 2 (.slice A' (n + 1) c') (n + 1) (cellsC hs ++ [.int .i64 f, v]) → W.grownBy w' (Value.slice A n c).ownBlock → wpList Try.prog ops Q rest (a.put o.dst (.slice A' (n + 1) c')) w') :
    wpList Try.prog ops Q (o :: rest) a W := by
  obtain ⟨i0, hi0, hz0, hz1, hz2⟩ := info_parts (P := Try.prog) info33
  refine wpList_append_lies W hgd s x 22 ho base 33 i0 _ 2 32 Try.underlying22 hi0 hz0 hz1 hz2 rfl (by decide) _ n _ es hown ⟨g, 0, none⟩ 1 1 [.int .i64 f, v] ex rfl (World.news_of_block hblk) (oneC f h1) (by decide) (by unfold maxLen; omega) (by omega) hbase _ rfl ?_
  intro g' c' w' ho' hg' _ _
  exact h _ _ _ ho' hg'
/-- The same at a step of a region that draws. -/
theorem step_chunk {W : World} {ops : Array Oper} {o : Oper} {a : Act} {J : Act → World → Prop} {Q : Exit → Act → World → Prop} {E : Prop} (hgd : o.guard = none) (s x : Operand) (ho : o.op = .call { callee := .builtin .append, args := #[s, x], argTypes := #[22, 22] })
    (base n c : Nat) (A : Option Addr) (hs : HL) (f : Int) (v : Value) (es : a.eval s = .slice A n c) (hown : W.ownsRow base 33 2 (.slice A n c) n (cellsC hs)) (g : Nat) (ex : a.eval x = .slice (some ⟨g, 0, none⟩) 1 1) (hblk : Blk W g 33 #[.int .i64 f, v]) (h1 : v.oneCell' = true) (hn : n ≤ 100000) (hbase : base ≤ W.heap.size)
    (h : ∀ A' c' w', w'.ownsRow base 33 2 (.slice A' (n + 1) c') (n + 1) (cellsC hs ++ [.int .i64 f, v]) → W.grownBy w' (Value.slice A n c).ownBlock → J (a.put o.dst (.slice A' (n + 1) c')) w') :
    if Region.wanted o (yielded ops a.tmps) = true then Oper.wp Try.prog o a W J Q else E := by
  obtain ⟨i0, hi0, hz0, hz1, hz2⟩ := info_parts (P := Try.prog) info33
  refine step_append_lies W hgd s x 22 ho base 33 i0 _ 2 32 Try.underlying22 hi0 hz0 hz1 hz2 rfl (by decide) _ n _ es hown ⟨g, 0, none⟩ 1 1 [.int .i64 f, v] ex rfl (World.news_of_block hblk) (oneC f h1) (by decide) (by unfold maxLen; omega) (by omega) hbase _ rfl ?_
  intro g' c' w' ho' hg' _ _
  exact h _ _ _ ho' hg'
/-- Bytes behind the call's own, at a step of a region that draws. -/
theorem step_bytes {W : World} {ops : Array Oper} {o : Oper} {a : Act} {J : Act → World → Prop} {Q : Exit → Act → World → Prop} {E : Prop} (hgd : o.guard = none) (s x : Operand) (ho : o.op = .call { callee := .builtin .append, args := #[s, x], argTypes := #[31, 31] })
    (base n c : Nat) (A : Option Addr) (b e : List Int) (es : a.eval s = .slice A n c) (hown : W.ownsRow base 5 1 (.slice A n c) n (b.map (Value.int .u8))) (hbl : b.length = n) (B : Option Addr) (m d : Nat) (ex : a.eval x = .slice B m d) (hel : e.length = m) (hsee : Sees W B (e.map (Value.int .u8))) (hm : 0 < m) (hn : n + m ≤ 1000000) (hbase : base ≤ W.heap.size)
    (h : ∀ g' c' w', w'.ownsRow base 5 1 (.slice (some ⟨g', 0, none⟩) (n + m) c') (n + m) ((b ++ e).map (Value.int .u8)) → W.grownBy w' (Value.slice A n c).ownBlock → ((Value.slice A n c).ownBlock = some g' ∨ g' = W.heap.size) → J (a.put o.dst (.slice (some ⟨g', 0, none⟩) (n + m) c')) w') :
    if Region.wanted o (yielded ops a.tmps) = true then Oper.wp Try.prog o a W J Q else E := by
  obtain ⟨i0, hi0, hz0, hz1, hz2⟩ := info_parts (P := Try.prog) info5
  obtain ⟨y, hy⟩ : ∃ y, (e.map (Value.int .u8))[0]? = some y := ⟨_, List.getElem?_eq_getElem (by rw [List.length_map]; omega)⟩
  obtain ⟨gb, ob, rfl, _⟩ := hsee 0 _ hy
  refine step_append_lies W hgd s x 31 ho base 5 i0 _ 1 1 Try.underlying31 hi0 hz0 hz1 hz2 rfl (by decide) _ n _ es hown ⟨gb, ob, none⟩ m d (e.map (Value.int .u8)) ex (by rw [List.length_map]; omega) (fun j u hu => ?_) oneB hm (by unfold maxLen; omega) (by omega) hbase _ rfl ?_
  · obtain ⟨b', o', e1, e2⟩ := hsee j u hu
    injection e1 with e1
    injection e1 with e1 e3
    subst e1 e3
    rw [Addr.add_lit]
    exact e2
  · intro g' c' w' ho' hg' hat _
    rw [← List.map_append] at ho'
    exact h g' c' w' ho' hg' hat

theorem own_none {w : World} (base : Nat) (e : TypeId) (h : base ≤ w.heap.size) : (w.alloc (.cells #[] e)).ownsRow base e 1 (.slice (some ⟨w.heap.size, 0, none⟩) 0 0) 0 [] :=
  ⟨rfl, .inr ⟨_, 0, #[], rfl, h, heap_alloc_new w _, Nat.le_refl _, Nat.zero_le _, rfl, rfl⟩⟩
set_option maxRecDepth 10000 in
theorem clone_any (B : Option Addr) (n c : Nat) (b : List Int) (w : World) (hl : b.length = n) (h0 : 0 < n) (hn : n ≤ 100000) (hs : Sees w B (b.map (Value.int .u8))) :
    Calls Try.prog 19 #[.slice B n c] w fun e w' => ∃ B' c', e = .returned (.slice B' n c') ∧ w'.ownsRow w.heap.size 5 1 (.slice B' n c') n (b.map (Value.int .u8)) ∧ Below w.heap.size w w' := by
  obtain ⟨i0, hi0, hz0, hz1, hz2⟩ := info_parts (P := Try.prog) info5
  have HI := hide hi0
  have HZ0 := hide hz0
  have HZ1 := hide hz1
  have HZ2 := hide hz2
  have HL := hide hl
  obtain ⟨y, hy⟩ : ∃ y, (b.map (Value.int .u8))[0]? = some y := ⟨_, List.getElem?_eq_getElem (by rw [List.length_map]; omega)⟩
  obtain ⟨gb, ob, rfl, _⟩ := hs 0 _ hy
  have HN : Hid (∀ j u, (b.map (Value.int .u8))[j]? = some u → (w.alloc (.cells #[] 5)).cell? ((⟨gb, ob, none⟩ : Addr).add j) = some u) := hide (fun j u hu => by
    obtain ⟨b', o', e1, e2⟩ := (hs.alloc (.cells #[] 5)) j u hu
    injection e1 with e1
    injection e1 with e1 e3
    subst e1 e3
    rw [Addr.add_lit]
    exact e2)
  have hnil := Go.Lib.run_eql_slice_some_nil (P := Try.prog) w ⟨gb, ob, none⟩ n c Try.underlying31
  clear hi0 hz0 hz1 hz2 hl hy hs
  go_enter Try.func19, Try.ntmps19
  go_wp2_with (at_builtin; go_loud (refine wpList_append_lies _ rfl (.tmp 5) (.tmp 6) 31 rfl w.heap.size 5 i0 (.int .u8 0) 1 1 Try.underlying31 HI.out HZ0.out HZ1.out HZ2.out rfl (by decide) _ 0 [] rfl (own_none (w := w) w.heap.size 5 (Nat.le_refl _)) ⟨gb, ob, none⟩ n c (b.map (Value.int .u8)) rfl (by rw [List.length_map, HL.out, Nat.mul_one]) HN.out oneB h0 (by unfold maxLen; omega) (by omega) (by simp) _ rfl ?_))
  intro g' c' w' ho' hg' _ _
  have HO := hide ho'
  have HB : Hid (Below w.heap.size w w') := hide (((Below.refl _ _).alloc (Nat.le_refl _) _).grown hg' (by simp) (fun j hj => by
    have e : w.heap.size = j := Option.some.inj hj
    omega))
  clear ho' hg'
  go_wp2_with fail
  go_ret
  exact ⟨_, _, rfl, HO.out, HB.out⟩
end Go.Proofs.Ytciddilphflhaaa
