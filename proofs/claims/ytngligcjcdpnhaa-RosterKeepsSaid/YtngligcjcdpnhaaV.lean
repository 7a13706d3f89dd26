/- Contract: Begin of a roster, taken. -/
import Derived.Test.YtngligcjcdpnhaaU
import Derived.StillTailTactics
namespace Go.Proofs.Ytngligcjcdpnhaa
open Go.RowKit Go.Maps
set_option linter.unusedSimpArgs false
set_option linter.unusedVariables false

/-- All of one slice behind a slice of the call's own, as a step of a drawn region; where the new one lies. -/
theorem step_pour {P : Program} {w : World} {ops : Array Oper} {o : Oper} {a : Act} {K : Act → World → Prop} {Q : Exit → Act → World → Prop} {E : Prop} (hgd : o.guard = none) (s x : Operand) (t : TypeId)
    (ho : o.op = .call { callee := .builtin .append, args := #[s, x], argTypes := #[t, t] })
    (base : Nat) (e : TypeId) (sz : Nat) {z : Value} {bytes : Nat} (hi : (P.info? e).map (fun i => (i.zero, i.size, i.bytes)) = some (some z, sz, bytes)) (hzs : z.cells.size = sz) (hsz : 0 < sz) (ht : P.underlying t = some (.slice e))
    (v : Value) (n : Nat) (xs : List Value) (hs : a.eval s = v) (hown : w.ownsRow base e sz v n xs)
    (A : Option Addr) (m c : Nat) (news : List Value) (hx : a.eval x = .slice A m c) (hl : news.length = m * sz) (hA : A = none → m = 0 ∧ c = 0) (hsee : Sees w A news) (h1 : ∀ u ∈ news, u.oneCell' = true)
    (h63 : n + m ≤ maxLen) (hbytes : (n + m) * bytes ≤ 140737488355328) (hbase : base ≤ w.heap.size)
    (h : ∀ B c' w', w'.ownsRow base e sz (.slice B (n + m) c') (n + m) (xs ++ news) → w.grownBy w' v.ownBlock → ((Value.slice B (n + m) c').ownBlock = v.ownBlock ∨ (Value.slice B (n + m) c').ownBlock = some w.heap.size) → K (a.put o.dst (.slice B (n + m) c')) w') :
    if Region.wanted o (yielded ops a.tmps) = true then Oper.wp P o a w K Q else E := by
  have hw : Region.wanted o (yielded ops a.tmps) = true := by simp [Region.wanted, hgd]
  rw [if_pos hw]
  obtain ⟨i0, hi0, hz0, hz1, hz2⟩ := info_parts hi
  cases hAe : A with
  | none =>
    obtain ⟨h2, h3⟩ := hA hAe
    subst h2 h3 hAe
    rw [Nat.zero_mul] at hl
    have hnil := List.eq_nil_of_length_eq_zero hl
    subst hnil
    obtain ⟨B, c', hv⟩ := own_form hown
    have h4 := h B c' w (by rw [List.append_nil, Nat.add_zero, ← hv]; exact hown) (grown_refl _ _) (by rw [Nat.add_zero, hv]; exact .inl rfl)
    rw [Nat.add_zero, ← hv] at h4
    have hrun := run_append_owned_none (P := P) (w := w) base t o.type e i0 sz ht hi0 v n xs hown
    unfold Oper.wp
    simp [execOp, ho, resolve, invoke, builtin, hs, hx, hrun, Result.andThen]
    exact h4
  | some ad =>
    subst hAe
    have hnews : ∀ j u, news[j]? = some u → w.cell? (ad.add j) = some u := fun j u hu => by
      obtain ⟨b, o, e1, e2⟩ := hsee j u hu
      injection e1 with e1
      subst e1
      rwa [Addr.add_lit]
    obtain ⟨v', w', hr, h2, h3, _, h5⟩ := run_append_own_at (P := P) w base t o.type e i0 z sz bytes ht hi0 hz0 hz1 hz2 hzs hsz v n xs hown ad m c news hl hnews h1 h63 hbytes hbase
    obtain ⟨B, c', rfl⟩ := own_form h2
    unfold Oper.wp execOp
    simp only [ho, resolve, invoke, builtin, Sem.run_bind, Sem.run_pure, Result.andThen_ok, List.map_toArray, List.map_cons, List.map_nil, hs, hx, hr]
    exact h B c' w' h2 h3 h5


theorem MapI.ext' {w : World} {b N : Nat} {f f' : Int → Option Int} (h : MapI w b N f) (he : ∀ x, f x = f' x) : MapI w b N f' := by
  rw [show f' = f from funext fun x => (he x).symm]; exact h
/-- The memory while a stream is begun; v is the stream's box, b the map. -/
structure Mem (w : World) (g v b : Nat) (M : Int) (m : Sm) (A : Option Addr) (n c : Nat) (xs : List Value) (N : Nat) (f : Int → Option Int) (z0 z1 : Int) : Prop where
  blk : Blk w g 59 #[.int .i64 M, .slice A n c, .map (some b), .int .i64 z0, .int .i64 z1]
  own : w.ownsRow 0 41 17 (.slice A n c) n xs
  mp : MapI w b N f
  box : Blk w v 41 #[.int .i64 m.id, .int .i64 m.k, .int .i64 m.o, .bool m.a, .bool m.b, .int .i64 m.y, .complex .f64 m.cx m.cy, .bool false, .string ByteArray.empty, .int .i64 0, .int .i64 0, .int .i64 0, .bool false, .string ByteArray.empty, .int .i64 0, .int .i64 0, .int .i64 0]
  rg : ∀ r, (Value.slice A n c).ownBlock = some r → r ≠ g ∧ r ≠ v ∧ r ≠ b
  gb : g ≠ b
  vb : v ≠ b
  vg : v ≠ g
section
variable {w w' : World} {g v b : Nat} {M : Int} {m : Sm} {A B : Option Addr} {n c n' c' : Nat} {xs ys : List Value} {N N' : Nat} {f f' : Int → Option Int} {z0 z1 : Int}
theorem Mem.drewN (h : Mem w g v b M m A n c xs N f z0 z1) (k : Nat) : Mem (w.drewN k) g v b M m A n c xs N f z0 z1 :=
  ⟨h.blk.drewN k, own_drewN h.own k, h.mp.only (F := []) (Only.drewN w k) (by simp), h.box.drewN k, h.rg, h.gb, h.vb, h.vg⟩
theorem Mem.put (h : Mem w g v b M m A n c xs N f z0 z1) (hM : MapI w' b N' f') (hg : w.drew.grownBy w' (some b)) : Mem w' g v b M m A n c xs N' f' z0 z1 ∧ Only [b] w w' := by
  have O : Only [b] w w' := (Only.drew w).next (Only.of_grown (F := [b]) hg (fun x e => by injection e with e; subst e; exact .inl (List.mem_singleton.2 rfl))) (fun x hx => .inl hx)
  exact ⟨⟨h.blk.only O (by simpa using h.gb), own_only h.own O (fun r hr => by simpa using (h.rg r hr).2.2), hM, h.box.only O (by simpa using h.vb), h.rg, h.gb, h.vb, h.vg⟩, O⟩
theorem Mem.push (h : Mem w g v b M m A n c xs N f z0 z1) (ob : Obj) (hown : w'.ownsRow 0 41 17 (.slice B n' c') n' ys) (hg : (w.alloc ob).drew.grownBy w' (Value.slice A n c).ownBlock)
    (hloc : (Value.slice B n' c').ownBlock = (Value.slice A n c).ownBlock ∨ (Value.slice B n' c').ownBlock = some (w.alloc ob).drew.heap.size) :
    Mem (w'.setCell ⟨g, 1, none⟩ (.slice B n' c')) g v b M m B n' c' ys N f z0 z1 ∧ (∀ F : List Nat, g ∈ F → (∀ r, (Value.slice A n c).ownBlock = some r → r ∈ F) → Only F w (w'.setCell ⟨g, 1, none⟩ (.slice B n' c'))) ∧ Blk w' g 59 #[.int .i64 M, .slice A n c, .map (some b), .int .i64 z0, .int .i64 z1] ∧ Blk w' v 41 #[.int .i64 m.id, .int .i64 m.k, .int .i64 m.o, .bool m.a, .bool m.b, .int .i64 m.y, .complex .f64 m.cx m.cy, .bool false, .string ByteArray.empty, .int .i64 0, .int .i64 0, .int .i64 0, .bool false, .string ByteArray.empty, .int .i64 0, .int .i64 0, .int .i64 0] := by
  obtain ⟨L, hL⟩ : ∃ L : List Nat, (∀ x, (Value.slice A n c).ownBlock = some x ↔ x ∈ L) := by
    cases h : (Value.slice A n c).ownBlock with
    | none => exact ⟨[], by simp⟩
    | some x => exact ⟨[x], by intro y; simp [eq_comm]⟩
  have hs0 : (w.alloc ob).drew.heap.size = w.heap.size + 1 := by simp
  have O1 : Only L w w' := ((Only.alloc w ob).next (Only.drew (F := []) (w.alloc ob)) (by simp) |>.next (Only.of_grown (F := L) hg (fun x e => .inl ((hL x).1 e))) (fun x hx => .inl hx))
  have O2 : Only (g :: L) w (w'.setCell ⟨g, 1, none⟩ (.slice B n' c')) := (O1.mono (fun x hx => .inl (List.mem_cons_of_mem _ hx))).next (Only.store (F := [g]) w' (List.mem_singleton.2 rfl) _) (fun x hx => .inl (by rw [List.mem_singleton.1 hx]; exact List.mem_cons_self))
  have hne : ∀ x, (x = g ∨ x = v ∨ x = b) → ∀ r, (Value.slice B n' c').ownBlock = some r → r ≠ x := fun x hx r hr => by
    have hxl : x < w.heap.size := by
      rcases hx with rfl | rfl | rfl
      · exact h.blk.lt
      · exact h.box.lt
      · exact h.mp.lt
    rcases hloc with e | e
    · have h3 := h.rg r (e.symm.trans hr)
      rcases hx with rfl | rfl | rfl
      · exact h3.1
      · exact h3.2.1
      · exact h3.2.2
    · rw [hr] at e
      have e2 := Option.some.inj e
      omega
  have hB1 : Blk w' g 59 _ := h.blk.only O1 (fun hm => (h.rg g ((hL g).2 hm)).1 rfl)
  have hX1 := h.box.only O1 (fun hm => (h.rg v ((hL v).2 hm)).2.1 rfl)
  have hM1 := h.mp.only O1 (fun hm => (h.rg b ((hL b).2 hm)).2.2 rfl)
  have OS : Only [g] w' (w'.setCell ⟨g, 1, none⟩ (.slice B n' c')) := Only.store (F := [g]) w' (List.mem_singleton.2 rfl) _
  refine ⟨⟨hB1.store 1 _, own_only hown OS (fun r hr => by simpa using hne g (.inl rfl) r hr), hM1.only OS (by simpa using h.gb.symm), hX1.only OS (by simpa using h.vg), ?_, h.gb, h.vb, h.vg⟩, fun F hgF hrF => O2.mono (fun x hx => .inl ?_), hB1, hX1⟩
  · exact fun r hr => ⟨hne g (.inl rfl) r hr, hne v (.inr (.inl rfl)) r hr, hne b (.inr (.inr rfl)) r hr⟩
  · rcases List.mem_cons.1 hx with rfl | hx
    · exact hgF
    · exact hrF x ((hL x).2 hx)
theorem Mem.last0 (h : Mem w g v b M m A n c xs N f z0 z1) (x : Int) : Mem (w.drew.setCell ⟨g, 3, none⟩ (.int .i64 x)) g v b M m A n c xs N f x z1 ∧ Only [g] w (w.drew.setCell ⟨g, 3, none⟩ (.int .i64 x)) := by
  have O : Only [g] w (w.drew.setCell ⟨g, 3, none⟩ (.int .i64 x)) := (Only.drew w).next (Only.store (F := [g]) w.drew (List.mem_singleton.2 rfl) _) (fun x hx => .inl hx)
  exact ⟨⟨(h.blk.drewN 1).store 3 _, own_only h.own O (fun r hr => by simpa using (h.rg r hr).1), h.mp.only O (by simpa using h.gb.symm), h.box.only O (by simpa using h.vg), h.rg, h.gb, h.vb, h.vg⟩, O⟩
theorem Mem.last1 (h : Mem w g v b M m A n c xs N f z0 z1) (x : Int) : Mem (w.drew.setCell ⟨g, 4, none⟩ (.int .i64 x)) g v b M m A n c xs N f z0 x ∧ Only [g] w (w.drew.setCell ⟨g, 4, none⟩ (.int .i64 x)) := by
  have O : Only [g] w (w.drew.setCell ⟨g, 4, none⟩ (.int .i64 x)) := (Only.drew w).next (Only.store (F := [g]) w.drew (List.mem_singleton.2 rfl) _) (fun x hx => .inl hx)
  exact ⟨⟨(h.blk.drewN 1).store 4 _, own_only h.own O (fun r hr => by simpa using (h.rg r hr).1), h.mp.only O (by simpa using h.gb.symm), h.box.only O (by simpa using h.vg), h.rg, h.gb, h.vb, h.vg⟩, O⟩
/-- The memory as a roster's. -/
theorem Mem.ro {l : List Sm} {F : List Nat} (h : Mem w g v b M m A n c xs N f z0 z1) (hx : xs = cells17 l) (hn : l.length = n) (hN : N = n) (hf : ∀ x, f x = atI (ids l) x) (h0 : z0 = lastL l 0) (h1 : z1 = lastL l 1) (hg : g ∈ F) (hb : b ∈ F) (hr : ∀ r, (Value.slice A n c).ownBlock = some r → r ∈ F) (hl : ∀ b ∈ F, b < w.heap.size) : Ro w g M l F := by
  subst hx h0 h1 hN
  exact ⟨A, N, c, some b, hn, h.blk, h.own, fun r hr' => ⟨hr r hr', (h.rg r hr').1⟩, .inr ⟨b, rfl, hb, h.mp.ext' hf⟩, hg, hl⟩
end
/-- What Begin leaves where it takes the stream. -/
def BPost (g : Nat) (M : Int) (l : List Sm) (m : Sm) (F : List Nat) (w : World) (e : Ending) (w' : World) : Prop :=
  e = .returned (.int .i64 0) ∧ ∃ F', Ro w' g M (l ++ [m]) F' ∧ Only F w w' ∧ ∀ b ∈ F', b ∈ F ∨ w.heap.size ≤ b

theorem beg_fin0 {w w6 : World} {g v b : Nat} {M : Int} {m : Sm} {l : List Sm} {B : Option Addr} {n c' : Nat} {F F0 : List Nat} {W : World} (HP : Mem w6 g v b M m B (n + 1) c' (cells17 l ++ row17 m) (n + 1) (fun y => if y = m.id then some (n : Int) else atI (ids l) y) (lastL l 0) (lastL l 1)) (hn : l.length = n) (hc : canB l m = true) (ho : m.o = 0)
    (OW : Only F w W) (O : Only F0 W w6) (hsub : ∀ x ∈ F0, x ∈ F ∨ w.heap.size ≤ x) (hg : g ∈ F0) (hb : b ∈ F0) (hlt : ∀ x ∈ F0, x < w6.heap.size) (hrow : ∀ r, (Value.slice B (n + 1) c').ownBlock = some r → r ∈ F0 ∨ w.heap.size ≤ r) (hgF : g ∈ F) :
    BPost g M l m F w (.returned (.int .i64 0)) (w6.drew.setCell ⟨g, 3, none⟩ (.int .i64 m.id)) := by
  obtain ⟨h1, h2⟩ := canB_iff hc
  have hoo : ownO m.id = 0 := by rw [← (may_iff h1).2.2.2]; exact ho
  rw [hoo] at h2
  have h3 := fresh (l := l) (m := m) (by rw [hoo]; exact h2)
  have HL := HP.last0 m.id
  have e0 : lastL (l ++ [m]) 0 = m.id := by rw [lastL_snoc, if_pos hoo]; exact Int.max_eq_right (by omega)
  have e1 : lastL (l ++ [m]) 1 = lastL l 1 := by rw [lastL_snoc, if_neg (by rw [hoo]; decide)]
  refine ⟨rfl, F0 ++ (Value.slice B (n + 1) c').ownBlock.toList, ?_, ?_, ?_⟩
  · refine HL.1.ro (by unfold cells17; rw [List.flatMap_append]; simp) (by simp [hn]) rfl (at_snoc h3 hn) e0.symm e1.symm (List.mem_append_left _ hg) (List.mem_append_left _ hb) (fun r hr => List.mem_append_right _ (by rw [Option.mem_toList]; exact hr)) (fun x hx => ?_)
    rcases List.mem_append.1 hx with hx | hx
    · exact Nat.lt_of_lt_of_le (hlt x hx) HL.2.size
    · rw [Option.mem_toList] at hx
      exact (HL.1.own.lt x hx).2
  · exact (OW.next O hsub).next HL.2 (fun x hx => .inl (by rw [List.mem_singleton.1 hx]; exact hgF))
  · intro x hx
    rcases List.mem_append.1 hx with hx | hx
    · exact hsub x hx
    · rw [Option.mem_toList] at hx
      rcases hrow x hx with h | h
      · exact hsub x h
      · exact .inr h

theorem beg_fin1 {w w6 : World} {g v b : Nat} {M : Int} {m : Sm} {l : List Sm} {B : Option Addr} {n c' : Nat} {F F0 : List Nat} {W : World} (HP : Mem w6 g v b M m B (n + 1) c' (cells17 l ++ row17 m) (n + 1) (fun y => if y = m.id then some (n : Int) else atI (ids l) y) (lastL l 0) (lastL l 1)) (hn : l.length = n) (hc : canB l m = true) (ho : m.o = 1)
    (OW : Only F w W) (O : Only F0 W w6) (hsub : ∀ x ∈ F0, x ∈ F ∨ w.heap.size ≤ x) (hg : g ∈ F0) (hb : b ∈ F0) (hlt : ∀ x ∈ F0, x < w6.heap.size) (hrow : ∀ r, (Value.slice B (n + 1) c').ownBlock = some r → r ∈ F0 ∨ w.heap.size ≤ r) (hgF : g ∈ F) :
    BPost g M l m F w (.returned (.int .i64 0)) (w6.drew.setCell ⟨g, 4, none⟩ (.int .i64 m.id)) := by
  obtain ⟨h1, h2⟩ := canB_iff hc
  have hoo : ownO m.id = 1 := by rw [← (may_iff h1).2.2.2]; exact ho
  rw [hoo] at h2
  have h3 := fresh (l := l) (m := m) (by rw [hoo]; exact h2)
  have HL := HP.last1 m.id
  have e0 : lastL (l ++ [m]) 1 = m.id := by rw [lastL_snoc, if_pos hoo]; exact Int.max_eq_right (by omega)
  have e1 : lastL (l ++ [m]) 0 = lastL l 0 := by rw [lastL_snoc, if_neg (by rw [hoo]; decide)]
  refine ⟨rfl, F0 ++ (Value.slice B (n + 1) c').ownBlock.toList, ?_, ?_, ?_⟩
  · refine HL.1.ro (by unfold cells17; rw [List.flatMap_append]; simp) (by simp [hn]) rfl (at_snoc h3 hn) e1.symm e0.symm (List.mem_append_left _ hg) (List.mem_append_left _ hb) (fun r hr => List.mem_append_right _ (by rw [Option.mem_toList]; exact hr)) (fun x hx => ?_)
    rcases List.mem_append.1 hx with hx | hx
    · exact Nat.lt_of_lt_of_le (hlt x hx) HL.2.size
    · rw [Option.mem_toList] at hx
      exact (HL.1.own.lt x hx).2
  · exact (OW.next O hsub).next HL.2 (fun x hx => .inl (by rw [List.mem_singleton.1 hx]; exact hgF))
  · intro x hx
    rcases List.mem_append.1 hx with hx | hx
    · exact hsub x hx
    · rw [Option.mem_toList] at hx
      rcases hrow x hx with h | h
      · exact hsub x h
      · exact .inr h

end Go.Proofs.Ytngligcjcdpnhaa
