/- Contracts: All, State, Get of a roster. -/
import Derived.Test.YtngligcjcdpnhaaQ
import Derived.Laws.AppendOwnNone
namespace Go.Proofs.Ytngligcjcdpnhaa
open Go.RowKit Go.Maps
set_option linter.unusedSimpArgs false
set_option linter.unusedVariables false

/-- All of one slice behind a slice of the call's own. -/
theorem wpList_pour {P : Program} {w : World} {ops : Array Oper} {rest : List Oper} {o : Oper} {a : Act} {Q : Exit → Act → World → Prop} (hgd : o.guard = none) (s x : Operand) (t : TypeId)
    (ho : o.op = .call { callee := .builtin .append, args := #[s, x], argTypes := #[t, t] })
    (base : Nat) (e : TypeId) (sz : Nat) {z : Value} {bytes : Nat} (hi : (P.info? e).map (fun i => (i.zero, i.size, i.bytes)) = some (some z, sz, bytes)) (hzs : z.cells.size = sz) (hsz : 0 < sz) (ht : P.underlying t = some (.slice e))
    (v : Value) (n : Nat) (xs : List Value) (hs : a.eval s = v) (hown : w.ownsRow base e sz v n xs)
    (A : Option Addr) (m c : Nat) (news : List Value) (hx : a.eval x = .slice A m c) (hl : news.length = m * sz) (hA : A = none → m = 0 ∧ c = 0) (hsee : Sees w A news) (h1 : ∀ u ∈ news, u.oneCell' = true)
    (h63 : n + m ≤ maxLen) (hbytes : (n + m) * bytes ≤ 140737488355328) (hbase : base ≤ w.heap.size)
    (h : ∀ B c' w', w'.ownsRow base e sz (.slice B (n + m) c') (n + m) (xs ++ news) → w.grownBy w' v.ownBlock → wpList P ops Q rest (a.put o.dst (.slice B (n + m) c')) w') : wpList P ops Q (o :: rest) a w := by
  obtain ⟨i0, hi0, hz0, hz1, hz2⟩ := info_parts hi
  cases hAe : A with
  | none =>
    obtain ⟨h2, h3⟩ := hA hAe
    subst h2 h3 hAe
    rw [Nat.zero_mul] at hl
    have hnil := List.eq_nil_of_length_eq_zero hl
    subst hnil
    refine wpList_append_own_none hgd s x t ho base e i0 sz ht hi0 v n xs hs hown hx ?_
    obtain ⟨B, c', hv⟩ := own_form hown
    have h4 := h B c' w (by rw [List.append_nil, Nat.add_zero, ← hv]; exact hown) (grown_refl _ _)
    rw [Nat.add_zero, ← hv] at h4
    exact h4
  | some ad =>
    subst hAe
    refine wpList_append_own _ hgd s x t ho base e i0 z sz bytes ht hi0 hz0 hz1 hz2 hzs hsz v n xs hs hown ad m c news hx hl (fun j u hu => ?_) h1 h63 hbytes hbase ?_
    · obtain ⟨b, o, e1, e2⟩ := hsee j u hu
      injection e1 with e1
      subst e1
      rwa [Addr.add_lit]
    · intro v' w' hown' hg _
      obtain ⟨B, c', hv⟩ := own_form hown'
      subst hv
      exact h B c' w' hown' hg

def arrL (cs : Array Value) : Nat → List Value → Array Value
  | _, [] => cs
  | o, v :: r => arrL (cs.setIfInBounds o v) (o + 1) r
theorem Blk.setCells {g : Nat} {t : TypeId} : ∀ (vs : List Value) (o : Nat) (w : World) (cs : Array Value), Blk w g t cs → Blk (w.setCells g o vs) g t (arrL cs o vs)
  | [], _, _, _, h => h
  | v :: r, o, w, cs, h => by
    rw [World.setCells, arrL]
    exact Blk.setCells r (o + 1) _ _ (h.store o v)
theorem Only.setCells {F : List Nat} {g : Nat} (hg : g ∈ F) : ∀ (vs : List Value) (o : Nat) (w : World), Only F w (w.setCells g o vs)
  | [], _, w => Only.refl _ w
  | v :: r, o, w => by
    rw [World.setCells]
    exact (Only.store (p := ⟨g, o, none⟩) w hg v).next (Only.setCells hg r (o + 1) _) (fun b hb => .inl hb)

theorem arrL_size : ∀ (vs : List Value) (o : Nat) (cs : Array Value), (arrL cs o vs).size = cs.size
  | [], _, _ => rfl
  | v :: r, o, cs => by rw [arrL, arrL_size r]; simp
theorem arrL_get : ∀ (vs : List Value) (o : Nat) (cs : Array Value) (i : Nat), i < cs.size → (arrL cs o vs)[i]? = if o ≤ i ∧ i < o + vs.length then vs[i - o]? else cs[i]?
  | [], o, cs, i, h => by rw [arrL, if_neg (by simp)]
  | v :: r, o, cs, i, h => by
    rw [arrL, arrL_get r (o + 1) _ i (by simpa using h), Array.getElem?_setIfInBounds]
    by_cases e : o = i
    · subst e
      rw [if_neg (by omega), if_pos rfl, if_pos h, if_pos ⟨Nat.le_refl _, by simp⟩, Nat.sub_self]; rfl
    · rw [if_neg e]
      by_cases e2 : o + 1 ≤ i ∧ i < o + 1 + r.length
      · rw [if_pos e2, if_pos (by simp; omega), show i - o = (i - (o + 1)) + 1 by omega]; rfl
      · rw [if_neg e2, if_neg (by simp; omega)]
theorem arrL_all {vs : List Value} {cs : Array Value} (h : vs.length = cs.size) : arrL cs 0 vs = vs.toArray := by
  apply Array.ext (by rw [arrL_size]; simp [h])
  intro i h1 h2
  have h3 : i < cs.size := by rw [arrL_size] at h1; exact h1
  have h4 := arrL_get vs 0 cs i h3
  rw [if_pos ⟨Nat.zero_le _, by omega⟩, Nat.sub_zero, Array.getElem?_eq_getElem h1] at h4
  rw [List.getElem_toArray]
  have h5 : vs[i]? = some vs[i] := List.getElem?_eq_getElem (by omega)
  rw [h5] at h4
  exact Option.some.inj h4
theorem Blk.setAll {w : World} {g : Nat} {t : TypeId} {cs : Array Value} (h : Blk w g t cs) (vs : List Value) (hl : vs.length = cs.size) : Blk (w.setCells g 0 vs) g t vs.toArray := by
  rw [← arrL_all hl]; exact Blk.setCells vs 0 w cs h
theorem rall_nil (w : World) : Calls Try.prog 19 #[.pointer none] w fun e w' => e = .returned (.slice none 0 0) ∧ w = w' := by
  go_enter Try.func19, Try.ntmps19
  go_wp2_with fail
  refine (all_nil _).mono ?_
  rintro e w1 ⟨rfl, rfl⟩
  go_wp2_with fail
  go_ret
  exact ⟨rfl, rfl⟩
theorem rall_any {M : Int} {l : List Sm} {F : List Nat} {A : Option Addr} {n c : Nat} {am : Option Nat} (g : Nat) (w : World) (hn : n ≤ 1000) (H : Hid (RoI w g M l F A n c am)) :
    Calls Try.prog 19 #[.pointer (some ⟨g, 0, none⟩)] w fun e w' => ∃ B c', e = .returned (.slice B n c') ∧ w'.ownsRow w.heap.size 41 17 (.slice B n c') n (cells17 l) ∧ Below w.heap.size w w' := by
  have HA := hide (all_any g w H)
  have HL : Hid ((cells17 l).length = n * 17) := hide (by rw [← H.out.num]; exact flat_length row17_len l)
  have HS := hide (own_sl H.out.own)
  have hA := HS.out.nn
  clear H
  go_enter Try.func19, Try.ntmps19
  go_wp2_with fail
  refine HA.out.mono ?_
  rintro e w1 ⟨rfl, rfl⟩
  clear HA
  go_wp2_with (at_builtin; go_loud (refine wpList_pour rfl (.const (.slice none 0 0)) (.tmp 4) 55 rfl w.heap.size 41 17 info41 rfl (by decide) Try.underlying55 (.slice none 0 0) 0 [] (by rfl) (World.ownsRow_nil _ _ _ _) A n c (cells17 l) (by rfl) HL.out hA HS.out.sees.sees (flat_one row17_one) (by unfold maxLen; omega) (by omega) (Nat.le_refl _) ?_))
  intro B c' w2 ho hg
  have HO := hide ho
  have HB : Hid (Below w.heap.size w w2) := hide ⟨hg.os, hg.tape, hg.output, hg.size, fun i hi => hg.block i hi (by simp [Value.ownBlock])⟩
  clear ho hg
  go_wp2_with fail
  go_ret
  exact ⟨B, c', rfl, HO.out, HB.out⟩

theorem wf_int {x : Int} (h : (Lit.int .i64 x).wf = true) : -9223372036854775808 ≤ x ∧ x ≤ 9223372036854775807 := wf_i64 h

set_option maxHeartbeats 2000000 in
theorem state_found {M : Int} {l : List Sm} {F : List Nat} {A : Option Addr} {n c : Nat} {am : Option Nat} (g : Nat) (id : Int) (w : World) (hn : n ≤ 1000) (H : Hid (RoI w g M l F A n c am)) (hx : Hid ((Lit.int .i64 id).wf = true)) (i : Nat) (m : Sm) (hp : Hid (posI (ids l) id = some i)) (hm : Hid (l[i]? = some m)) :
    Calls Try.prog 20 #[.pointer (some ⟨g, 0, none⟩), .int .i64 id] w fun e w' => e = .returned (.agg #[.int .i64 m.k, .int .i64 m.o, .bool m.a, .bool m.b, .int .i64 m.y]) ∧ Below w.heap.size w w' := by
  have HW1 : Hid (Below w.heap.size w (w.alloc (.cells #[.int .i64 0, .int .i64 0, .bool false, .bool false, .int .i64 0] 32))) := hide (st_alloc1 w _)
  have H1 := hide (H.out.kept HW1.out)
  obtain ⟨v, hv⟩ : ∃ v, w.heap.size = v := ⟨_, rfl⟩
  obtain ⟨W1, hW1⟩ : ∃ W1, w.alloc (.cells #[.int .i64 0, .int .i64 0, .bool false, .bool false, .int .i64 0] 32) = W1 := ⟨_, rfl⟩
  rw [hW1] at HW1 H1
  have HC : Hid (Blk W1 v 32 #[.int .i64 0, .int .i64 0, .bool false, .bool false, .int .i64 0]) := hide (by rw [← hW1, ← hv]; exact Blk.born w 32 _)
  have r0 : W1.cell? ⟨v, 0, none⟩ = some (.int .i64 0) := HC.out.cell 0
  have rz0 : W1.frozen? ⟨v, 0, none⟩ = false := HC.out.free _
  have r1 : W1.cell? ⟨v, 1, none⟩ = some (.int .i64 0) := HC.out.cell 1
  have rz1 : W1.frozen? ⟨v, 1, none⟩ = false := HC.out.free _
  have r2 : W1.cell? ⟨v, 2, none⟩ = some (.bool false) := HC.out.cell 2
  have rz2 : W1.frozen? ⟨v, 2, none⟩ = false := HC.out.free _
  have r3 : W1.cell? ⟨v, 3, none⟩ = some (.bool false) := HC.out.cell 3
  have rz3 : W1.frozen? ⟨v, 3, none⟩ = false := HC.out.free _
  have r4 : W1.cell? ⟨v, 4, none⟩ = some (.int .i64 0) := HC.out.cell 4
  have rz4 : W1.frozen? ⟨v, 4, none⟩ = false := HC.out.free _
  have hin : i < n := by rw [← H.out.num]; exact (List.getElem?_eq_some_iff.1 hm.out).1
  have c1 : W1.cell? ⟨g, 1, none⟩ = some (.slice A n c) := H1.out.blk.cell 1
  obtain ⟨r, rfl, _, _, t⟩ := H1.out.at hm.out
  have k1 : W1.cell? ⟨r, i * 17 + 1, none⟩ = some (.int .i64 m.k) := t 1 _ rfl
  have k2 : W1.cell? ⟨r, i * 17 + 2, none⟩ = some (.int .i64 m.o) := t 2 _ rfl
  have k3 : W1.cell? ⟨r, i * 17 + 3, none⟩ = some (.bool m.a) := t 3 _ rfl
  have k4 : W1.cell? ⟨r, i * 17 + 4, none⟩ = some (.bool m.b) := t 4 _ rfl
  have k5 : W1.cell? ⟨r, i * 17 + 5, none⟩ = some (.int .i64 m.y) := t 5 _ rfl
  clear t
  have HF := hide (find_any g id (i : Nat) true W1 hx H1 (hide (by unfold posZ; rw [hp.out]; rfl)) (hide (by rw [hp.out]; rfl)))
  clear H
  go_enter Try.func20, Try.ntmps20
  go_wp2_with fail
  refine HF.out.mono ?_
  rintro e w1 ⟨rfl, rfl⟩
  clear HF
  go_wp2_with fail
  refine bodyPost_ret (v := .agg #[.int .i64 m.k, .int .i64 m.o, .bool m.a, .bool m.b, .int .i64 m.y]) (by simp [results, Try.results20, go_sem, r0, r1, r2, r3, r4]) rfl ⟨rfl, ?_⟩
  rw [← hv]
  exact st5 HW1.out (Nat.le_refl _) _ _ _ _ _
theorem state_nil (id : Int) (w : World) (s : Stt) (hs : Hid (stateL [] id = s)) :
    Calls Try.prog 20 #[.pointer none, .int .i64 id] w fun e w' => e = .returned (.agg #[.int .i64 s.k, .int .i64 s.o, .bool s.a, .bool s.b, .int .i64 s.y]) ∧ Below w.heap.size w w' := by
  obtain ⟨ow, ho⟩ : ∃ ow, ownO id = ow := ⟨_, rfl⟩
  obtain ⟨kk, hkk⟩ : ∃ kk, ownK id = kk := ⟨_, rfl⟩
  have HO := fun w => hide (owner_q id ow kk w ho hkk)
  have HOO := hide ho
  have HKK := hide hkk
  clear ho hkk
  have HW1 : Hid (Below w.heap.size w (w.alloc (.cells #[.int .i64 0, .int .i64 0, .bool false, .bool false, .int .i64 0] 32))) := hide (st_alloc1 w _)
  obtain ⟨v, hv⟩ : ∃ v, w.heap.size = v := ⟨_, rfl⟩
  obtain ⟨W1, hW1⟩ : ∃ W1, w.alloc (.cells #[.int .i64 0, .int .i64 0, .bool false, .bool false, .int .i64 0] 32) = W1 := ⟨_, rfl⟩
  rw [hW1] at HW1
  have HC : Hid (Blk W1 v 32 #[.int .i64 0, .int .i64 0, .bool false, .bool false, .int .i64 0]) := hide (by rw [← hW1, ← hv]; exact Blk.born w 32 _)
  have HF := hide (find_nil id W1)
  have HP : Hid (posI (ids []) id = none) := hide rfl
  cases kk
  · obtain rfl : Stt.zero = s := by
      rw [← hs.out, stateL_none HP.out, HKK.out]; rfl
    have r0 : W1.cell? ⟨v, 0, none⟩ = some (.int .i64 0) := HC.out.cell 0
    have rz0 : W1.frozen? ⟨v, 0, none⟩ = false := HC.out.free _
    have r1 : W1.cell? ⟨v, 1, none⟩ = some (.int .i64 0) := HC.out.cell 1
    have rz1 : W1.frozen? ⟨v, 1, none⟩ = false := HC.out.free _
    have r2 : W1.cell? ⟨v, 2, none⟩ = some (.bool false) := HC.out.cell 2
    have rz2 : W1.frozen? ⟨v, 2, none⟩ = false := HC.out.free _
    have r3 : W1.cell? ⟨v, 3, none⟩ = some (.bool false) := HC.out.cell 3
    have rz3 : W1.frozen? ⟨v, 3, none⟩ = false := HC.out.free _
    have r4 : W1.cell? ⟨v, 4, none⟩ = some (.int .i64 0) := HC.out.cell 4
    have rz4 : W1.frozen? ⟨v, 4, none⟩ = false := HC.out.free _
    go_enter Try.func20, Try.ntmps20
    go_wp2_with fail
    refine HF.out.mono ?_
    rintro e w1 ⟨rfl, rfl⟩
    go_wp2_with fail
    refine (HO _).out.mono ?_
    rintro e w1 ⟨rfl, rfl⟩
    go_wp2_with fail
    refine bodyPost_ret (v := .agg #[.int .i64 0, .int .i64 0, .bool false, .bool false, .int .i64 0]) (by simp [results, Try.results20, go_sem, r0, r1, r2, r3, r4]) rfl ⟨rfl, ?_⟩
    rw [← hv]
    exact st5 HW1.out (Nat.le_refl _) _ _ _ _ _
  · have hpos := (ownK_iff id).1 HKK.out
    obtain rfl : s = ⟨0, ow, false, false, 0⟩ := by
      rw [← hs.out, stateL_none HP.out, HKK.out, HOO.out, if_pos rfl, if_neg (by rw [lastL_nil]; omega)]
    obtain ⟨v2, hv2⟩ : ∃ v2, W1.heap.size = v2 := ⟨_, rfl⟩
    obtain ⟨W2, hW2⟩ : ∃ W2, W1.alloc (.cells #[.int .i64 0, .int .i64 ow, .bool false, .bool false, .int .i64 0] 32) = W2 := ⟨_, rfl⟩
    have HW2 : Hid (Below w.heap.size w W2) := hide (by rw [← hW2]; exact HW1.out.alloc HW1.out.size _)
    have HC2 : Hid (Blk W2 v2 32 #[.int .i64 0, .int .i64 ow, .bool false, .bool false, .int .i64 0]) := hide (by rw [← hW2, ← hv2]; exact Blk.born W1 32 _)
    have HC3 : Hid (Blk W2 v 32 #[.int .i64 0, .int .i64 0, .bool false, .bool false, .int .i64 0]) := hide (by rw [← hW2]; exact HC.out.alloc _)
    have hne : v2 ≠ v := by have := HC.out.lt; omega
    have hne' : v ≠ v2 := hne.symm
    have HLA := hide (last_nil ow W2)
    have hb : ¬ (0 : Int) > id := by omega
    have r0 : W2.cell? ⟨v, 0, none⟩ = some (.int .i64 0) := HC3.out.cell 0
    have rz0 : W2.frozen? ⟨v, 0, none⟩ = false := HC3.out.free _
    have r1 : W2.cell? ⟨v, 1, none⟩ = some (.int .i64 0) := HC3.out.cell 1
    have rz1 : W2.frozen? ⟨v, 1, none⟩ = false := HC3.out.free _
    have r2 : W2.cell? ⟨v, 2, none⟩ = some (.bool false) := HC3.out.cell 2
    have rz2 : W2.frozen? ⟨v, 2, none⟩ = false := HC3.out.free _
    have r3 : W2.cell? ⟨v, 3, none⟩ = some (.bool false) := HC3.out.cell 3
    have rz3 : W2.frozen? ⟨v, 3, none⟩ = false := HC3.out.free _
    have r4 : W2.cell? ⟨v, 4, none⟩ = some (.int .i64 0) := HC3.out.cell 4
    have rz4 : W2.frozen? ⟨v, 4, none⟩ = false := HC3.out.free _
    have q0 : W2.cell? ⟨v2, 0, none⟩ = some (.int .i64 0) := HC2.out.cell 0
    have qz0 : W2.frozen? ⟨v2, 0, none⟩ = false := HC2.out.free _
    have q1 : W2.cell? ⟨v2, 1, none⟩ = some (.int .i64 ow) := HC2.out.cell 1
    have qz1 : W2.frozen? ⟨v2, 1, none⟩ = false := HC2.out.free _
    have q2 : W2.cell? ⟨v2, 2, none⟩ = some (.bool false) := HC2.out.cell 2
    have qz2 : W2.frozen? ⟨v2, 2, none⟩ = false := HC2.out.free _
    have q3 : W2.cell? ⟨v2, 3, none⟩ = some (.bool false) := HC2.out.cell 3
    have qz3 : W2.frozen? ⟨v2, 3, none⟩ = false := HC2.out.free _
    have q4 : W2.cell? ⟨v2, 4, none⟩ = some (.int .i64 0) := HC2.out.cell 4
    have qz4 : W2.frozen? ⟨v2, 4, none⟩ = false := HC2.out.free _
    go_enter Try.func20, Try.ntmps20
    go_wp2_with fail
    refine HF.out.mono ?_
    rintro e w1 ⟨rfl, rfl⟩
    go_wp2_with fail
    refine (HO _).out.mono ?_
    rintro e w1 ⟨rfl, rfl⟩
    go_wp2_with (refine wpList_store_fresh rfl 32 (.tmp 9) (.tmp 34) rfl _ #[.int .i64 0, .int .i64 ow, .bool false, .bool false, .int .i64 0] v2 hv2 (by rfl) (by rfl) size32 rfl (by simp [Value.oneCell']) ?_; rw [hW2])
    refine HLA.out.mono ?_
    rintro e w2 ⟨rfl, rfl⟩
    go_wp2_with fail
    refine bodyPost_ret (v := .agg #[.int .i64 0, .int .i64 ow, .bool false, .bool false, .int .i64 0]) (by simp [results, Try.results20, go_sem, r0, r1, r2, r3, r4]) rfl ⟨rfl, ?_⟩
    rw [← hv]
    exact st5 HW2.out (Nat.le_refl _) _ _ _ _ _

set_option maxHeartbeats 2000000 in
theorem state_new {M : Int} {l : List Sm} {F : List Nat} {A : Option Addr} {n c : Nat} {am : Option Nat} (g : Nat) (id : Int) (w : World) (hn : n ≤ 1000) (H : Hid (RoI w g M l F A n c am)) (hx : Hid ((Lit.int .i64 id).wf = true)) (hp : Hid (posI (ids l) id = none)) (s : Stt) (hs : Hid (stateL l id = s)) :
    Calls Try.prog 20 #[.pointer (some ⟨g, 0, none⟩), .int .i64 id] w fun e w' => e = .returned (.agg #[.int .i64 s.k, .int .i64 s.o, .bool s.a, .bool s.b, .int .i64 s.y]) ∧ Below w.heap.size w w' := by
  obtain ⟨ow, ho⟩ : ∃ ow, ownO id = ow := ⟨_, rfl⟩
  obtain ⟨kk, hkk⟩ : ∃ kk, ownK id = kk := ⟨_, rfl⟩
  have HO := fun w => hide (owner_q id ow kk w ho hkk)
  have HOO := hide ho
  have HKK := hide hkk
  clear ho hkk
  have HW1 : Hid (Below w.heap.size w (w.alloc (.cells #[.int .i64 0, .int .i64 0, .bool false, .bool false, .int .i64 0] 32))) := hide (st_alloc1 w _)
  have H1 := hide (H.out.kept HW1.out)
  obtain ⟨v, hv⟩ : ∃ v, w.heap.size = v := ⟨_, rfl⟩
  obtain ⟨W1, hW1⟩ : ∃ W1, w.alloc (.cells #[.int .i64 0, .int .i64 0, .bool false, .bool false, .int .i64 0] 32) = W1 := ⟨_, rfl⟩
  rw [hW1] at HW1 H1
  have HC : Hid (Blk W1 v 32 #[.int .i64 0, .int .i64 0, .bool false, .bool false, .int .i64 0]) := hide (by rw [← hW1, ← hv]; exact Blk.born w 32 _)
  have HF := hide (find_any g id 0 false W1 hx H1 (hide (by unfold posZ; rw [hp.out]; rfl)) (hide (by rw [hp.out]; rfl)))
  clear H
  cases kk
  · obtain rfl : Stt.zero = s := by
      rw [← hs.out, stateL_none hp.out, HKK.out]; rfl
    have r0 : W1.cell? ⟨v, 0, none⟩ = some (.int .i64 0) := HC.out.cell 0
    have rz0 : W1.frozen? ⟨v, 0, none⟩ = false := HC.out.free _
    have r1 : W1.cell? ⟨v, 1, none⟩ = some (.int .i64 0) := HC.out.cell 1
    have rz1 : W1.frozen? ⟨v, 1, none⟩ = false := HC.out.free _
    have r2 : W1.cell? ⟨v, 2, none⟩ = some (.bool false) := HC.out.cell 2
    have rz2 : W1.frozen? ⟨v, 2, none⟩ = false := HC.out.free _
    have r3 : W1.cell? ⟨v, 3, none⟩ = some (.bool false) := HC.out.cell 3
    have rz3 : W1.frozen? ⟨v, 3, none⟩ = false := HC.out.free _
    have r4 : W1.cell? ⟨v, 4, none⟩ = some (.int .i64 0) := HC.out.cell 4
    have rz4 : W1.frozen? ⟨v, 4, none⟩ = false := HC.out.free _
    go_enter Try.func20, Try.ntmps20
    go_wp2_with fail
    refine HF.out.mono ?_
    rintro e w1 ⟨rfl, rfl⟩
    go_wp2_with fail
    refine (HO _).out.mono ?_
    rintro e w1 ⟨rfl, rfl⟩
    go_wp2_with fail
    refine bodyPost_ret (v := .agg #[.int .i64 0, .int .i64 0, .bool false, .bool false, .int .i64 0]) (by simp [results, Try.results20, go_sem, r0, r1, r2, r3, r4]) rfl ⟨rfl, ?_⟩
    rw [← hv]
    exact st5 HW1.out (Nat.le_refl _) _ _ _ _ _
  · have HS : Hid (s = if id < lastL l ow then ⟨1, ow, false, false, 0⟩ else ⟨0, ow, false, false, 0⟩) := hide (by
      rw [← hs.out, stateL_none hp.out, HKK.out, HOO.out]; rfl)
    obtain ⟨v2, hv2⟩ : ∃ v2, W1.heap.size = v2 := ⟨_, rfl⟩
    obtain ⟨W2, hW2⟩ : ∃ W2, W1.alloc (.cells #[.int .i64 0, .int .i64 ow, .bool false, .bool false, .int .i64 0] 32) = W2 := ⟨_, rfl⟩
    have HW2 : Hid (Below w.heap.size w W2) := hide (by rw [← hW2]; exact HW1.out.alloc HW1.out.size _)
    have HC2 : Hid (Blk W2 v2 32 #[.int .i64 0, .int .i64 ow, .bool false, .bool false, .int .i64 0]) := hide (by rw [← hW2, ← hv2]; exact Blk.born W1 32 _)
    have HC3 : Hid (Blk W2 v 32 #[.int .i64 0, .int .i64 0, .bool false, .bool false, .int .i64 0]) := hide (by rw [← hW2]; exact HC.out.alloc _)
    have H2 := hide (H1.out.kept (by rw [← hW2]; exact st_alloc1 W1 _ : Below W1.heap.size W1 W2))
    have hne : v2 ≠ v := by have := HC.out.lt; omega
    have hne' : v ≠ v2 := hne.symm
    have hle : w.heap.size ≤ v2 := by have := HW1.out.size; omega
    have hle1 : w.heap.size ≤ v := Nat.le_of_eq hv
    have HLA := hide (last_any g ow W2 H2)
    obtain ⟨z, hz⟩ : ∃ z, lastL l ow = z := ⟨_, rfl⟩
    rw [hz] at HS HLA
    clear hz
    have r0 : W2.cell? ⟨v, 0, none⟩ = some (.int .i64 0) := HC3.out.cell 0
    have rz0 : W2.frozen? ⟨v, 0, none⟩ = false := HC3.out.free _
    have r1 : W2.cell? ⟨v, 1, none⟩ = some (.int .i64 0) := HC3.out.cell 1
    have rz1 : W2.frozen? ⟨v, 1, none⟩ = false := HC3.out.free _
    have r2 : W2.cell? ⟨v, 2, none⟩ = some (.bool false) := HC3.out.cell 2
    have rz2 : W2.frozen? ⟨v, 2, none⟩ = false := HC3.out.free _
    have r3 : W2.cell? ⟨v, 3, none⟩ = some (.bool false) := HC3.out.cell 3
    have rz3 : W2.frozen? ⟨v, 3, none⟩ = false := HC3.out.free _
    have r4 : W2.cell? ⟨v, 4, none⟩ = some (.int .i64 0) := HC3.out.cell 4
    have rz4 : W2.frozen? ⟨v, 4, none⟩ = false := HC3.out.free _
    have q0 : W2.cell? ⟨v2, 0, none⟩ = some (.int .i64 0) := HC2.out.cell 0
    have qz0 : W2.frozen? ⟨v2, 0, none⟩ = false := HC2.out.free _
    have q1 : W2.cell? ⟨v2, 1, none⟩ = some (.int .i64 ow) := HC2.out.cell 1
    have qz1 : W2.frozen? ⟨v2, 1, none⟩ = false := HC2.out.free _
    have q2 : W2.cell? ⟨v2, 2, none⟩ = some (.bool false) := HC2.out.cell 2
    have qz2 : W2.frozen? ⟨v2, 2, none⟩ = false := HC2.out.free _
    have q3 : W2.cell? ⟨v2, 3, none⟩ = some (.bool false) := HC2.out.cell 3
    have qz3 : W2.frozen? ⟨v2, 3, none⟩ = false := HC2.out.free _
    have q4 : W2.cell? ⟨v2, 4, none⟩ = some (.int .i64 0) := HC2.out.cell 4
    have qz4 : W2.frozen? ⟨v2, 4, none⟩ = false := HC2.out.free _
    by_cases hzi : id < z
    · obtain rfl : s = ⟨1, ow, false, false, 0⟩ := by rw [HS.out, if_pos hzi]
      have hb : z > id := hzi
      clear hzi
      go_enter Try.func20, Try.ntmps20
      go_wp2_with fail
      refine HF.out.mono ?_
      rintro e w1 ⟨rfl, rfl⟩
      go_wp2_with fail
      refine (HO _).out.mono ?_
      rintro e w1 ⟨rfl, rfl⟩
      go_wp2_with (refine wpList_store_fresh rfl 32 (.tmp 9) (.tmp 34) rfl _ #[.int .i64 0, .int .i64 ow, .bool false, .bool false, .int .i64 0] v2 hv2 (by rfl) (by rfl) size32 rfl (by simp [Value.oneCell']) ?_; rw [hW2])
      refine HLA.out.mono ?_
      rintro e w2 ⟨rfl, rfl⟩
      go_wp2_with fail
      refine bodyPost_ret (v := .agg #[.int .i64 1, .int .i64 ow, .bool false, .bool false, .int .i64 0]) (by simp [results, Try.results20, go_sem, r0, r1, r2, r3, r4]) rfl ⟨rfl, ?_⟩
      rw [← hv]
      exact st5 (st_set HW2.out (by exact hle) _) (Nat.le_refl _) _ _ _ _ _
    · obtain rfl : s = ⟨0, ow, false, false, 0⟩ := by rw [HS.out, if_neg hzi]
      go_enter Try.func20, Try.ntmps20
      go_wp2_with fail
      refine HF.out.mono ?_
      rintro e w1 ⟨rfl, rfl⟩
      go_wp2_with fail
      refine (HO _).out.mono ?_
      rintro e w1 ⟨rfl, rfl⟩
      go_wp2_with (refine wpList_store_fresh rfl 32 (.tmp 9) (.tmp 34) rfl _ #[.int .i64 0, .int .i64 ow, .bool false, .bool false, .int .i64 0] v2 hv2 (by rfl) (by rfl) size32 rfl (by simp [Value.oneCell']) ?_; rw [hW2])
      refine HLA.out.mono ?_
      rintro e w2 ⟨rfl, rfl⟩
      go_wp2_with fail
      refine bodyPost_ret (v := .agg #[.int .i64 0, .int .i64 ow, .bool false, .bool false, .int .i64 0]) (by simp [results, Try.results20, go_sem, r0, r1, r2, r3, r4]) rfl ⟨rfl, ?_⟩
      rw [← hv]
      exact st5 HW2.out (Nat.le_refl _) _ _ _ _ _

theorem st_there {w : World} {v : Nat} {t : TypeId} {cs : Array Value} (h : Blk w v t cs) : w.there v 0 cs.size := fun j hj => by
  rw [Nat.zero_add]
  refine ⟨?_, h.free _⟩
  rw [h.cell j, Array.getElem?_eq_getElem hj]; rfl
theorem below_cells {w W : World} (h : Below w.heap.size w W) {v : Nat} (hv : w.heap.size ≤ v) (o : Nat) (vs : List Value) : Below w.heap.size w (W.setCells v o vs) :=
  h.trans (Only.below (Only.setCells (F := [v]) (List.mem_singleton.2 rfl) vs o W) h.size (fun b hb => by rw [List.mem_singleton.1 hb]; exact hv))
theorem get_nil (id : Int) (w : World) : Calls Try.prog 16 #[.pointer none, .int .i64 id] w fun e w' => e = .returned (.tuple #[.agg #[.int .i64 0, .int .i64 0, .int .i64 0, .bool false, .bool false, .int .i64 0, .complex .f64 0 0, .bool false, .string ByteArray.empty, .int .i64 0, .int .i64 0, .int .i64 0, .bool false, .string ByteArray.empty, .int .i64 0, .int .i64 0, .int .i64 0], .bool false]) ∧ Below w.heap.size w w' := by
  obtain ⟨v, hv⟩ : ∃ v, w.heap.size = v := ⟨_, rfl⟩
  obtain ⟨W1, hW1⟩ : ∃ W1, w.alloc (.cells #[.int .i64 0, .int .i64 0, .int .i64 0, .bool false, .bool false, .int .i64 0, .complex .f64 0 0, .bool false, .string ⟨#[]⟩, .int .i64 0, .int .i64 0, .int .i64 0, .bool false, .string ⟨#[]⟩, .int .i64 0, .int .i64 0, .int .i64 0] 41) = W1 := ⟨_, rfl⟩
  have HW1 : Hid (Below w.heap.size w W1) := hide (by rw [← hW1]; exact st_alloc1 w _)
  have HC : Hid (Blk W1 v 41 #[.int .i64 0, .int .i64 0, .int .i64 0, .bool false, .bool false, .int .i64 0, .complex .f64 0 0, .bool false, .string ⟨#[]⟩, .int .i64 0, .int .i64 0, .int .i64 0, .bool false, .string ⟨#[]⟩, .int .i64 0, .int .i64 0, .int .i64 0]) := hide (by rw [← hW1, ← hv]; exact Blk.born w 41 _)
  have HF := hide (find_nil id W1)
  obtain ⟨W2, hW2⟩ : ∃ W2, W1.setCells v 0 (#[.int .i64 0, .int .i64 0, .int .i64 0, .bool false, .bool false, .int .i64 0, .complex .f64 0 0, .bool false, .string ⟨#[]⟩, .int .i64 0, .int .i64 0, .int .i64 0, .bool false, .string ⟨#[]⟩, .int .i64 0, .int .i64 0, .int .i64 0] : Array Value).toList = W2 := ⟨_, rfl⟩
  have HC2 : Hid (Blk W2 v 41 #[.int .i64 0, .int .i64 0, .int .i64 0, .bool false, .bool false, .int .i64 0, .complex .f64 0 0, .bool false, .string ⟨#[]⟩, .int .i64 0, .int .i64 0, .int .i64 0, .bool false, .string ⟨#[]⟩, .int .i64 0, .int .i64 0, .int .i64 0]) := hide (by rw [← hW2]; exact Blk.setAll HC.out _ rfl)
  have HW2 : Hid (Below w.heap.size w W2) := hide (by rw [← hW2]; exact below_cells HW1.out (Nat.le_of_eq hv) _ _)
  have HTH : Hid (W1.there v 0 17) := hide (st_there HC.out)
  go_enter Try.func16, Try.ntmps16
  go_wp2_with fail
  refine HF.out.mono ?_
  rintro e w1 ⟨rfl, rfl⟩
  clear HF
  go_wp2_with (refine wpList_store_mid rfl 41 (.tmp 4) (.tmp 16) rfl v 0 #[.int .i64 0, .int .i64 0, .int .i64 0, .bool false, .bool false, .int .i64 0, .complex .f64 0 0, .bool false, .string ⟨#[]⟩, .int .i64 0, .int .i64 0, .int .i64 0, .bool false, .string ⟨#[]⟩, .int .i64 0, .int .i64 0, .int .i64 0] (by rfl) (by rfl) HTH.out size41 (by simp [Value.oneCell']) ?_; rw [hW2])
  have x0 : W2.cell? ⟨v, 0, none⟩ = some (.int .i64 0) := HC2.out.cell 0
  have x1 : W2.cell? ⟨v, 1, none⟩ = some (.int .i64 0) := HC2.out.cell 1
  have x2 : W2.cell? ⟨v, 2, none⟩ = some (.int .i64 0) := HC2.out.cell 2
  have x3 : W2.cell? ⟨v, 3, none⟩ = some (.bool false) := HC2.out.cell 3
  have x4 : W2.cell? ⟨v, 4, none⟩ = some (.bool false) := HC2.out.cell 4
  have x5 : W2.cell? ⟨v, 5, none⟩ = some (.int .i64 0) := HC2.out.cell 5
  have x6 : W2.cell? ⟨v, 6, none⟩ = some (.complex .f64 0 0) := HC2.out.cell 6
  have x7 : W2.cell? ⟨v, 7, none⟩ = some (.bool false) := HC2.out.cell 7
  have x8 : W2.cell? ⟨v, 8, none⟩ = some (.string ByteArray.empty) := HC2.out.cell 8
  have x9 : W2.cell? ⟨v, 9, none⟩ = some (.int .i64 0) := HC2.out.cell 9
  have x10 : W2.cell? ⟨v, 10, none⟩ = some (.int .i64 0) := HC2.out.cell 10
  have x11 : W2.cell? ⟨v, 11, none⟩ = some (.int .i64 0) := HC2.out.cell 11
  have x12 : W2.cell? ⟨v, 12, none⟩ = some (.bool false) := HC2.out.cell 12
  have x13 : W2.cell? ⟨v, 13, none⟩ = some (.string ByteArray.empty) := HC2.out.cell 13
  have x14 : W2.cell? ⟨v, 14, none⟩ = some (.int .i64 0) := HC2.out.cell 14
  have x15 : W2.cell? ⟨v, 15, none⟩ = some (.int .i64 0) := HC2.out.cell 15
  have x16 : W2.cell? ⟨v, 16, none⟩ = some (.int .i64 0) := HC2.out.cell 16
  refine bodyPost_ret (v := .tuple #[.agg #[.int .i64 0, .int .i64 0, .int .i64 0, .bool false, .bool false, .int .i64 0, .complex .f64 0 0, .bool false, .string ByteArray.empty, .int .i64 0, .int .i64 0, .int .i64 0, .bool false, .string ByteArray.empty, .int .i64 0, .int .i64 0, .int .i64 0], .bool false]) (by simp [results, Try.results16, go_sem, x0, x1, x2, x3, x4, x5, x6, x7, x8, x9, x10, x11, x12, x13, x14, x15, x16]) rfl ⟨rfl, ?_⟩
  first | exact HW2.out | (rw [← hv]; exact HW2.out)
set_option maxHeartbeats 2000000 in
theorem get_found {M : Int} {l : List Sm} {F : List Nat} {A : Option Addr} {n c : Nat} {am : Option Nat} (g : Nat) (id : Int) (w : World) (hn : n ≤ 1000) (H : Hid (RoI w g M l F A n c am)) (hx : Hid ((Lit.int .i64 id).wf = true)) (i : Nat) (m : Sm) (hp : Hid (posI (ids l) id = some i)) (hm : Hid (l[i]? = some m)) :
    Calls Try.prog 16 #[.pointer (some ⟨g, 0, none⟩), .int .i64 id] w fun e w' => e = .returned (.tuple #[.agg #[.int .i64 m.id, .int .i64 m.k, .int .i64 m.o, .bool m.a, .bool m.b, .int .i64 m.y, .complex .f64 m.cx m.cy, .bool false, .string ByteArray.empty, .int .i64 0, .int .i64 0, .int .i64 0, .bool false, .string ByteArray.empty, .int .i64 0, .int .i64 0, .int .i64 0], .bool true]) ∧ Below w.heap.size w w' := by
  obtain ⟨v, hv⟩ : ∃ v, w.heap.size = v := ⟨_, rfl⟩
  obtain ⟨W1, hW1⟩ : ∃ W1, w.alloc (.cells #[.int .i64 0, .int .i64 0, .int .i64 0, .bool false, .bool false, .int .i64 0, .complex .f64 0 0, .bool false, .string ⟨#[]⟩, .int .i64 0, .int .i64 0, .int .i64 0, .bool false, .string ⟨#[]⟩, .int .i64 0, .int .i64 0, .int .i64 0] 41) = W1 := ⟨_, rfl⟩
  have HW1 : Hid (Below w.heap.size w W1) := hide (by rw [← hW1]; exact st_alloc1 w _)
  have HC : Hid (Blk W1 v 41 #[.int .i64 0, .int .i64 0, .int .i64 0, .bool false, .bool false, .int .i64 0, .complex .f64 0 0, .bool false, .string ⟨#[]⟩, .int .i64 0, .int .i64 0, .int .i64 0, .bool false, .string ⟨#[]⟩, .int .i64 0, .int .i64 0, .int .i64 0]) := hide (by rw [← hW1, ← hv]; exact Blk.born w 41 _)
  have H1 := hide (H.out.kept HW1.out)
  have hin : i < n := by rw [← H.out.num]; exact (List.getElem?_eq_some_iff.1 hm.out).1
  have c1 : W1.cell? ⟨g, 1, none⟩ = some (.slice A n c) := H1.out.blk.cell 1
  obtain ⟨r, rfl, _, _, t⟩ := H1.out.at hm.out
  have HTT := hide t
  clear t
  have HF := hide (find_any g id (i : Nat) true W1 hx H1 (hide (by unfold posZ; rw [hp.out]; rfl)) (hide (by rw [hp.out]; rfl)))
  clear H
  obtain ⟨W2, hW2⟩ : ∃ W2, W1.setCells v 0 (#[.int .i64 m.id, .int .i64 m.k, .int .i64 m.o, .bool m.a, .bool m.b, .int .i64 m.y, .complex .f64 m.cx m.cy, .bool false, .string ByteArray.empty, .int .i64 0, .int .i64 0, .int .i64 0, .bool false, .string ByteArray.empty, .int .i64 0, .int .i64 0, .int .i64 0] : Array Value).toList = W2 := ⟨_, rfl⟩
  have HC2 : Hid (Blk W2 v 41 #[.int .i64 m.id, .int .i64 m.k, .int .i64 m.o, .bool m.a, .bool m.b, .int .i64 m.y, .complex .f64 m.cx m.cy, .bool false, .string ByteArray.empty, .int .i64 0, .int .i64 0, .int .i64 0, .bool false, .string ByteArray.empty, .int .i64 0, .int .i64 0, .int .i64 0]) := hide (by rw [← hW2]; exact Blk.setAll HC.out _ rfl)
  have HW2 : Hid (Below w.heap.size w W2) := hide (by rw [← hW2]; exact below_cells HW1.out (Nat.le_of_eq hv) _ _)
  have HTH : Hid (W1.there v 0 17) := hide (st_there HC.out)
  go_enter Try.func16, Try.ntmps16
  go_wp2_with fail
  refine HF.out.mono ?_
  rintro e w1 ⟨rfl, rfl⟩
  clear HF
  go_wp2_with (first | refine wpList_load_row rfl 41 (.tmp 22) rfl r (i * 17) (by rfl) (row17 m) HTT.out Try.underlying41 rfl size41 #[.int .i64 m.id, .int .i64 m.k, .int .i64 m.o, .bool m.a, .bool m.b, .int .i64 m.y, .complex .f64 m.cx m.cy, .bool false, .string ByteArray.empty, .int .i64 0, .int .i64 0, .int .i64 0, .bool false, .string ByteArray.empty, .int .i64 0, .int .i64 0, .int .i64 0] rfl ?_ | (refine wpList_store_mid rfl 41 (.tmp 4) (.tmp 23) rfl v 0 #[.int .i64 m.id, .int .i64 m.k, .int .i64 m.o, .bool m.a, .bool m.b, .int .i64 m.y, .complex .f64 m.cx m.cy, .bool false, .string ByteArray.empty, .int .i64 0, .int .i64 0, .int .i64 0, .bool false, .string ByteArray.empty, .int .i64 0, .int .i64 0, .int .i64 0] (by rfl) (by rfl) HTH.out size41 (all_oneCell_toArray (row17_one m)) ?_; rw [hW2]))
  have x0 : W2.cell? ⟨v, 0, none⟩ = some (.int .i64 m.id) := HC2.out.cell 0
  have x1 : W2.cell? ⟨v, 1, none⟩ = some (.int .i64 m.k) := HC2.out.cell 1
  have x2 : W2.cell? ⟨v, 2, none⟩ = some (.int .i64 m.o) := HC2.out.cell 2
  have x3 : W2.cell? ⟨v, 3, none⟩ = some (.bool m.a) := HC2.out.cell 3
  have x4 : W2.cell? ⟨v, 4, none⟩ = some (.bool m.b) := HC2.out.cell 4
  have x5 : W2.cell? ⟨v, 5, none⟩ = some (.int .i64 m.y) := HC2.out.cell 5
  have x6 : W2.cell? ⟨v, 6, none⟩ = some (.complex .f64 m.cx m.cy) := HC2.out.cell 6
  have x7 : W2.cell? ⟨v, 7, none⟩ = some (.bool false) := HC2.out.cell 7
  have x8 : W2.cell? ⟨v, 8, none⟩ = some (.string ByteArray.empty) := HC2.out.cell 8
  have x9 : W2.cell? ⟨v, 9, none⟩ = some (.int .i64 0) := HC2.out.cell 9
  have x10 : W2.cell? ⟨v, 10, none⟩ = some (.int .i64 0) := HC2.out.cell 10
  have x11 : W2.cell? ⟨v, 11, none⟩ = some (.int .i64 0) := HC2.out.cell 11
  have x12 : W2.cell? ⟨v, 12, none⟩ = some (.bool false) := HC2.out.cell 12
  have x13 : W2.cell? ⟨v, 13, none⟩ = some (.string ByteArray.empty) := HC2.out.cell 13
  have x14 : W2.cell? ⟨v, 14, none⟩ = some (.int .i64 0) := HC2.out.cell 14
  have x15 : W2.cell? ⟨v, 15, none⟩ = some (.int .i64 0) := HC2.out.cell 15
  have x16 : W2.cell? ⟨v, 16, none⟩ = some (.int .i64 0) := HC2.out.cell 16
  refine bodyPost_ret (v := .tuple #[.agg #[.int .i64 m.id, .int .i64 m.k, .int .i64 m.o, .bool m.a, .bool m.b, .int .i64 m.y, .complex .f64 m.cx m.cy, .bool false, .string ByteArray.empty, .int .i64 0, .int .i64 0, .int .i64 0, .bool false, .string ByteArray.empty, .int .i64 0, .int .i64 0, .int .i64 0], .bool true]) (by simp [results, Try.results16, go_sem, x0, x1, x2, x3, x4, x5, x6, x7, x8, x9, x10, x11, x12, x13, x14, x15, x16]) rfl ⟨rfl, ?_⟩
  first | exact HW2.out | (rw [← hv]; exact HW2.out)

end Go.Proofs.Ytngligcjcdpnhaa
