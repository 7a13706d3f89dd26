/- Contract: Set of a roster. -/
import Derived.Test.YtngligcjcdpnhaaR
import Derived.Deep.RegionHeld
import Derived.Laws.OwnMore
import Derived.Deep.Cut
namespace Go.Proofs.Ytngligcjcdpnhaa
open Go.RowKit Go.Maps
set_option linter.unusedSimpArgs false
set_option linter.unusedVariables false

/-- A whole value stored, as a step of a drawn region. -/
theorem step_store {P : Program} {w : World} {ops : Array Oper} {o : Oper} {a : Act} {J : Act → World → Prop} {Q : Exit → Act → World → Prop} {E : Prop} (hgd : o.guard = none) (ty : TypeId) (x y : Operand) (ho : o.op = .store ty x y)
    (b off : Nat) (cells : Array Value) (hx : a.eval x = .pointer (some ⟨b, off, none⟩)) (hy : a.eval y = .agg cells)
    (ht : w.there b off cells.size) (hi : (P.info? ty).map (·.size) = some cells.size) (h1 : cells.all (·.oneCell') = true)
    (h : J (a.put o.dst undef) (w.setCells b off cells.toList)) : if Region.wanted o (yielded ops a.tmps) = true then Oper.wp P o a w J Q else E := by
  have hw : Region.wanted o (yielded ops a.tmps) = true := by simp [Region.wanted, hgd]
  rw [if_pos hw]
  exact wp_store_mid ty x y ho b off cells hx hy ht hi h1 h

theorem wp_load_row {o : Oper} {a : Act} {K : Act → World → Prop} {Q : Exit → Act → World → Prop} {w : World} (t : TypeId) (x : Operand) (ho : o.op = .load t x) (b off : Nat) (hx : a.eval x = .pointer (some ⟨b, off, none⟩)) (cs : List Value) {d : TypeDesc}
    (hc : ∀ j v, cs[j]? = some v → w.cell? ⟨b, off + j, none⟩ = some v) (hu : Try.prog.underlying t = some d) (hd : d.isRow = true) (hi : (Try.prog.info? t).map (·.size) = some cs.length) (c' : Array Value) (hc' : cs.toArray = c')
    (h : K (a.put o.dst (.agg c')) w) : Oper.wp Try.prog o a w K Q :=
  wp_load_mid t x ho b off hx cs d hc hu hd hi (by rw [hc']; exact h)
theorem wpList_load_w {ops : Array Oper} {rest : List Oper} {o : Oper} {a : Act} {Q : Exit → Act → World → Prop} {w : World} (hw : Region.wanted o (yielded ops a.tmps) = true) (t : TypeId) (x : Operand) (ho : o.op = .load t x) (b off : Nat) (hx : a.eval x = .pointer (some ⟨b, off, none⟩)) (cs : List Value) {d : TypeDesc}
    (hc : ∀ j v, cs[j]? = some v → w.cell? ⟨b, off + j, none⟩ = some v) (hu : Try.prog.underlying t = some d) (hd : d.isRow = true) (hi : (Try.prog.info? t).map (·.size) = some cs.length) (c' : Array Value) (hc' : cs.toArray = c')
    (h : wpList Try.prog ops Q rest (a.put o.dst (.agg c')) w) : wpList Try.prog ops Q (o :: rest) a w :=
  wpList_step fun K hK => by
    rw [if_pos hw]
    exact wp_load_row t x ho b off hx cs hc hu hd hi c' hc' (hK _ _ h)
theorem row_cells {w : World} {v : Nat} {t : TypeId} {cs : List Value} (h : Blk w v t cs.toArray) : ∀ j u, cs[j]? = some u → w.cell? ⟨v, 0 + j, none⟩ = some u := fun j u hu => by
  rw [Nat.zero_add, h.cell j, ← hu]; exact List.getElem?_toArray

def setAt (xs : List Value) : Nat → List Value → List Value
  | _, [] => xs
  | o, v :: r => setAt (xs.set o v) (o + 1) r
theorem setAt_len : ∀ (vs : List Value) (o : Nat) (xs : List Value), (setAt xs o vs).length = xs.length
  | [], _, _ => rfl
  | v :: r, o, xs => by rw [setAt, setAt_len r]; simp
theorem setAt_get : ∀ (vs : List Value) (o : Nat) (xs : List Value) (i : Nat), i < xs.length → (setAt xs o vs)[i]? = if o ≤ i ∧ i < o + vs.length then vs[i - o]? else xs[i]?
  | [], o, xs, i, h => by rw [setAt, if_neg (by simp)]
  | v :: r, o, xs, i, h => by
    rw [setAt, setAt_get r (o + 1) _ i (by simpa using h), List.getElem?_set]
    by_cases e : o = i
    · subst e
      rw [if_neg (by omega), if_pos rfl, if_pos h, if_pos ⟨Nat.le_refl _, by simp⟩, Nat.sub_self]; rfl
    · rw [if_neg e]
      by_cases e2 : o + 1 ≤ i ∧ i < o + 1 + r.length
      · rw [if_pos e2, if_pos (by simp; omega), show i - o = (i - (o + 1)) + 1 by omega]; rfl
      · rw [if_neg e2, if_neg (by simp; omega)]
theorem own_setCells {base : Nat} {e : TypeId} {size n cap g : Nat} : ∀ (vs : List Value) (o : Nat) (w : World) (xs : List Value), w.ownsRow base e size (.slice (some ⟨g, 0, none⟩) n cap) n xs → (w.setCells g o vs).ownsRow base e size (.slice (some ⟨g, 0, none⟩) n cap) n (setAt xs o vs)
  | [], _, _, _, h => h
  | v :: r, o, w, xs, h => by
    rw [World.setCells, setAt]
    exact own_setCells r (o + 1) _ _ (h.stored o v).1
theorem flat_set {f : Sm → List Value} {s : Nat} (hs : 0 < s) (hf : ∀ m, (f m).length = s) {l : List Sm} {i : Nat} {m : Sm} (hi : i < l.length) : setAt (l.flatMap f) (i * s) (f m) = (l.set i m).flatMap f := by
  apply List.ext_getElem?
  intro j
  have hL := flat_length hf l
  have hL2 := flat_length hf (l.set i m)
  rw [List.length_set] at hL2
  by_cases hj : j < l.length * s
  · rw [setAt_get _ _ _ j (by omega), hf]
    have hq : j / s < l.length := (Nat.div_lt_iff_lt_mul hs).2 hj
    have hr : j % s < s := Nat.mod_lt _ hs
    have hjs : j = j / s * s + j % s := by have := Nat.div_add_mod j s; rw [Nat.mul_comm] at this; omega
    by_cases e : j / s = i
    · have hg := flat_get hf (l := l.set i m) (i := j / s) (m := m) (by rw [e, List.getElem?_set_self hi]) (j % s) hr
      rw [← hjs] at hg
      rw [hg, if_pos (by rw [← e]; omega)]
      congr 1
      rw [← e]; omega
    · obtain ⟨z, hz⟩ : ∃ z, l[j / s]? = some z := ⟨_, List.getElem?_eq_getElem hq⟩
      have hg := flat_get hf (l := l.set i m) (i := j / s) (m := z) (by rw [List.getElem?_set_ne (Ne.symm e)]; exact hz) (j % s) hr
      have hg2 := flat_get hf hz (j % s) hr
      rw [← hjs] at hg hg2
      rw [hg, hg2, if_neg]
      intro h
      apply e
      have h1 : i ≤ j / s := (Nat.le_div_iff_mul_le hs).2 h.1
      have h2 : j / s < i + 1 := (Nat.div_lt_iff_lt_mul hs).2 (by rw [Nat.succ_mul]; exact h.2)
      omega
  · rw [List.getElem?_eq_none (by rw [setAt_len]; omega), List.getElem?_eq_none (by omega)]

theorem own_ne_map {w : World} {base n b N sz : Nat} {e : TypeId} {v : Value} {xs : List Value} {f : Int → Option Int} (h : w.ownsRow base e sz v n xs) (hm : MapI w b N f) : ∀ c, v.ownBlock = some c → c ≠ b := by
  intro c hc
  rcases h.2 with ⟨e, _⟩ | ⟨g', cap, cur, e, _, e3, _⟩
  · subst e; cases hc
  · subst e
    have hc2 : g' = c := by simpa [Value.ownBlock] using hc
    subst hc2
    exact hm.ne e3
/-- What Set leaves. -/
theorem set_end {W : World} {g : Nat} {M : Int} {l : List Sm} {F : List Nat} {r n c i : Nat} {am : Option Nat} {m : Sm} (H : RoI W g M l F (some ⟨r, 0, none⟩) n c am) (hp : posI (ids l) m.id = some i) : RoI (W.setCells r (i * 17) (row17 m)) g M (l.set i m) F (some ⟨r, 0, none⟩) n c am := by
  have hil : i < l.length := by rw [← ids_length]; exact posI_lt hp
  have hrg := (H.row r rfl).2
  have hO : Only [r] W (W.setCells r (i * 17) (row17 m)) := Only.setCells (List.mem_singleton.2 rfl) _ _ _
  have hid := ids_set (posI_get hp)
  refine ⟨by rw [List.length_set]; exact H.num, ?_, ?_, H.row, ?_, H.mem, fun b hb => Nat.lt_of_lt_of_le (H.lt b hb) hO.size⟩
  · rw [lastL_set (posI_get hp), lastL_set (posI_get hp)]
    exact H.blk.only hO (fun h => hrg (List.mem_singleton.1 h).symm)
  · have h1 := own_setCells (row17 m) (i * 17) W _ H.own
    have h2 := flat_set (f := row17) (s := 17) (by decide) row17_len (m := m) hil
    unfold cells17 at h1 ⊢
    rw [h2] at h1
    exact h1
  · rcases H.mp with ⟨_, h⟩ | ⟨b, h1, h2, h3⟩
    · rw [h] at hil; simp at hil
    · refine .inr ⟨b, h1, h2, ?_⟩
      rw [hid]
      exact h3.only hO (fun h => own_ne_map H.own h3 r rfl (List.mem_singleton.1 h).symm)
theorem row_there {W : World} {r n c i : Nat} {l : List Sm} {z : Sm} (h : W.ownsRow 0 41 17 (.slice (some ⟨r, 0, none⟩) n c) n (cells17 l)) (hz : l[i]? = some z) : W.there r (i * 17) 17 := fun j hj => by
  refine ⟨?_, h.frozenAt _⟩
  have h1 := flat_get (f := row17) (s := 17) row17_len hz j hj
  rw [List.getElem?_eq_getElem (l := row17 z) (by rw [row17_len]; exact hj)] at h1
  rw [own_cell h h1]; rfl
theorem set_nil (m : Sm) (w : World) : Calls Try.prog 9 #[.pointer none, .agg #[.int .i64 m.id, .int .i64 m.k, .int .i64 m.o, .bool m.a, .bool m.b, .int .i64 m.y, .complex .f64 m.cx m.cy, .bool false, .string ByteArray.empty, .int .i64 0, .int .i64 0, .int .i64 0, .bool false, .string ByteArray.empty, .int .i64 0, .int .i64 0, .int .i64 0]] w fun e w' => e = .returned (.bool false) ∧ Below w.heap.size w w' := by
  obtain ⟨v, hv⟩ : ∃ v, w.heap.size = v := ⟨_, rfl⟩
  obtain ⟨W1, hW1⟩ : ∃ W1, w.alloc (.cells #[.int .i64 m.id, .int .i64 m.k, .int .i64 m.o, .bool m.a, .bool m.b, .int .i64 m.y, .complex .f64 m.cx m.cy, .bool false, .string ByteArray.empty, .int .i64 0, .int .i64 0, .int .i64 0, .bool false, .string ByteArray.empty, .int .i64 0, .int .i64 0, .int .i64 0] 41) = W1 := ⟨_, rfl⟩
  have HW1 : Hid (Below w.heap.size w W1) := hide (by rw [← hW1]; exact st_alloc1 w _)
  have HC : Hid (Blk W1 v 41 #[.int .i64 m.id, .int .i64 m.k, .int .i64 m.o, .bool m.a, .bool m.b, .int .i64 m.y, .complex .f64 m.cx m.cy, .bool false, .string ByteArray.empty, .int .i64 0, .int .i64 0, .int .i64 0, .bool false, .string ByteArray.empty, .int .i64 0, .int .i64 0, .int .i64 0]) := hide (by rw [← hW1, ← hv]; exact Blk.born w 41 _)
  have x0 : W1.cell? ⟨v, 0, none⟩ = some (.int .i64 m.id) := HC.out.cell 0
  have HF := hide (find_nil m.id W1)
  go_enter Try.func9, Try.ntmps9
  go_wp2_with fail
  refine HF.out.mono ?_
  rintro e w1 ⟨rfl, rfl⟩
  clear HF
  go_wp2_with fail
  go_ret
  exact ⟨rfl, HW1.out⟩
theorem set_none {M : Int} {l : List Sm} {F : List Nat} (g : Nat) (m : Sm) (w : World) (H : Hid (Ro w g M l F)) (hx : Hid ((Lit.int .i64 m.id).wf = true)) (hp : Hid (posI (ids l) m.id = none)) :
    Calls Try.prog 9 #[.pointer (some ⟨g, 0, none⟩), .agg #[.int .i64 m.id, .int .i64 m.k, .int .i64 m.o, .bool m.a, .bool m.b, .int .i64 m.y, .complex .f64 m.cx m.cy, .bool false, .string ByteArray.empty, .int .i64 0, .int .i64 0, .int .i64 0, .bool false, .string ByteArray.empty, .int .i64 0, .int .i64 0, .int .i64 0]] w fun e w' => e = .returned (.bool false) ∧ Below w.heap.size w w' := by
  obtain ⟨A, n, c, am, H0⟩ := H.out
  have HI := hide H0
  clear H0
  obtain ⟨v, hv⟩ : ∃ v, w.heap.size = v := ⟨_, rfl⟩
  obtain ⟨W1, hW1⟩ : ∃ W1, w.alloc (.cells #[.int .i64 m.id, .int .i64 m.k, .int .i64 m.o, .bool m.a, .bool m.b, .int .i64 m.y, .complex .f64 m.cx m.cy, .bool false, .string ByteArray.empty, .int .i64 0, .int .i64 0, .int .i64 0, .bool false, .string ByteArray.empty, .int .i64 0, .int .i64 0, .int .i64 0] 41) = W1 := ⟨_, rfl⟩
  have HW1 : Hid (Below w.heap.size w W1) := hide (by rw [← hW1]; exact st_alloc1 w _)
  have HC : Hid (Blk W1 v 41 #[.int .i64 m.id, .int .i64 m.k, .int .i64 m.o, .bool m.a, .bool m.b, .int .i64 m.y, .complex .f64 m.cx m.cy, .bool false, .string ByteArray.empty, .int .i64 0, .int .i64 0, .int .i64 0, .bool false, .string ByteArray.empty, .int .i64 0, .int .i64 0, .int .i64 0]) := hide (by rw [← hW1, ← hv]; exact Blk.born w 41 _)
  have x0 : W1.cell? ⟨v, 0, none⟩ = some (.int .i64 m.id) := HC.out.cell 0
  have HF := hide (find_any g m.id 0 false W1 hx (hide (HI.out.kept HW1.out)) (hide (by unfold posZ; rw [hp.out]; rfl)) (hide (by rw [hp.out]; rfl)))
  clear HI
  go_enter Try.func9, Try.ntmps9
  go_wp2_with fail
  refine HF.out.mono ?_
  rintro e w1 ⟨rfl, rfl⟩
  clear HF
  go_wp2_with fail
  go_ret
  exact ⟨rfl, HW1.out⟩

set_option maxHeartbeats 2000000 in
theorem set_no {M : Int} {l : List Sm} {F : List Nat} (g : Nat) (m : Sm) (i : Nat) (w : World) (hn1 : Hid (l.length ≤ 1000)) (H : Hid (Ro w g M l F)) (hx : Hid ((Lit.int .i64 m.id).wf = true)) (hp : Hid (posI (ids l) m.id = some i)) (hm : Hid (mayS m = false)) :
    Calls Try.prog 9 #[.pointer (some ⟨g, 0, none⟩), .agg #[.int .i64 m.id, .int .i64 m.k, .int .i64 m.o, .bool m.a, .bool m.b, .int .i64 m.y, .complex .f64 m.cx m.cy, .bool false, .string ByteArray.empty, .int .i64 0, .int .i64 0, .int .i64 0, .bool false, .string ByteArray.empty, .int .i64 0, .int .i64 0, .int .i64 0]] w fun e w' => e = .returned (.bool false) ∧ Below w.heap.size w w' := by
  obtain ⟨A, n, c, am, H0⟩ := H.out
  have HI := hide H0
  have hnn : n ≤ 1000 := by rw [← H0.num]; exact hn1.out
  clear H0
  obtain ⟨v, hv⟩ : ∃ v, w.heap.size = v := ⟨_, rfl⟩
  obtain ⟨W1, hW1⟩ : ∃ W1, w.alloc (.cells #[.int .i64 m.id, .int .i64 m.k, .int .i64 m.o, .bool m.a, .bool m.b, .int .i64 m.y, .complex .f64 m.cx m.cy, .bool false, .string ByteArray.empty, .int .i64 0, .int .i64 0, .int .i64 0, .bool false, .string ByteArray.empty, .int .i64 0, .int .i64 0, .int .i64 0] 41) = W1 := ⟨_, rfl⟩
  have HW1 : Hid (Below w.heap.size w W1) := hide (by rw [← hW1]; exact st_alloc1 w _)
  have HC : Hid (Blk W1 v 41 #[.int .i64 m.id, .int .i64 m.k, .int .i64 m.o, .bool m.a, .bool m.b, .int .i64 m.y, .complex .f64 m.cx m.cy, .bool false, .string ByteArray.empty, .int .i64 0, .int .i64 0, .int .i64 0, .bool false, .string ByteArray.empty, .int .i64 0, .int .i64 0, .int .i64 0]) := hide (by rw [← hW1, ← hv]; exact Blk.born w 41 _)
  have x0 : W1.cell? ⟨v, 0, none⟩ = some (.int .i64 m.id) := HC.out.cell 0
  have HF := hide (find_any g m.id (i : Nat) true W1 hx (hide (HI.out.kept HW1.out)) (hide (by unfold posZ; rw [hp.out]; rfl)) (hide (by rw [hp.out]; rfl)))
  have HRW : Hid (∀ j u, (row17 m)[j]? = some u → W1.cell? ⟨v, 0 + j, none⟩ = some u) := hide (row_cells HC.out)
  have HMM := hide (may_any m W1 false hm.out)
  go_enter Try.func9, Try.ntmps9
  go_wp2_with fail
  refine HF.out.mono ?_
  rintro e w1 ⟨rfl, rfl⟩
  clear HF
  go_wp2_with (refine wpList_load_w (by rfl) 41 (.tmp 3) rfl v 0 (by rfl) (row17 m) HRW.out Try.underlying41 rfl size41 #[.int .i64 m.id, .int .i64 m.k, .int .i64 m.o, .bool m.a, .bool m.b, .int .i64 m.y, .complex .f64 m.cx m.cy, .bool false, .string ByteArray.empty, .int .i64 0, .int .i64 0, .int .i64 0, .bool false, .string ByteArray.empty, .int .i64 0, .int .i64 0, .int .i64 0] rfl ?_)

  refine HMM.out.mono ?_
  rintro e w2 ⟨rfl, hb⟩
  have HB2 := hide (below_nextB HW1.out HW1.out.size hb)
  clear hb HMM
  go_wp2_with fail
  go_ret
  exact ⟨rfl, HB2.out⟩

end Go.Proofs.Ytngligcjcdpnhaa
