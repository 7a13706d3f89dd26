/- Sets in memory, lists of sets in memory; the reference's small functions. -/
import Derived.Test.YtgledbjkjpngeaaA
import Derived.Test.YtgledbjkjpngeaaK
import Derived.BigQuiet
import Derived.Laws.AppendOwnNone
namespace Go.Proofs.Ytgledbjkjpngeaa
open Go.RowKit Go.Maps

/-- A set in memory: a slice of truths, in a block of truths that K names. -/
def Inn (w : World) (K : Nat → Prop) (v : Value) (b : List Bool) : Prop :=
  ∃ A c, v = .slice A b.length c ∧ (A = none → c = 0) ∧ ∀ j q, b[j]? = some q → ∃ g o cs fr, A = some ⟨g, o, none⟩ ∧ K g ∧ w.heap[g]? = some (.cells cs 4 fr) ∧ w.cell? ⟨g, o + j, none⟩ = some (.bool q)
section
variable {w w' : World} {K K' : Nat → Prop} {v : Value} {b : List Bool}
theorem Inn.mono (h : Inn w K v b) (hk : ∀ g, g < w.heap.size → K g → K' g) : Inn w K' v b := by
  obtain ⟨A, c, e, hn, h⟩ := h
  refine ⟨A, c, e, hn, fun j q hj => ?_⟩
  obtain ⟨g, o, cs, fr, h1, h2, h3, h4⟩ := h j q hj
  exact ⟨g, o, cs, fr, h1, hk g (Array.getElem?_eq_some_iff.1 h3).1 h2, h3, h4⟩
theorem Inn.blocks (h : Inn w K v b) (hb : ∀ g, g < w.heap.size → K g → (∃ cs fr, w.heap[g]? = some (.cells cs 4 fr)) → w'.heap[g]? = w.heap[g]?) : Inn w' K v b := by
  obtain ⟨A, c, e, hn, h⟩ := h
  refine ⟨A, c, e, hn, fun j q hj => ?_⟩
  obtain ⟨g, o, cs, fr, h1, h2, h3, h4⟩ := h j q hj
  have h5 := hb g (Array.getElem?_eq_some_iff.1 h3).1 h2 ⟨cs, fr, h3⟩
  exact ⟨g, o, cs, fr, h1, h2, h5.trans h3, (World.cell?_of_block h5).trans h4⟩
theorem Inn.kept (h : Inn w K v b) (hb : Below w.heap.size w w') : Inn w' K v b := h.blocks fun g hg _ _ => hb.block g hg
theorem Inn.grown {row : Option Nat} (h : Inn w K v b) (hg : w.grownBy w' row) (hr : ∀ r, row = some r → ∃ cs e fr, w.heap[r]? = some (.cells cs e fr) ∧ e ≠ 4) : Inn w' K v b := h.blocks fun g hgl _ ⟨cs, fr, h4⟩ => hg.block g hgl fun e => by
  obtain ⟨cs', e', fr', h5, h6⟩ := hr g e.symm
  rw [h4] at h5
  simp only [Option.some.injEq, Obj.cells.injEq] at h5
  exact h6 h5.2.1.symm
theorem Inn.only {F : List Nat} (h : Inn w K v b) (ho : Only F w w') (hF : ∀ g, K g → g ∉ F) : Inn w' K v b := h.blocks fun g hg hk _ => ho.block g hg (hF g hk)
theorem Inn.drewN (h : Inn w K v b) (n : Nat) : Inn (w.drewN n) K v b := h
theorem Inn.sees (h : Inn w K v b) : ∃ A c, v = .slice A b.length c ∧ (A = none → b.length = 0 ∧ c = 0) ∧ Sees w A (b.map Value.bool) := by
  obtain ⟨A, c, e, hn, h⟩ := h
  refine ⟨A, c, e, fun hA => ⟨?_, hn hA⟩, fun j u hu => ?_⟩
  · cases b with
    | nil => rfl
    | cons q b =>
      obtain ⟨g, o, _, _, h1, _⟩ := h 0 q rfl
      rw [hA] at h1; cases h1
  · rw [List.getElem?_map] at hu
    cases e2 : b[j]? with
    | none => rw [e2] at hu; cases hu
    | some q =>
      rw [e2] at hu
      obtain ⟨g, o, cs, fr, h1, _, _, h4⟩ := h j q e2
      rw [← Option.some.inj hu]
      exact ⟨g, o, h1, h4⟩
theorem inn_own {base : Nat} (h : w.ownsRow base 4 1 v b.length (b.map Value.bool)) (hk : ∀ g, base ≤ g → K g) : Inn w K v b := by
  rcases h.2 with ⟨hv, hn⟩ | ⟨g, cap, cur, hv, hbg, hh, hr⟩
  · refine ⟨none, 0, by rw [hv, hn], fun _ => rfl, fun j q hj => ?_⟩
    have := (List.getElem?_eq_some_iff.1 hj).1
    omega
  · refine ⟨some ⟨g, 0, none⟩, cap, hv, (fun h => by cases h), fun j q hj => ⟨g, 0, cur, _, rfl, hk g hbg, hh, ?_⟩⟩
    have := h.cells (g := g) (by rw [hv]; rfl) j (.bool q) (by rw [List.getElem?_map, hj]; rfl)
    rwa [Addr.add_lit] at this
theorem inn_nil (w : World) (K : Nat → Prop) : Inn w K (.slice none 0 0) [] := ⟨none, 0, rfl, fun _ => rfl, fun j q hj => by simp at hj⟩
end

/-- A list of sets in memory. -/
def Sets (w : World) (K : Nat → Prop) (vs : List Value) (bs : List (List Bool)) : Prop :=
  vs.length = bs.length ∧ ∀ (i : Nat) (b : List Bool), bs[i]? = some b → ∃ v, vs[i]? = some v ∧ Inn w K v b
section
variable {w w' : World} {K K' : Nat → Prop} {vs : List Value} {bs : List (List Bool)}
theorem Sets.map {K2 : Nat → Prop} (h : Sets w K vs bs) (hm : ∀ v b, Inn w K v b → Inn w' K2 v b) : Sets w' K2 vs bs := ⟨h.1, fun i b (hb : bs[i]? = some b) => by
  obtain ⟨v, h1, h2⟩ := h.2 i b hb
  exact ⟨v, h1, hm v b h2⟩⟩
theorem Sets.nil (w : World) (K : Nat → Prop) : Sets w K [] [] := ⟨rfl, fun i b hb => by simp at hb⟩
theorem Sets.snoc {v : Value} {b : List Bool} (h : Sets w K vs bs) (hv : Inn w K v b) : Sets w K (vs ++ [v]) (bs ++ [b]) := by
  refine ⟨by simp [h.1], fun i b' hb => ?_⟩
  by_cases e : i < bs.length
  · rw [List.getElem?_append_left e] at hb
    rw [List.getElem?_append_left (by rw [h.1]; exact e)]
    exact h.2 i b' hb
  · have e2 : i = bs.length := by
      have := (List.getElem?_eq_some_iff.1 hb).1
      simp at this; omega
    subst e2
    rw [List.getElem?_append_right (Nat.le_refl _), Nat.sub_self] at hb
    refine ⟨v, by rw [← h.1, List.getElem?_append_right (Nat.le_refl _), Nat.sub_self]; rfl, ?_⟩
    have e3 : b = b' := Option.some.inj hb
    rw [← e3]; exact hv
end
/-- A row of sets is no row of truths. -/
theorem own_48 {w : World} {base n : Nat} {v : Value} {xs : List Value} (h : w.ownsRow base 48 1 v n xs) : ∀ r, v.ownBlock = some r → ∃ cs e fr, w.heap[r]? = some (.cells cs e fr) ∧ e ≠ 4 := by
  intro r hr
  rcases h.2 with ⟨hv, _⟩ | ⟨g, cap, cur, hv, _, hh, _⟩
  · rw [hv] at hr; cases hr
  · rw [hv] at hr
    have e : g = r := Option.some.inj hr
    subst e
    exact ⟨_, _, _, hh, by decide⟩

theorem own_none {w : World} (base : Nat) (e : TypeId) (h : base ≤ w.heap.size) : (w.alloc (.cells #[] e)).ownsRow base e 1 (.slice (some ⟨w.heap.size, 0, none⟩) 0 0) 0 [] :=
  ⟨rfl, .inr ⟨_, 0, #[], rfl, h, heap_alloc_new w _, Nat.le_refl _, Nat.zero_le _, rfl, rfl⟩⟩
theorem grown_refl (w : World) (row : Option Nat) : w.grownBy w row := ⟨rfl, rfl, rfl, Nat.le_refl _, fun _ _ _ => rfl⟩

/-- 'append(out, s...)', out the call's own, s a slice that is seen. -/
theorem wpList_pour {P : Program} {w : World} {ops : Array Oper} {rest : List Oper} {o : Oper} {a : Act} {Q : Exit → Act → World → Prop} (hgd : o.guard = none) (s x : Operand) (t : TypeId)
    (ho : o.op = .call { callee := .builtin .append, args := #[s, x], argTypes := #[t, t] })
    (base : Nat) (e : TypeId) {z : Value} {bytes : Nat} (hi : (P.info? e).map (fun i => (i.zero, i.size, i.bytes)) = some (some z, 1, bytes)) (hzs : z.cells.size = 1) (ht : P.underlying t = some (.slice e))
    (v : Value) (n : Nat) (xs : List Value) (hs : a.eval s = v) (hown : w.ownsRow base e 1 v n xs)
    (A : Option Addr) (m c : Nat) (news : List Value) (hx : a.eval x = .slice A m c) (hl : news.length = m) (hA : A = none → m = 0 ∧ c = 0) (hsee : Sees w A news) (h1 : ∀ u ∈ news, u.oneCell' = true)
    (h63 : n + m ≤ maxLen) (hbytes : (n + m) * bytes ≤ 140737488355328) (hbase : base ≤ w.heap.size)
    (h : ∀ B c' w', w'.ownsRow base e 1 (.slice B (n + m) c') (n + m) (xs ++ news) → w.grownBy w' v.ownBlock → wpList P ops Q rest (a.put o.dst (.slice B (n + m) c')) w') : wpList P ops Q (o :: rest) a w := by
  obtain ⟨i0, hi0, hz0, hz1, hz2⟩ := info_parts hi
  cases hAe : A with
  | none =>
    obtain ⟨h2, h3⟩ := hA hAe
    subst h2 h3 hAe
    have hnil := List.eq_nil_of_length_eq_zero hl
    subst hnil
    refine wpList_append_own_none hgd s x t ho base e i0 1 ht hi0 v n xs hs hown hx ?_
    obtain ⟨B, c', hv⟩ := own_form hown
    have h4 := h B c' w (by rw [List.append_nil, Nat.add_zero, ← hv]; exact hown) (grown_refl _ _)
    rw [Nat.add_zero, ← hv] at h4
    exact h4
  | some ad =>
    subst hAe
    refine wpList_append_own _ hgd s x t ho base e i0 z 1 bytes ht hi0 hz0 hz1 hz2 hzs (by decide) v n xs hs hown ad m c news hx (by rw [hl]; omega) (fun j u hu => ?_) h1 h63 hbytes hbase ?_
    · obtain ⟨b, o, e1, e2⟩ := hsee j u hu
      injection e1 with e1
      subst e1
      rwa [Addr.add_lit]
    · intro v' w' hown' hg _
      obtain ⟨B, c', hv⟩ := own_form hown'
      subst hv
      exact h B c' w' hown' hg
theorem bools_one (b : List Bool) : ∀ u ∈ b.map Value.bool, u.oneCell' = true := by
  intro u hu
  obtain ⟨q, _, rfl⟩ := List.mem_map.1 hu
  rfl
theorem Try.info4 : (Try.prog.info? 4).map (fun i => (i.zero, i.size, i.bytes)) = some (some (.bool false), 1, 1) := by kernel_rfl
theorem Try.info48 : (Try.prog.info? 48).map (fun i => (i.zero, i.size, i.bytes)) = some (some (.slice none 0 0), 1, 24) := by kernel_rfl

/-! ### Small functions -/
set_option maxRecDepth 10000 in
theorem size_any (v : Value) (b : List Bool) (K : Nat → Prop) (w : World) (hb : b.length ≤ 100) (h : Inn w K v b) : Calls Try.prog 20 #[v] w fun e w' => e = .returned (.int .i64 (sz b : Nat)) ∧ w = w' := by
  obtain ⟨A, c, rfl, _, hs⟩ := h.sees
  obtain ⟨n, hn⟩ : ∃ n, b.length = n := ⟨_, rfl⟩
  have HS := hide hs
  have HN := hide hn
  have HR : Hid (sz b = cntb (isIn b) n) := hide (by unfold sz; rw [hn])
  rw [hn] at hb
  rw [hn, HR.out]
  clear hs h hn
  go_enter Try.func20, Try.ntmps20
  go_wp2_with fail
  go_loopw [3, 4] (fun vv ii wr => ∃ (k m : Nat), vv = .int .i64 (m : Nat) ∧ ii = .int .i64 (k : Nat) ∧ k ≤ n ∧ m ≤ k ∧ Hid (cntb (isIn b) k = m) ∧ w = wr) (fun _ ii _ => n - (intOf ii).toNat)
  case atStart => exact ⟨0, 0, rfl, rfl, Nat.zero_le _, Nat.le_refl _, hide rfl, rfl⟩
  case round =>
    obtain ⟨k, m, rfl, rfl, hk, hmk, HM, rfl⟩ := hrel
    by_cases hlt : k < n
    · have hki : (k : Int) < (n : Int) := by omega
      obtain ⟨q, hq⟩ : ∃ q, isIn b k = q := ⟨_, rfl⟩
      have hkb : b[k]? = some q := by rw [isIn_get (by have := HN.out; omega), hq]
      obtain ⟨bb, oo, rfl, t0⟩ := HS.out k (.bool q) (by rw [List.getElem?_map, hkb]; rfl)
      have HM1 : Hid (cntb (isIn b) (k + 1) = m + if q then 1 else 0) := hide (by rw [cntb_step hq, HM.out])
      clear hkb hq
      cases q
      · go_wp2_with fail
        go_roundw
        case rel => exact ⟨k + 1, m, rfl, by go_num, by omega, by omega, HM1, trivial⟩
        case measure => simp [intOf]; omega
      · go_wp2_with fail
        go_roundw
        case rel => exact ⟨k + 1, m + 1, by go_num, by go_num, by omega, by omega, HM1, trivial⟩
        case measure => simp [intOf]; omega
    · have hkn : k = n := by omega
      have HM1 : Hid (cntb (isIn b) n = m) := hide (by rw [← hkn]; exact HM.out)
      clear hkn
      go_wp2_with fail
      go_ret
      exact ⟨by rw [HM1.out]; rfl, rfl⟩
end Go.Proofs.Ytgledbjkjpngeaa
