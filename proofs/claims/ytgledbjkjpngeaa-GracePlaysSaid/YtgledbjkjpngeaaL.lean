/- The end of the reference's Close of a fresh number. -/
import Derived.Test.YtgledbjkjpngeaaI
namespace Go.Proofs.Ytgledbjkjpngeaa
open Go.RowKit Go.Maps

theorem new_end {w w1 wr W : World} {K K0 : Nat → Prop} {A A1 A2 A3 : Option Addr} {n1 c c1 n2 n3 c3 : Nat} {x : Int} {ids : List Int} {bs out : List (List Bool)} {vs us : List Value} (HR : Ref w K0 ids bs vs A1 n1 c1 A2 n2) (hK : ∀ g, K0 g → K g ∧ g < w.heap.size) (hg : w.heap.size + 1 < w1.heap.size) (hb : w1.heap.size ≤ wr.heap.size) (HW : Below w.heap.size w W)
    (ho : Own wr W (fun g => w1.heap.size ≤ g) A3 n3 c3 (n1 + 1) us out) (hi : W.ownsRow wr.heap.size 3 1 (.slice A (n1 + 1) c) (n1 + 1) ((ids ++ [x]).map (Value.int .i64))) (u1 u2 u3 : Value) :
    Ref (((W.setCell ⟨w.heap.size + 1, 0, none⟩ u1).setCell ⟨w.heap.size + 1, 1, none⟩ u2).setCell ⟨w.heap.size + 1, 2, none⟩ u3) (fun g => K g ∨ w.heap.size ≤ g) (ids ++ [x]) out us A (n1 + 1) c A3 n3 ∧
      Below w.heap.size w (((W.setCell ⟨w.heap.size + 1, 0, none⟩ u1).setCell ⟨w.heap.size + 1, 1, none⟩ u2).setCell ⟨w.heap.size + 1, 2, none⟩ u3) := by
  refine ⟨?_, ((HW.setCell (by simp) _).setCell (by simp) _).setCell (by simp) _⟩
  have h1 : Ref W (fun g => w1.heap.size ≤ g) (ids ++ [x]) out us A (n1 + 1) c A3 n3 := own_ref ho (fun g h => Nat.le_trans hb h) (by rw [List.length_append, HR.l1]; rfl) (fun hn => by
    rcases hi.2 with ⟨hv, h0⟩ | ⟨g, cap, cur, hv, _⟩
    · omega
    · injection hv with e1
      rw [hn] at e1; cases e1) (seesK_own hi fun g h => Nat.le_trans hb h)
  have hF : ∀ g, w1.heap.size ≤ g → g ∉ [w.heap.size + 1] := fun g h hm => by
    have e := List.mem_singleton.1 hm
    omega
  have h2 := ((h1.only (Only.store W (p := ⟨w.heap.size + 1, 0, none⟩) (List.mem_singleton.2 rfl) u1) hF).only (Only.store _ (p := ⟨w.heap.size + 1, 1, none⟩) (List.mem_singleton.2 rfl) u2) hF).only (Only.store _ (p := ⟨w.heap.size + 1, 2, none⟩) (List.mem_singleton.2 rfl) u3) hF
  have _ := hK
  exact h2.mono fun g _ h => .inr (by omega)

/-- 'append(out, s...)' at a step of a region that draws its order: out the call's own, s a slice that is seen. -/
theorem step_pour {P : Program} {w : World} {ops : Array Oper} {o : Oper} {a : Act} {J : Act → World → Prop} {Q : Exit → Act → World → Prop} {E : Prop} (hgd : o.guard = none) (s x : Operand) (t : TypeId)
    (ho : o.op = .call { callee := .builtin .append, args := #[s, x], argTypes := #[t, t] })
    (base : Nat) (e : TypeId) {z : Value} {bytes : Nat} (hi : (P.info? e).map (fun i => (i.zero, i.size, i.bytes)) = some (some z, 1, bytes)) (hzs : z.cells.size = 1) (ht : P.underlying t = some (.slice e))
    (v : Value) (n : Nat) (xs : List Value) (hs : a.eval s = v) (hown : w.ownsRow base e 1 v n xs)
    (A : Option Addr) (m c : Nat) (news : List Value) (hx : a.eval x = .slice A m c) (hl : news.length = m) (hA : A = none → m = 0 ∧ c = 0) (hsee : Sees w A news) (h1 : ∀ u ∈ news, u.oneCell' = true)
    (h63 : n + m ≤ maxLen) (hbytes : (n + m) * bytes ≤ 140737488355328) (hbase : base ≤ w.heap.size)
    (h : ∀ B c' w', w'.ownsRow base e 1 (.slice B (n + m) c') (n + m) (xs ++ news) → w.grownBy w' v.ownBlock → J (a.put o.dst (.slice B (n + m) c')) w') : if Region.wanted o (yielded ops a.tmps) = true then Oper.wp P o a w J Q else E := by
  have hw : Region.wanted o (yielded ops a.tmps) = true := by simp [Region.wanted, hgd]
  rw [if_pos hw]
  obtain ⟨i0, hi0, hz0, hz1, hz2⟩ := info_parts hi
  cases hAe : A with
  | none =>
    obtain ⟨h2, h3⟩ := hA hAe
    subst h2 h3 hAe
    have hnil := List.eq_nil_of_length_eq_zero hl
    subst hnil
    have hrun := run_append_owned_none (P := P) (w := w) base t o.type e i0 1 ht hi0 v n xs hown
    obtain ⟨B, c', hv⟩ := own_form hown
    have h4 := h B c' w (by rw [List.append_nil, Nat.add_zero, ← hv]; exact hown) (grown_refl _ _)
    rw [Nat.add_zero, ← hv] at h4
    unfold Oper.wp
    simp [execOp, ho, resolve, invoke, builtin, hs, hx, hrun, Result.andThen]
    exact h4
  | some ad =>
    subst hAe
    refine wp_append_own w s x t ho base e i0 z 1 bytes ht hi0 hz0 hz1 hz2 hzs (by decide) v n xs hs hown ad m c news hx (by rw [hl]; omega) (fun j u hu => ?_) h1 h63 hbytes hbase ?_
    · obtain ⟨b, o, e1, e2⟩ := hsee j u hu
      injection e1 with e1
      subst e1
      rwa [Addr.add_lit]
    · intro v' w' hown' hg _
      obtain ⟨B, c', hv⟩ := own_form hown'
      subst hv
      exact h B c' w' hown' hg

theorem own_lower {w : World} {base base' n : Nat} {e : TypeId} {v : Value} {xs : List Value} (h : w.ownsRow base e 1 v n xs) (hb : base' ≤ base) : w.ownsRow base' e 1 v n xs := by
  refine ⟨h.1, ?_⟩
  rcases h.2 with h2 | ⟨g, cap, cur, e1, e2, r⟩
  · exact .inl h2
  · exact .inr ⟨g, cap, cur, e1, Nat.le_trans hb e2, r⟩
/-- 'forgotten', in whatever world behind wr. -/
theorem forg_from {w1 wr W : World} {B : Option Addr} {N C L : Nat} {us : List Value} {bs : List (List Bool)} (h : Own w1 wr (fun g => w1.heap.size ≤ g) B N C L us bs) (hN : N ≤ 300) (hL : L ≤ 7) (hb : Below wr.heap.size wr W) :
    Calls Try.prog 19 #[.slice B N C] W fun e w' => ∃ A' n' c' us' out, e = .returned (.slice A' n' c') ∧ Own wr w' (fun g => w1.heap.size ≤ g) A' n' c' L us' out ∧ (out.Nodup ∧ ∀ x, x ∈ out ↔ ∃ y ∈ bs, Sub x y) ∧ Below W.heap.size W w' := by
  have hW := h.kept hb
  refine (forg_any (fun g => w1.heap.size ≤ g) (fun g => w1.heap.size ≤ g) B N C L us bs W hN hL hW.num (Sees.of_own hW.own) hW.sets hW.len (fun g hg => hg.elim id (fun h => Nat.le_trans hW.bel.size h))).mono ?_
  rintro e w' ⟨A', n', c', us', out, he, ho, hn, hm⟩
  exact ⟨A', n', c', us', out, he, ⟨own_lower ho.own hb.size, ho.sets, ho.len, below_nextB hb hb.size ho.bel⟩, ⟨hn, hm⟩, ho.bel⟩

/-! ### What the law's walk compares -/
theorem hasZ_can {M : Int} {s : St} {x : Int} {bs : List (List Bool)} (hM : 0 ≤ M) (hok : s.Ok) (h : Fits M s bs) (hb : s.base M) : hasZ s.ids bs x = s.can M x := by
  unfold hasZ
  cases hp : posI s.ids x with
  | none => unfold St.can; rw [hp]
  | some i => exact fits_can hM hok hp h hb
theorem base_empty (M : Int) : St.empty.base M := (poss_empty _).2 rfl
theorem close_ids {s : St} {x : Int} (h : posI s.ids x = none) : (s.close x).ids = s.ids ++ [x] := by unfold St.close; rw [h]; rfl
theorem close_same {s : St} {x : Int} {i : Nat} (h : posI s.ids x = some i) : s.close x = s := by unfold St.close; rw [h]; rfl
theorem fits_few {M : Int} {s : St} {bs : List (List Bool)} (h : Fits M s bs) (hl : s.ids.length ≤ 7) : bs.length ≤ 128 := few_sets h.1 (fits_len h) hl
end Go.Proofs.Ytgledbjkjpngeaa
