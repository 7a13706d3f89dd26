/- The memory of an assembly, whole; bytes behind its own, at a drawn region. -/
import Derived.Test.YtpjibdnoiioaoaaQ
namespace Go.Proofs.Ytpjibdnoiioaoaa
open Go.RowKit
set_option linter.unusedSimpArgs false
set_option linter.unusedVariables false

/-- All of one slice behind a slice of the call's own, as a step of a drawn region; where the new one lies. -/
theorem step_pour {P : Program} {w : World} {ops : Array Oper} {o : Oper} {a : Act} {K : Act → World → Prop} {Q : Exit → Act → World → Prop} {E : Prop} (hgd : o.guard = none) (s x : Operand) (t : TypeId)
    (ho : o.op = .call { callee := .builtin .append, args := #[s, x], argTypes := #[t, t] })
    (base : Nat) (e : TypeId) (sz : Nat) {z : Value} {bytes : Nat} (hi : (P.info? e).map (fun i => (i.zero, i.size, i.bytes)) = some (some z, sz, bytes)) (hzs : z.cells.size = sz) (hsz : 0 < sz) (ht : P.underlying t = some (.slice e))
    (v : Value) (n : Nat) (xs : List Value) (hs : a.eval s = v) (hown : w.ownsRow base e sz v n xs)
    (A : Option Addr) (m c : Nat) (news : List Value) (hx : a.eval x = .slice A m c) (hl : news.length = m * sz) (hA : A = none → m = 0 ∧ c = 0) (hsee : Sees w A news) (h1 : ∀ u ∈ news, u.oneCell' = true)
    (h63 : n + m ≤ maxLen) (hbytes : (n + m) * bytes ≤ 140737488355328) (hbase : base ≤ w.heap.size)
    (h : ∀ B c' w', w'.ownsRow base e sz (.slice B (n + m) c') (n + m) (xs ++ news) → w.grownBy w' v.ownBlock → ((Value.slice B (n + m) c').ownBlock = v.ownBlock ∨ (Value.slice B (n + m) c').ownBlock = some w.heap.size) → K (a.put o.dst (.slice B (n + m) c')) w') :
    if Region.wanted o (yielded ops a.tmps) = true then Oper.wp P o a w K Q else E := by
  have hw : Region.wanted o (yielded ops a.tmps) = true := by simp [Region.wanted, hgd]
  rw [if_pos hw]
  obtain ⟨i0, hi0, hz0, hz1, hz2⟩ := info_parts hi
  cases hAe : A with
  | none =>
    obtain ⟨h2, h3⟩ := hA hAe
    subst h2 h3 hAe
    rw [Nat.zero_mul] at hl
    have hnil := List.eq_nil_of_length_eq_zero hl
    subst hnil
    obtain ⟨B, c', hv⟩ := own_form hown
    have h4 := h B c' w (by rw [List.append_nil, Nat.add_zero, ← hv]; exact hown) (grown_refl _ _) (by rw [Nat.add_zero, hv]; exact .inl rfl)
    rw [Nat.add_zero, ← hv] at h4
    have hrun := run_append_owned_none (P := P) (w := w) base t o.type e i0 sz ht hi0 v n xs hown
    unfold Oper.wp
    simp [execOp, ho, resolve, invoke, builtin, hs, hx, hrun, Result.andThen]
    exact h4
  | some ad =>
    subst hAe
    have hnews : ∀ j u, news[j]? = some u → w.cell? (ad.add j) = some u := fun j u hu => by
      obtain ⟨b, o, e1, e2⟩ := hsee j u hu
      injection e1 with e1
      subst e1
      rwa [Addr.add_lit]
    obtain ⟨v', w', hr, h2, h3, _, h5⟩ := run_append_own_at (P := P) w base t o.type e i0 z sz bytes ht hi0 hz0 hz1 hz2 hzs hsz v n xs hown ad m c news hl hnews h1 h63 hbytes hbase
    obtain ⟨B, c', rfl⟩ := own_form h2
    unfold Oper.wp execOp
    simp only [ho, resolve, invoke, builtin, Sem.run_bind, Sem.run_pure, Result.andThen_ok, List.map_toArray, List.map_cons, List.map_nil, hs, hx, hr]
    exact h B c' w' h2 h3 h5

theorem own_slv {w : World} {base n c sz : Nat} {e : TypeId} {A : Option Addr} {xs : List Value} (h : w.ownsRow base e sz (.slice A n c) n xs) : Sl w (fun b => (Value.slice A n c).ownBlock = some b) A n c xs := by
  refine ⟨(own_nn h).1, (own_nn h).2, fun j u hj => ?_⟩
  obtain ⟨b, o, h1, _, h3⟩ := own_sees h j u hj
  exact ⟨b, o, h1, by rw [h1]; rfl, h3⟩
def setL (cs : Array Value) : Nat → List Value → Array Value
  | _, [] => cs
  | o, v :: r => setL (cs.setIfInBounds o v) (o + 1) r
theorem Blk.setCells {g : Nat} {t : TypeId} : ∀ (vs : List Value) (o : Nat) (w : World) (cs : Array Value), Blk w g t cs → Blk (w.setCells g o vs) g t (setL cs o vs)
  | [], _, _, _, h => h
  | v :: r, o, w, cs, h => by
    rw [World.setCells, setL]
    exact Blk.setCells r (o + 1) _ _ (h.store o v)
theorem Only.setCells {F : List Nat} {g : Nat} (hg : g ∈ F) : ∀ (vs : List Value) (o : Nat) (w : World), Only F w (w.setCells g o vs)
  | [], _, w => Only.refl _ w
  | v :: r, o, w => by
    rw [World.setCells]
    exact (Only.store (p := ⟨g, o, none⟩) w hg v).next (Only.setCells hg r (o + 1) _) (fun b hb => .inl hb)
/-- The memory of an assembly, with all that is its own. -/
structure AsmI (w : World) (g : Nat) (M : Int) (on : Bool) (a : Fr) (D0 S0 : Option Addr) (dn0 dc0 sn0 sc0 : Nat) (A : Option Addr) (n c : Nat) (bs : List Int) (F : List Nat) (G : Nat → Prop) : Prop where
  blk : Asm w g M on a D0 S0 dn0 dc0 sn0 sc0 A n c
  own : w.ownsRow 0 5 1 (.slice A n c) n (u8s bs)
  row : ∀ b, (Value.slice A n c).ownBlock = some b → b ∈ F ∧ b ≠ g
  sets : Sl w (fun b => b ∉ F ∧ ¬ G b) S0 sn0 sc0 (cellsS a.sets)
  sl : a.sets.length = sn0
  mem : g ∈ F
  lt : ∀ b ∈ F, b < w.heap.size
section
variable {w w' : World} {g : Nat} {M : Int} {on : Bool} {a : Fr} {D0 S0 : Option Addr} {dn0 dc0 sn0 sc0 : Nat} {A : Option Addr} {n c : Nat} {bs : List Int} {F F1 : List Nat} {G : Nat → Prop}
theorem AsmI.only (h : AsmI w g M on a D0 S0 dn0 dc0 sn0 sc0 A n c bs F G) (o : Only F1 w w') (hF : ∀ b ∈ F, b ∉ F1) (hF1 : ∀ b ∈ F1, b < w.heap.size → b ∈ F ∨ G b) : AsmI w' g M on a D0 S0 dn0 dc0 sn0 sc0 A n c bs F G :=
  ⟨Blk.only h.blk o (hF g h.mem), own_only h.own o (fun b hb => hF b (h.row b hb).1), h.row, h.sets.blocks (fun b hb hk => o.block b hb (fun hm => (hF1 b hm hb).elim hk.1 hk.2)), h.sl, h.mem, fun b hb => Nat.lt_of_lt_of_le (h.lt b hb) o.size⟩
theorem AsmI.kept (h : AsmI w g M on a D0 S0 dn0 dc0 sn0 sc0 A n c bs F G) (o : Below w.heap.size w w') : AsmI w' g M on a D0 S0 dn0 dc0 sn0 sc0 A n c bs F G := h.only (F1 := []) (Only.of_below o) (fun _ _ => by simp) (fun _ hm => by simp at hm)
theorem AsmI.none (h : AsmN w g M) : AsmI w g M false Fr.zero none none 0 0 0 0 none 0 0 [] [g] G :=
  ⟨h, World.ownsRow_nil _ _ _ _, (fun b hb => by cases hb), Sl.nil _ _, rfl, List.mem_singleton.2 rfl, fun b hb => by rw [List.mem_singleton.1 hb]; exact Blk.lt h⟩
theorem AsmI.len (h : AsmI w g M on a D0 S0 dn0 dc0 sn0 sc0 A n c bs F G) : bs.length = n := by have := h.own.1; rw [u8s_length] at this; omega
end
/-- What Add says where it takes a part: what the assembly is then, and the frame. -/
def AddPost (g : Nat) (M : Int) (F : List Nat) (G : Nat → Prop) (w : World) (on' : Bool) (a' : Fr) (bs' : List Int) (f : Fr) (is : Bool) (er : Int) (e : Ending) (w' : World) : Prop :=
  ∃ (D0 S0 : Option Addr) (dn0 dc0 sn0 sc0 : Nat) (A : Option Addr) (n c : Nat) (F' : List Nat) (D S : Option Addr) (dn dc sn sc : Nat),
    e = .returned (.tuple #[.agg #[.int .i64 f.ty, .int .i64 f.fl, .int .i64 f.st, .int .i64 f.pad, .slice D dn dc, .slice S sn sc, .int .i64 f.wt, .int .i64 f.par, .bool f.alone, .int .i64 f.prom, .int .i64 f.last, .int .i64 f.code, .int .i64 f.step], .bool is, .int .i64 er]) ∧ AsmI w' g M on' a' D0 S0 dn0 dc0 sn0 sc0 A n c bs' F' G ∧ Only F w w' ∧ (∀ b ∈ F', b ∈ F ∨ w.heap.size ≤ b) ∧ FS w' (fun b => b ∉ F') f D dn dc S sn sc ∧ (on' = false → (D0, S0, dn0, dc0, sn0, sc0, A, n, c) = (none, none, 0, 0, 0, 0, none, 0, 0))
end Go.Proofs.Ytpjibdnoiioaoaa
