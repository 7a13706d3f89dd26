/- The operations as one post; two memories side by side; alive. -/
import Derived.Test.YtgledbjkjpngeaaP
namespace Go.Proofs.Ytgledbjkjpngeaa
open Go.RowKit Go.Maps

/-- What an operation says: its answer, and what the memory is then. -/
def OpPost (g : Nat) (M : Int) (r : Bool) (s' : St) (F : List Nat) (T : Nat) (w : World) (e : Ending) (w' : World) : Prop :=
  e = .returned (.bool r) ∧ ∃ F', Gr w' g M s' F' (T + 1) ∧ Only F w w' ∧ ∀ b ∈ F', b ∈ F ∨ w.heap.size ≤ b
theorem Gr.mono {w : World} {g T T' : Nat} {M : Int} {s : St} {F : List Nat} (h : Gr w g M s F T) (hT : T ≤ T') : Gr w g M s F T' := by
  obtain ⟨A, C, am, km, h⟩ := h
  refine ⟨A, C, am, km, h.blk, h.own, h.row, ?_, h.mem, h.lt⟩
  rcases h.mps with h1 | ⟨a, k, f, h1, h2, h3, h4, h5, h6, h7, h8⟩
  · exact .inl h1
  · exact .inr ⟨a, k, f, h1, h2, h3, h4, h5, h6.mono hT, h7.mono hT, h8⟩
section
variable (g T : Nat) (M x : Int) (s : St) (F : List Nat) (w : World) (hs : s.ids.length ≤ 1000) (hT : T ≤ 1000000) (hok : s.Ok) (hx : (Lit.int .i64 x).wf = true) (HG : Gr w g M s F T)
include hs hT hok hx HG
theorem close_op : Calls Try.prog 14 #[.pointer (some ⟨g, 0, none⟩), .int .i64 x] w (OpPost g M (s.fresh x) (s.close x) F T w) := by
  cases hp : posI s.ids x with
  | none =>
    rw [show s.fresh x = true from by unfold St.fresh; rw [hp]; rfl, show s.close x = ⟨s.ids ++ [x], s.kp ++ [0], s.bz ++ [0]⟩ from by unfold St.close; rw [hp]; rfl]
    exact (close_new g T M x s F w hs hT hok hx hp HG).mono fun e w' h => h
  | some i =>
    rw [show s.fresh x = false from by unfold St.fresh; rw [hp]; rfl, show s.close x = s from by unfold St.close; rw [hp]; rfl]
    refine (close_old g T M x s F i w (hide hx) (hide hp) (hide HG)).mono fun e w' h => ?_
    obtain ⟨h1, rfl⟩ := h
    exact ⟨h1, F, HG.mono (Nat.le_succ _), Only.refl _ _, fun b hb => .inl hb⟩
theorem can_op : Calls Try.prog 10 #[.pointer (some ⟨g, 0, none⟩), .int .i64 x] w (OpPost g M (s.can M x) s F T w) := by
  have _ := hT
  refine (can_any g T M x s F w hs (hide hok) (hide hx) (hide HG)).mono fun e w' h => ?_
  exact ⟨h.1, F, (HG.kept h.2).mono (Nat.le_succ _), Only.of_below h.2, fun b hb => .inl hb⟩
theorem keep_op : Calls Try.prog 12 #[.pointer (some ⟨g, 0, none⟩), .int .i64 x] w (OpPost g M (s.can M x) (s.keep M x) F T w) := by
  cases hc : s.can M x with
  | false =>
    rw [show s.keep M x = s from by unfold St.keep; rw [hc]; rfl]
    refine (keep_no g T M x s F w hs hok hx hc HG).mono fun e w' h => ?_
    exact ⟨h.1, F, (HG.kept h.2).mono (Nat.le_succ _), Only.of_below h.2, fun b hb => .inl hb⟩
  | true =>
    obtain ⟨i, hp⟩ := can_pos hc
    rw [show s.keep M x = ⟨s.ids, s.kp.set i (s.ids.length - i), bump (s.from i) s.bz⟩ from by unfold St.keep; rw [hc, hp]; rfl]
    refine (keep_yes g T M x s F i w hs hT hok hx hc hp HG).mono fun e w' h => ?_
    exact ⟨h.1, F, h.2.1, h.2.2, fun b hb => .inl hb⟩
end

/-- Two memories that lie apart, both new since w0. -/
structure Two (w0 w : World) (g : Nat) (M : Int) (s : St) (F : List Nat) (T : Nat) (g' : Nat) (M' : Int) (s' : St) (F' : List Nat) (T' : Nat) : Prop where
  a : Gr w g M s F T
  b : Gr w g' M' s' F' T'
  oka : s.Ok
  okb : s'.Ok
  ga : ∀ c ∈ F, w0.heap.size ≤ c
  gb : ∀ c ∈ F', w0.heap.size ≤ c
  dis : ∀ c ∈ F, c ∉ F'
  bel : Below w0.heap.size w0 w
section
variable {w0 w w1 : World} {g g' T T' : Nat} {M M' : Int} {s s' s1 : St} {F F' : List Nat} {e : Ending} {r : Bool}
theorem Gr.inF (h : Gr w g M s F T) : ∀ c ∈ F, c < w.heap.size := by obtain ⟨A, C, am, km, h⟩ := h; exact h.lt
theorem Two.swap (h : Two w0 w g M s F T g' M' s' F' T') : Two w0 w g' M' s' F' T' g M s F T := ⟨h.b, h.a, h.okb, h.oka, h.gb, h.ga, fun c h1 h2 => h.dis c h2 h1, h.bel⟩
theorem Two.left (h : Two w0 w g M s F T g' M' s' F' T') (hok : s1.Ok) (o : OpPost g M r s1 F T w e w1) : e = .returned (.bool r) ∧ ∃ F1, Two w0 w1 g M s1 F1 (T + 1) g' M' s' F' T' := by
  obtain ⟨he, F1, hG, hO, hS⟩ := o
  refine ⟨he, F1, hG, h.b.only hO (fun c hc hm => h.dis c hm hc), hok, h.okb, ?_, h.gb, ?_, ?_⟩
  · intro c hc
    rcases hS c hc with h1 | h1
    · exact h.ga c h1
    · have := h.bel.size; omega
  · intro c hc hm
    rcases hS c hc with h1 | h1
    · exact h.dis c h1 hm
    · have := h.b.inF c hm; omega
  · exact h.bel.trans (hO.below h.bel.size h.ga)
theorem Two.right (h : Two w0 w g M s F T g' M' s' F' T') (hok : s1.Ok) (o : OpPost g' M' r s1 F' T' w e w1) : e = .returned (.bool r) ∧ ∃ F1, Two w0 w1 g M s F T g' M' s1 F1 (T' + 1) := by
  obtain ⟨h1, F1, h2⟩ := h.swap.left hok o
  exact ⟨h1, F1, h2.swap⟩
theorem Two.kept (h : Two w0 w g M s F T g' M' s' F' T') (hb : Below w.heap.size w w1) : Two w0 w1 g M s F T g' M' s' F' T' :=
  ⟨h.a.kept hb, h.b.kept hb, h.oka, h.okb, h.ga, h.gb, h.dis, below_nextB h.bel h.bel.size hb⟩
theorem Two.alloc (h : Two w0 w g M s F T g' M' s' F' T') (o : Obj) : Two w0 (w.alloc o) g M s F T g' M' s' F' T' := h.kept ((Below.refl _ _).alloc (Nat.le_refl _) o)
end

/-- Two memories, and a block that is neither's. -/
structure TwoD (w0 w : World) (g : Nat) (M : Int) (s : St) (F : List Nat) (T : Nat) (g' : Nat) (M' : Int) (s' : St) (F' : List Nat) (T' : Nat) (d : Nat) (t : TypeId) (cs : Array Value) : Prop where
  two : Two w0 w g M s F T g' M' s' F' T'
  blk : Blk w d t cs
  nf : d ∉ F
  nf' : d ∉ F'
section
variable {w0 w w1 : World} {g g' T T' d : Nat} {M M' : Int} {s s' s1 : St} {F F' : List Nat} {e : Ending} {r : Bool} {t : TypeId} {cs : Array Value}
theorem TwoD.left (h : TwoD w0 w g M s F T g' M' s' F' T' d t cs) (hok : s1.Ok) (o : OpPost g M r s1 F T w e w1) : e = .returned (.bool r) ∧ ∃ F1, TwoD w0 w1 g M s1 F1 (T + 1) g' M' s' F' T' d t cs := by
  obtain ⟨he, F1, hG, hO, hS⟩ := o
  have hd : d ∉ F1 := fun hm => by
    rcases hS d hm with h1 | h1
    · exact h.nf h1
    · have := h.blk.lt; omega
  refine ⟨he, F1, ⟨hG, h.two.b.only hO (fun c hc hm => h.two.dis c hm hc), hok, h.two.okb, ?_, h.two.gb, ?_, h.two.bel.trans (hO.below h.two.bel.size h.two.ga)⟩, h.blk.only hO h.nf, hd, h.nf'⟩
  · intro c hc
    rcases hS c hc with h1 | h1
    · exact h.two.ga c h1
    · have := h.two.bel.size; omega
  · intro c hc hm
    rcases hS c hc with h1 | h1
    · exact h.two.dis c h1 hm
    · have := h.two.b.inF c hm; omega
theorem TwoD.swap (h : TwoD w0 w g M s F T g' M' s' F' T' d t cs) : TwoD w0 w g' M' s' F' T' g M s F T d t cs := ⟨h.two.swap, h.blk, h.nf', h.nf⟩
theorem TwoD.right (h : TwoD w0 w g M s F T g' M' s' F' T' d t cs) (hok : s1.Ok) (o : OpPost g' M' r s1 F' T' w e w1) : e = .returned (.bool r) ∧ ∃ F1, TwoD w0 w1 g M s F T g' M' s1 F1 (T' + 1) d t cs := by
  obtain ⟨h1, F1, h2⟩ := h.swap.left hok o
  exact ⟨h1, F1, h2.swap⟩
theorem TwoD.kept (h : TwoD w0 w g M s F T g' M' s' F' T' d t cs) (hb : Below w.heap.size w w1) : TwoD w0 w1 g M s F T g' M' s' F' T' d t cs := ⟨h.two.kept hb, h.blk.kept hb, h.nf, h.nf'⟩
theorem Two.born (h : Two w0 w g M s F T g' M' s' F' T') (t : TypeId) (cs : Array Value) : TwoD w0 (w.alloc (.cells cs t)) g M s F T g' M' s' F' T' w.heap.size t cs :=
  ⟨h.alloc _, Blk.born _ _ _, fun hm => absurd (h.a.inF _ hm) (Nat.lt_irrefl _), fun hm => absurd (h.b.inF _ hm) (Nat.lt_irrefl _)⟩
end

theorem one_wf : (Lit.int .i64 1).wf = true := by decide
theorem three_wf : (Lit.int .i64 3).wf = true := by decide

set_option maxRecDepth 10000 in
set_option maxHeartbeats 1000000 in
theorem alive_any (w : World) : Calls Try.prog 7 #[] w fun e w' => e = .returned (.bool true) ∧ Below w.heap.size w w' := by
  go_enter Try.func7, Try.ntmps7
  go_wp2_with fail
  refine (new_any 1 1 _ (hide (by decide))).mono ?_
  rintro e w1 ⟨rfl, hG1, hb1⟩
  have HG1 := hide hG1
  have HB1 := hide hb1
  clear hG1 hb1
  go_wp2_with fail
  refine (new_any 1 1 _ (hide (by decide))).mono ?_
  rintro e w2 ⟨rfl, hG2, hb2⟩
  have H0 : Hid (Two w w2 w.heap.size 1 .empty [w.heap.size] 0 w1.heap.size 1 .empty [w1.heap.size] 0) := hide ⟨HG1.out.kept hb2, hG2, empty_ok, empty_ok, (fun c hc => by rw [List.mem_singleton.1 hc]; exact Nat.le_refl _), (fun c hc => by rw [List.mem_singleton.1 hc]; exact HB1.out.size), (fun c hc hm => by
    have h1 := List.mem_singleton.1 hc
    have h2 := List.mem_singleton.1 hm
    have h3 := HG1.out.inF c hc
    omega), below_nextB HB1.out HB1.out.size hb2⟩
  obtain ⟨gm, hgm⟩ : ∃ gm, w.heap.size = gm := ⟨_, rfl⟩
  obtain ⟨gn, hgn⟩ : ∃ gn, w1.heap.size = gn := ⟨_, rfl⟩
  rw [hgm, hgn] at H0
  rw [hgm, hgn]
  clear hG2 hb2 HG1 HB1 hgn
  go_wp2_with fail
  refine (close_op gm 0 1 1 St.empty _ _ (by decide) (by decide) H0.out.oka one_wf H0.out.a).mono ?_
  intro e v0 hv
  obtain ⟨he, F1, h1⟩ := H0.out.left (close_ok _ H0.out.oka) hv
  subst he
  rw [show St.empty.fresh 1 = true from by decide]
  have H1 := hide h1
  clear h1 hv H0
  go_wp2_with fail
  refine (close_op gm 1 1 3 (St.empty.close 1) _ _ (by decide) (by decide) H1.out.oka three_wf H1.out.a).mono ?_
  intro e v1 hv
  obtain ⟨he, F2, h2⟩ := H1.out.left (close_ok _ H1.out.oka) hv
  subst he
  rw [show (St.empty.close 1).fresh 3 = true from by decide]
  have H2 := hide h2
  clear h2 hv H1
  go_wp2_with fail
  refine (close_op gn 0 1 1 St.empty _ _ (by decide) (by decide) H2.out.okb one_wf H2.out.b).mono ?_
  intro e v2 hv
  obtain ⟨he, F3, h3⟩ := H2.out.right (close_ok _ H2.out.okb) hv
  subst he
  rw [show St.empty.fresh 1 = true from by decide]
  have H3 := hide h3
  clear h3 hv H2
  go_wp2_with fail
  refine (close_op gn 1 1 3 (St.empty.close 1) _ _ (by decide) (by decide) H3.out.okb three_wf H3.out.b).mono ?_
  intro e v3 hv
  obtain ⟨he, F4, h4⟩ := H3.out.right (close_ok _ H3.out.okb) hv
  subst he
  rw [show (St.empty.close 1).fresh 3 = true from by decide]
  have H4 := hide h4
  clear h4 hv H3
  go_wp2_with fail
  refine (can_op gm 2 1 1 ((St.empty.close 1).close 3) _ _ (by decide) (by decide) H4.out.oka one_wf H4.out.a).mono ?_
  intro e v4 hv
  obtain ⟨he, F5, h5⟩ := H4.out.left H4.out.oka hv
  subst he
  rw [show ((St.empty.close 1).close 3).can 1 1 = true from by decide]
  have H5 := hide h5
  clear h5 hv H4
  go_wp2_with fail
  refine (can_op gm 3 1 3 ((St.empty.close 1).close 3) _ _ (by decide) (by decide) H5.out.oka three_wf H5.out.a).mono ?_
  intro e v5 hv
  obtain ⟨he, F6, h6⟩ := H5.out.left H5.out.oka hv
  subst he
  rw [show ((St.empty.close 1).close 3).can 1 3 = true from by decide]
  have H6 := hide h6
  clear h6 hv H5
  go_wp2_with fail
  refine (keep_op gm 4 1 1 ((St.empty.close 1).close 3) _ _ (by decide) (by decide) H6.out.oka one_wf H6.out.a).mono ?_
  intro e v6 hv
  obtain ⟨he, F7, h7⟩ := H6.out.left (keep_ok _ H6.out.oka) hv
  subst he
  rw [show ((St.empty.close 1).close 3).can 1 1 = true from by decide]
  have H7 := hide h7
  clear h7 hv H6
  go_wp2_with fail
  refine (can_op gm 5 1 3 (((St.empty.close 1).close 3).keep 1 1) _ _ (by decide) (by decide) H7.out.oka three_wf H7.out.a).mono ?_
  intro e v7 hv
  obtain ⟨he, F8, h8⟩ := H7.out.left H7.out.oka hv
  subst he
  rw [show (((St.empty.close 1).close 3).keep 1 1).can 1 3 = false from by decide]
  have H8 := hide h8
  clear h8 hv H7
  go_wp2_with fail
  refine (keep_op gm 6 1 3 (((St.empty.close 1).close 3).keep 1 1) _ _ (by decide) (by decide) H8.out.oka three_wf H8.out.a).mono ?_
  intro e v8 hv
  obtain ⟨he, F9, h9⟩ := H8.out.left (keep_ok _ H8.out.oka) hv
  subst he
  rw [show (((St.empty.close 1).close 3).keep 1 1).can 1 3 = false from by decide]
  have H9 := hide h9
  clear h9 hv H8
  go_wp2_with fail
  refine (keep_op gn 2 1 3 ((St.empty.close 1).close 3) _ _ (by decide) (by decide) H9.out.okb three_wf H9.out.b).mono ?_
  intro e v9 hv
  obtain ⟨he, F10, h10⟩ := H9.out.right (keep_ok _ H9.out.okb) hv
  subst he
  rw [show ((St.empty.close 1).close 3).can 1 3 = true from by decide]
  have H10 := hide h10
  clear h10 hv H9
  go_wp2_with fail
  refine (can_op gn 3 1 1 (((St.empty.close 1).close 3).keep 1 3) _ _ (by decide) (by decide) H10.out.okb one_wf H10.out.b).mono ?_
  intro e v10 hv
  obtain ⟨he, F11, h11⟩ := H10.out.right H10.out.okb hv
  subst he
  rw [show (((St.empty.close 1).close 3).keep 1 3).can 1 1 = false from by decide]
  have H11 := hide h11
  clear h11 hv H10
  go_wp2_with fail
  refine (len_any gm 7 1 ((((St.empty.close 1).close 3).keep 1 1).keep 1 3) _ _ (hide H11.out.a)).mono ?_
  rintro e v ⟨rfl, rfl⟩
  rw [show (((((St.empty.close 1).close 3).keep 1 1).keep 1 3).bz.length) = 2 from by decide]
  go_wp2_with fail
  go_ret
  exact ⟨rfl, H11.out.bel⟩
end Go.Proofs.Ytgledbjkjpngeaa
