/- Contract: Close. -/
import Derived.Test.YtgledbjkjpngeaaM
import Derived.Maps.AppendAt
namespace Go.Proofs.Ytgledbjkjpngeaa
open Go.RowKit Go.Maps

theorem MapI.congr {w : World} {b N : Nat} {f f' : Int → Option Int} (h : MapI w b N f) (he : ∀ x, f x = f' x) : MapI w b N f' := by
  rw [show f' = f from funext fun x => (he x).symm]; exact h
theorem MapI.mono {w : World} {b N N' : Nat} {f : Int → Option Int} (h : MapI w b N f) (hN : N ≤ N') : MapI w b N' f := by
  obtain ⟨D, h1, r⟩ := h
  exact ⟨D, h1.mono hN, r⟩
theorem own_ne_map {w : World} {base n b N : Nat} {v : Value} {xs : List Value} {f : Int → Option Int} (h : w.ownsRow base 3 1 v n xs) (hm : MapI w b N f) : ∀ c, v.ownBlock = some c → c ≠ b := by
  intro c hc
  rcases h.2 with ⟨e, _⟩ | ⟨g', cap, cur, e, _, e3, _⟩
  · subst e; cases hc
  · subst e
    have hc2 : g' = c := by simpa [Value.ownBlock] using hc
    subst hc2
    exact hm.ne e3
theorem close_nil (x : Int) (w : World) : Calls Try.prog 14 #[.pointer none, .int .i64 x] w fun e w' => e = .returned (.bool false) ∧ w = w' := by
  go_enter Try.func14, Try.ntmps14
  go_wp2_with fail
  go_ret
  exact ⟨rfl, rfl⟩
theorem close_old (g T : Nat) (M x : Int) (s : St) (F : List Nat) (i : Nat) (w : World) (hx : Hid ((Lit.int .i64 x).wf = true)) (hp : Hid (posI s.ids x = some i)) (HG : Hid (Gr w g M s F T)) : Calls Try.prog 14 #[.pointer (some ⟨g, 0, none⟩), .int .i64 x] w fun e w' => e = .returned (.bool false) ∧ w = w' := by
  have hil := posI_lt hp.out
  obtain ⟨A, C, am, km, h1⟩ := HG.out
  have c1 : w.cell? ⟨g, 1, none⟩ = some (.map am) := h1.blk.cell 1
  have h4 := h1.mps
  clear h1
  rcases h4 with ⟨h0, _⟩ | ⟨a, k, f, rfl, rfl, _, _, _, h6, _⟩
  · rw [h0] at hil; simp at hil
  · have HM := hide h6
    have HN : Hid ((atI s.ids x).getD 0 = (i : Nat) ∧ (atI s.ids x).isSome = true) := hide (by unfold atI; rw [hp.out]; exact ⟨rfl, rfl⟩)
    clear h6
    go_enter Try.func14, Try.ntmps14
    go_wp2_with (at_lookup; go_loud (refine wpList_get_ok rfl (.tmp 13) (.tmp 14) rfl HM.out rfl x rfl hx.out (i : Nat) true HN.out.1 HN.out.2 ?_))
    go_wp2_with fail
    go_ret
    exact ⟨rfl, rfl⟩

/-- What Close says of a number that is new. -/
def CPost (g T : Nat) (M x : Int) (s : St) (F : List Nat) (w : World) (e : Ending) (w' : World) : Prop :=
  e = .returned (.bool true) ∧ ∃ F', Gr w' g M ⟨s.ids ++ [x], s.kp ++ [0], s.bz ++ [0]⟩ F' (T + 1) ∧ Only F w w' ∧ ∀ b ∈ F', b ∈ F ∨ w.heap.size ≤ b
/-- The memory ahead of the writing, its maps made. -/
structure Pre (w w0 : World) (g T : Nat) (M : Int) (s : St) (F : List Nat) (A : Option Addr) (C a k : Nat) (f : Int → Option Int) (F0 : List Nat) : Prop where
  blk : Blk w0 g 43 #[.int .i64 M, .map (some a), .map (some k), .slice A s.bz.length C]
  own : w0.ownsRow 0 3 1 (.slice A s.bz.length C) s.bz.length (ints s.bz)
  row : ∀ b, (Value.slice A s.bz.length C).ownBlock = some b → b ∈ F0 ∧ b ≠ g
  mem : g ∈ F0
  lt : ∀ b ∈ F0, b < w0.heap.size
  ma : a ∈ F0
  mkk : k ∈ F0
  ne : a ≠ k
  at_ : MapI w0 a T (atI s.ids)
  kt : MapI w0 k T f
  kp : ∀ x, (f x).getD 0 = kpAt s x
  only : Only F w w0
  sub : ∀ b ∈ F0, b ∈ F ∨ w.heap.size ≤ b
theorem at_snoc {s : St} {x : Int} {n : Nat} (hp : posI s.ids x = none) (hn : s.ids.length = n) (y : Int) : (if y = x then some (n : Int) else atI s.ids y) = atI (s.ids ++ [x]) y := by
  unfold atI
  rw [posI_snoc]
  by_cases h : y = x
  · subst h; rw [if_pos rfl, hp, hn]; simp
  · rw [if_neg h]
    have : ¬ x = y := fun e => h e.symm
    cases hq : posI s.ids y with
    | some i => rfl
    | none => simp [this]
theorem kp_snoc {s : St} {x : Int} (_hp : posI s.ids x = none) (hk : s.kp.length = s.ids.length) (y : Int) : kpAt s y = kpAt ⟨s.ids ++ [x], s.kp ++ [0], s.bz ++ [0]⟩ y := by
  unfold kpAt
  dsimp only
  rw [posI_snoc]
  cases hq : posI s.ids y with
  | some i =>
    dsimp only
    rw [List.getD_eq_getElem?_getD, List.getD_eq_getElem?_getD, List.getElem?_append_left (by rw [hk]; exact posI_lt hq)]
  | none =>
    dsimp only
    by_cases h : x = y
    · rw [if_pos h]
      dsimp only
      rw [List.getD_eq_getElem?_getD, ← hk, List.getElem?_append_right (Nat.le_refl _)]; simp
    · rw [if_neg h]
/-- What the last steps of Close leave. -/
theorem close_end {w w0 w1 w2 : World} {g T C a k n g' c' : Nat} {M x : Int} {s : St} {F F0 : List Nat} {A : Option Addr} {f : Int → Option Int} (hok : s.Ok) (hp : posI s.ids x = none) (hn : s.bz.length = n) (P : Pre w w0 g T M s F A C a k f F0)
    (hM1 : MapI w1 a (T + 1) (fun y => if y = x then some (n : Int) else atI s.ids y)) (hg1 : w0.drew.grownBy w1 (some a))
    (hown2 : w2.ownsRow 0 3 1 (.slice (some ⟨g', 0, none⟩) (n + 1) c') (n + 1) (ints s.bz ++ [.int .i64 0])) (hg2 : (w1.alloc (.cells #[.int .i64 0] 3)).grownBy w2 (Value.slice A n C).ownBlock)
    (hloc : (Value.slice (some ⟨g', 0, none⟩) (n + 1) c').ownBlock = (Value.slice A n C).ownBlock ∨ (Value.slice (some ⟨g', 0, none⟩) (n + 1) c').ownBlock = some (w1.heap.size + 1)) :
    CPost g T M x s F w (.returned (.bool true)) (w2.setCell ⟨g, 3, none⟩ (.slice (some ⟨g', 0, none⟩) (n + 1) c')) := by
  subst hn
  have hsz1 : w0.heap.size ≤ w1.heap.size := hg1.size
  have O1 : Only [a] w0 w1 := (Only.drew w0).next (Only.of_grown (F := [a]) hg1 (fun b e => by injection e with e; subst e; exact .inl (List.mem_singleton.2 rfl))) (fun b hb => .inl hb)
  have hga : g ≠ a := P.at_.ne P.blk
  have hgk : g ≠ k := P.kt.ne P.blk
  have hoa := own_ne_map P.own P.at_
  have hok2 := own_ne_map P.own P.kt
  have B1 : Blk w1 g 43 _ := P.blk.only O1 (by simpa using hga)
  have K1 : MapI w1 k T f := P.kt.only O1 (by simpa using P.ne.symm)
  have own1 := own_only P.own O1 (fun b hb => by simpa using hoa b hb)
  obtain ⟨L, hL⟩ : ∃ L : List Nat, (∀ b, (Value.slice A s.bz.length C).ownBlock = some b ↔ b ∈ L) := by
    cases h : (Value.slice A s.bz.length C).ownBlock with
    | none => exact ⟨[], by simp⟩
    | some b => exact ⟨[b], by intro c; simp [eq_comm]⟩
  have O2 : Only (g :: L) w1 w2 := (Only.alloc w1 (.cells #[.int .i64 0] 3)).next (F1 := L) (Only.of_grown hg2 (fun b e => .inl ((hL b).1 e))) (fun b hb => .inl (List.mem_cons_of_mem _ hb))
  have O3 : Only (g :: L) w1 (w2.setCell ⟨g, 3, none⟩ (.slice (some ⟨g', 0, none⟩) (s.bz.length + 1) c')) := O2.next (Only.store (F := [g]) w2 (List.mem_singleton.2 rfl) _) (fun b hb => .inl (by rw [List.mem_singleton.1 hb]; exact List.mem_cons_self))
  have hgL : g ∉ L := fun h => (P.row g ((hL g).2 h)).2 rfl
  have B2 : Blk w2 g 43 _ := (B1.alloc (.cells #[.int .i64 0] 3)).grown hg2 (fun e => hgL ((hL g).1 e.symm))
  have hg'g : g' ≠ g := by
    rcases hloc with h | h
    · rintro rfl; exact hgL ((hL _).1 h.symm)
    · have h2 : g' = w1.heap.size + 1 := by simpa [Value.ownBlock] using h
      have h3 := B1.lt
      omega
  have hg'F : g' ∈ F0 ∨ w.heap.size ≤ g' := by
    rcases hloc with h | h
    · exact .inl (P.row g' h.symm).1
    · have h2 : g' = w1.heap.size + 1 := by simpa [Value.ownBlock] using h
      have h3 := P.only.size
      exact .inr (by omega)
  have hsub : ∀ b ∈ g' :: F0, b ∈ F ∨ w.heap.size ≤ b := by
    intro b hb
    rcases List.mem_cons.1 hb with rfl | hb
    · rcases hg'F with h | h
      · exact P.sub _ h
      · exact .inr h
    · exact P.sub b hb
  have hlen : (s.bz ++ [0]).length = s.bz.length + 1 := by simp
  refine ⟨rfl, g' :: F0, ⟨some ⟨g', 0, none⟩, c', some a, some k, ?_, ?_, ?_, ?_, List.mem_cons_of_mem _ P.mem, ?_⟩, ?_, hsub⟩
  · dsimp only; rw [hlen]; exact B2.store 3 _
  · dsimp only
    rw [hlen]
    have := ownsRow_setCell_other hown2 (a := ⟨g, 3, none⟩) (fun e => hg'g (by simpa [Value.ownBlock] using e)) (.slice (some ⟨g', 0, none⟩) (s.bz.length + 1) c')
    unfold ints at this ⊢
    rw [List.map_append]
    exact this
  · intro b hb
    have : g' = b := by simpa [Value.ownBlock] using hb
    subst this
    exact ⟨List.mem_cons_self, hg'g⟩
  · refine .inr ⟨a, k, f, rfl, rfl, List.mem_cons_of_mem _ P.ma, List.mem_cons_of_mem _ P.mkk, P.ne, ?_, ?_, ?_⟩
    · exact (hM1.only O3 (by
        intro h
        rcases List.mem_cons.1 h with h | h
        · exact hga h.symm
        · exact hoa a ((hL a).2 h) rfl)).congr (at_snoc hp hok.lb.symm)
    · exact (K1.only O3 (by
        intro h
        rcases List.mem_cons.1 h with h | h
        · exact hgk h.symm
        · exact hok2 k ((hL k).2 h) rfl)).mono (Nat.le_succ _)
    · intro y; rw [P.kp y]; exact kp_snoc hp hok.lk y
  · intro b hb
    have h3 := O3.size
    rcases List.mem_cons.1 hb with rfl | hb
    · have := own_lt hown2
      simpa using this
    · exact Nat.lt_of_lt_of_le (P.lt b hb) (Nat.le_trans hsz1 h3)
  · exact P.only.next (F1 := F0) ((O1.mono (F1 := F0) (fun b hb => .inl (by rw [List.mem_singleton.1 hb]; exact P.ma))).next O3 (fun b hb => .inl (by
      rcases List.mem_cons.1 hb with h | h
      · rw [h]; exact P.mem
      · exact (P.row b ((hL b).2 h)).1))) P.sub



set_option maxHeartbeats 1000000 in
theorem close_more (g T : Nat) (M x : Int) (s : St) (F : List Nat) (A : Option Addr) (C a k : Nat) (w : World) (hs : s.ids.length ≤ 1000) (hT : T ≤ 1000000) (hok : Hid s.Ok) (hx : Hid ((Lit.int .i64 x).wf = true)) (hp : Hid (posI s.ids x = none)) (HG : Hid (GrI w g M s F T A C (some a) (some k))) :
    Calls Try.prog 14 #[.pointer (some ⟨g, 0, none⟩), .int .i64 x] w (CPost g T M x s F w) := by
  obtain ⟨f, ha, hk, hak, h6, h7, h8⟩ : ∃ f, a ∈ F ∧ k ∈ F ∧ a ≠ k ∧ MapI w a T (atI s.ids) ∧ MapI w k T f ∧ ∀ x, (f x).getD 0 = kpAt s x := by
    rcases HG.out.mps with ⟨_, h0, _⟩ | ⟨a', k', f, e1, e2, r⟩
    · cases h0
    · injection e1 with e1
      injection e2 with e2
      subst e1 e2
      exact ⟨f, r⟩
  have HP : Hid (Pre w w g T M s F A C a k f F) := hide ⟨HG.out.blk, HG.out.own, HG.out.row, HG.out.mem, HG.out.lt, ha, hk, hak, h6, h7, h8, Only.refl _ _, fun b hb => .inl hb⟩
  have HM := hide h6
  have HN : Hid ((atI s.ids x).getD 0 = 0 ∧ (atI s.ids x).isSome = false) := hide (by unfold atI; rw [hp.out]; exact ⟨rfl, rfl⟩)
  have hlb := hok.out.lb
  obtain ⟨n, hn2⟩ : ∃ n, s.bz.length = n := ⟨_, rfl⟩
  have HNN := hide hn2
  have hn1000 : n ≤ 1000 := by omega
  have c1 : w.cell? ⟨g, 1, none⟩ = some (.map (some a)) := HG.out.blk.cell 1
  have c3 : w.cell? ⟨g, 3, none⟩ = some (.slice A n C) := by rw [← hn2]; exact HG.out.blk.cell 3
  have he := fun w => run_eql_map_nil (P := Try.prog) w 41 3 3 (some a) Try.underlying41
  clear ha hk hak h6 h7 h8 hlb hn2
  go_enter Try.func14, Try.ntmps14
  go_wp2_with (at_lookup; go_loud (refine wpList_get_ok rfl (.tmp 13) (.tmp 14) rfl HM.out rfl x rfl hx.out 0 false HN.out.1 HN.out.2 ?_))
  go_wp2_with fail
  go_still_tail 10, (by kernel_rfl)
  go_wp2_with (at_mapUpdate; go_loud (refine wpList_put rfl (.tmp 35) (.tmp 36) (.tmp 41) rfl (HP.out.at_.only (F := []) (Only.drew _) (by simp)) (by unfold maxLen; omega) rfl x (n : Nat) rfl rfl hx.out (WalkArith.wf_i64 (by omega)) ?_))
  intro w1 hM1 hg1
  have HM1 := hide hM1
  have HG1 := hide hg1
  have O1 : Hid (Only [a] w w1) := hide ((Only.drew _).next (Only.of_grown (F := [a]) hg1 (fun b e => by injection e with e; subst e; exact .inl (List.mem_singleton.2 rfl))) (fun b hb => .inl hb))
  have hga : g ≠ a := HP.out.at_.ne HP.out.blk
  have B1 := HP.out.blk.only O1.out (by simpa using hga)
  have OW1 := hide (own_only HP.out.own O1.out (fun b hb => by simpa using own_ne_map HP.out.own HP.out.at_ b hb))
  rw [HNN.out] at B1 OW1
  clear hM1 hg1 c1 c3
  have c3 : w1.cell? ⟨g, 3, none⟩ = some (.slice A n C) := B1.cell 3
  obtain ⟨i0, hi, hz0, hz1, hz2⟩ := info_parts Try.info3
  go_wp2_with (at_builtin; go_loud (refine wpList_append_own_at _ rfl (.tmp 46) (.tmp 47) 27 rfl 0 3 i0 (.int .i64 0) 1 8 Try.underlying27 hi hz0 hz1 hz2 rfl (by decide) _ n _ rfl (OW1.out.alloc _) ⟨w1.heap.size, 0, none⟩ 1 1 [.int .i64 0] rfl rfl (news_one _ _ _) (one_cell rfl) (by unfold maxLen; omega) (by omega) (Nat.zero_le _) ?_))
  intro v' w2 hown2 hg2 _ hloc
  obtain ⟨g', c', rfl⟩ := own_some hown2 (by omega)
  have B2 := (B1.alloc (.cells #[.int .i64 0] 3)).grown hg2 (fun e => (HP.out.row g (by rw [HNN.out]; exact e.symm)).2 rfl)
  have HE := hide (close_end hok.out hp.out HNN.out HP.out HM1.out HG1.out hown2 hg2 hloc)
  clear hown2 hg2 hloc c3 B1
  have c3 : w2.cell? ⟨g, 3, none⟩ = some (.slice A n C) := B2.cell 3
  have f3 : w2.frozen? ⟨g, 3, none⟩ = false := B2.free 3
  go_wp2_with fail
  go_ret
  exact HE.out


set_option maxHeartbeats 1000000 in
theorem close_first (g T : Nat) (M x : Int) (s : St) (F : List Nat) (A : Option Addr) (C : Nat) (w : World) (hs : s.ids.length ≤ 1000) (hT : T ≤ 1000000) (hok : Hid s.Ok) (hx : Hid ((Lit.int .i64 x).wf = true)) (hp : Hid (posI s.ids x = none)) (HG : Hid (GrI w g M s F T A C none none)) (hn : Hid (s.ids = [])) :
    Calls Try.prog 14 #[.pointer (some ⟨g, 0, none⟩), .int .i64 x] w (CPost g T M x s F w) := by
  have hl := Maps.look_nil (P := Try.prog) (w := w) (t := 41) (k := 3) (e := 3) true kk Try.underlying41 (zeroE w) (keyOf_int_mk Try.underlying3 hx.out)
  have he := fun w => run_eql_map_nil (P := Try.prog) w 41 3 3 none Try.underlying41
  have hmm := @run_makeMap Try.prog
  have hlb := hok.out.lb
  obtain ⟨n, hn2⟩ : ∃ n, s.bz.length = n := ⟨_, rfl⟩
  have HNN := hide hn2
  have hn1000 : n ≤ 1000 := by omega
  have c1 : w.cell? ⟨g, 1, none⟩ = some (.map none) := HG.out.blk.cell 1
  have c2 : w.cell? ⟨g, 2, none⟩ = some (.map none) := HG.out.blk.cell 2
  have f1 : w.frozen? ⟨g, 1, none⟩ = false := HG.out.blk.free 1
  have f2 : w.frozen? ⟨g, 2, none⟩ = false := HG.out.blk.free 2
  have c3 : w.cell? ⟨g, 3, none⟩ = some (.slice A n C) := by rw [← hn2]; exact HG.out.blk.cell 3
  have hgl : g < w.heap.size := HG.out.blk.lt
  have hgn : ¬ g = w.heap.size := by omega
  have hgn1 : ¬ g = w.heap.size + 1 := by omega
  have HP : Hid (Pre w ((((w.setCell ⟨g, 1, none⟩ (.map (some w.heap.size))).setCell ⟨g, 2, none⟩ (.map (some (w.heap.size + 1)))).alloc (.map #[] 0)).alloc (.map #[] 0)) g T M s F A C w.heap.size (w.heap.size + 1) (fun _ => none) (w.heap.size :: (w.heap.size + 1) :: F)) := hide (by
    have hX : ((w.setCell ⟨g, 1, none⟩ (.map (some w.heap.size))).setCell ⟨g, 2, none⟩ (.map (some (w.heap.size + 1)))).heap.size = w.heap.size := by simp
    have OX : Only [g] w ((w.setCell ⟨g, 1, none⟩ (.map (some w.heap.size))).setCell ⟨g, 2, none⟩ (.map (some (w.heap.size + 1)))) := (Only.store (F := [g]) (p := ⟨g, 1, none⟩) w (List.mem_singleton.2 rfl) _).next (Only.store (F := [g]) (p := ⟨g, 2, none⟩) _ (List.mem_singleton.2 rfl) _) (fun b hb => .inl hb)
    have OA : Only ([] : List Nat) ((w.setCell ⟨g, 1, none⟩ (.map (some w.heap.size))).setCell ⟨g, 2, none⟩ (.map (some (w.heap.size + 1)))) ((((w.setCell ⟨g, 1, none⟩ (.map (some w.heap.size))).setCell ⟨g, 2, none⟩ (.map (some (w.heap.size + 1)))).alloc (.map #[] 0)).alloc (.map #[] 0)) := (Only.alloc _ _).next (Only.alloc (F := []) _ _) (by simp)
    have OG : Only [g] w ((((w.setCell ⟨g, 1, none⟩ (.map (some w.heap.size))).setCell ⟨g, 2, none⟩ (.map (some (w.heap.size + 1)))).alloc (.map #[] 0)).alloc (.map #[] 0)) := OX.next OA (by simp)
    have hrow := HG.out.row
    have hog : ∀ b, (Value.slice A s.bz.length C).ownBlock = some b → b ∉ [g] := fun b hb => by simpa using (hrow b hb).2
    have m1 : MapI (((w.setCell ⟨g, 1, none⟩ (.map (some w.heap.size))).setCell ⟨g, 2, none⟩ (.map (some (w.heap.size + 1)))).alloc (.map #[] 0)) w.heap.size 0 (fun _ => none) := by have := MapI.made ((w.setCell ⟨g, 1, none⟩ (.map (some w.heap.size))).setCell ⟨g, 2, none⟩ (.map (some (w.heap.size + 1)))); rwa [hX] at this
    have m2 : MapI ((((w.setCell ⟨g, 1, none⟩ (.map (some w.heap.size))).setCell ⟨g, 2, none⟩ (.map (some (w.heap.size + 1)))).alloc (.map #[] 0)).alloc (.map #[] 0)) (w.heap.size + 1) 0 (fun _ => none) := by have := MapI.made (((w.setCell ⟨g, 1, none⟩ (.map (some w.heap.size))).setCell ⟨g, 2, none⟩ (.map (some (w.heap.size + 1)))).alloc (.map #[] 0)); rwa [World.size_alloc, hX] at this
    have m3 : MapI ((((w.setCell ⟨g, 1, none⟩ (.map (some w.heap.size))).setCell ⟨g, 2, none⟩ (.map (some (w.heap.size + 1)))).alloc (.map #[] 0)).alloc (.map #[] 0)) w.heap.size 0 (fun _ => none) := m1.only (F := []) (Only.alloc _ _) (by simp)
    have hids := hn.out
    have e1 : ∀ y, (fun _ => none : Int → Option Int) y = atI s.ids y := fun y => by unfold atI; rw [hids]; rfl
    have hb := ((HG.out.blk.store 1 (.map (some w.heap.size))).store 2 (.map (some (w.heap.size + 1))))
    refine ⟨(hb.alloc _).alloc _, own_only HG.out.own OG hog, fun b hbb => ⟨List.mem_cons_of_mem _ (List.mem_cons_of_mem _ (hrow b hbb).1), (hrow b hbb).2⟩, List.mem_cons_of_mem _ (List.mem_cons_of_mem _ HG.out.mem), ?_, List.mem_cons_self, List.mem_cons_of_mem _ List.mem_cons_self, by omega, (m3.congr e1).mono (Nat.zero_le _), m2.mono (Nat.zero_le _), ?_, OG.mono (fun b hb => .inl (by rw [List.mem_singleton.1 hb]; exact HG.out.mem)), ?_⟩
    · intro b hb
      have hs2 : ((((w.setCell ⟨g, 1, none⟩ (.map (some w.heap.size))).setCell ⟨g, 2, none⟩ (.map (some (w.heap.size + 1)))).alloc (.map #[] 0)).alloc (.map #[] 0)).heap.size = w.heap.size + 2 := by simp
      rw [hs2]
      rcases List.mem_cons.1 hb with h | h
      · omega
      · rcases List.mem_cons.1 h with h | h
        · omega
        · have := HG.out.lt b h; omega
    · intro y
      unfold kpAt
      rw [hids]; rfl
    · intro b hb
      rcases List.mem_cons.1 hb with h | h
      · exact .inr (by omega)
      · rcases List.mem_cons.1 h with h | h
        · exact .inr (by omega)
        · exact .inl h)
  clear hlb hn2
  go_enter Try.func14, Try.ntmps14
  go_wp2_with fail
  obtain ⟨a, ha⟩ : ∃ a, a = w.heap.size := ⟨_, rfl⟩
  obtain ⟨k, hk⟩ : ∃ k, k = w.heap.size + 1 := ⟨_, rfl⟩
  obtain ⟨w0, hw0⟩ : ∃ w0, w0 = ((((w.setCell ⟨g, 1, none⟩ (.map (some w.heap.size))).setCell ⟨g, 2, none⟩ (.map (some (w.heap.size + 1)))).alloc (.map #[] 0)).alloc (.map #[] 0)) := ⟨_, rfl⟩
  rw [← hw0] at HP ⊢
  clear hw0 c1 c2 f1 f2 c3 hl he hmm
  rw [← hk, ← ha] at HP ⊢
  clear ha hk hgn hgn1
  have c1 : w0.cell? ⟨g, 1, none⟩ = some (.map (some a)) := HP.out.blk.cell 1
  have c3 : w0.cell? ⟨g, 3, none⟩ = some (.slice A n C) := by rw [← HNN.out]; exact HP.out.blk.cell 3
  go_still_tail 10, (by kernel_rfl)
  go_wp2_with (at_mapUpdate; go_loud (refine wpList_put rfl (.tmp 35) (.tmp 36) (.tmp 41) rfl (HP.out.at_.only (F := []) (Only.drew _) (by simp)) (by unfold maxLen; omega) rfl x (n : Nat) rfl rfl hx.out (WalkArith.wf_i64 (by omega)) ?_))
  intro w1 hM1 hg1
  have HM1 := hide hM1
  have HG1 := hide hg1
  have O1 : Hid (Only [a] w0 w1) := hide ((Only.drew _).next (Only.of_grown (F := [a]) hg1 (fun b e => by injection e with e; subst e; exact .inl (List.mem_singleton.2 rfl))) (fun b hb => .inl hb))
  have hga : g ≠ a := HP.out.at_.ne HP.out.blk
  have B1 := HP.out.blk.only O1.out (by simpa using hga)
  have OW1 := hide (own_only HP.out.own O1.out (fun b hb => by simpa using own_ne_map HP.out.own HP.out.at_ b hb))
  rw [HNN.out] at B1 OW1
  clear hM1 hg1 c1 c3
  have c3 : w1.cell? ⟨g, 3, none⟩ = some (.slice A n C) := B1.cell 3
  obtain ⟨i0, hi, hz0, hz1, hz2⟩ := info_parts Try.info3
  go_wp2_with (at_builtin; go_loud (refine wpList_append_own_at _ rfl (.tmp 46) (.tmp 47) 27 rfl 0 3 i0 (.int .i64 0) 1 8 Try.underlying27 hi hz0 hz1 hz2 rfl (by decide) _ n _ rfl (OW1.out.alloc _) ⟨w1.heap.size, 0, none⟩ 1 1 [.int .i64 0] rfl rfl (news_one _ _ _) (one_cell rfl) (by unfold maxLen; omega) (by omega) (Nat.zero_le _) ?_))
  intro v' w2 hown2 hg2 _ hloc
  obtain ⟨g', c', rfl⟩ := own_some hown2 (by omega)
  have B2 := (B1.alloc (.cells #[.int .i64 0] 3)).grown hg2 (fun e => (HP.out.row g (by rw [HNN.out]; exact e.symm)).2 rfl)
  have HE := hide (close_end hok.out hp.out HNN.out HP.out HM1.out HG1.out hown2 hg2 hloc)
  clear hown2 hg2 hloc c3 B1
  have c3 : w2.cell? ⟨g, 3, none⟩ = some (.slice A n C) := B2.cell 3
  have f3 : w2.frozen? ⟨g, 3, none⟩ = false := B2.free 3
  go_wp2_with fail
  go_ret
  exact HE.out

theorem close_new (g T : Nat) (M x : Int) (s : St) (F : List Nat) (w : World) (hs : s.ids.length ≤ 1000) (hT : T ≤ 1000000) (hok : s.Ok) (hx : (Lit.int .i64 x).wf = true) (hp : posI s.ids x = none) (HG : Gr w g M s F T) :
    Calls Try.prog 14 #[.pointer (some ⟨g, 0, none⟩), .int .i64 x] w (CPost g T M x s F w) := by
  obtain ⟨A, C, am, km, h⟩ := HG
  rcases h.mps with ⟨h0, rfl, rfl⟩ | ⟨a, k, f, rfl, rfl, r⟩
  · exact close_first g T M x s F A C w hs hT (hide hok) (hide hx) (hide hp) (hide h) (hide h0)
  · exact close_more g T M x s F A C a k w hs hT (hide hok) (hide hx) (hide hp) (hide h)

end Go.Proofs.Ytgledbjkjpngeaa
