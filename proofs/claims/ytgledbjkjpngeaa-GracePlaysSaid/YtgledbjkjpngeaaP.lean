/- Contract: Keep. -/
import Derived.Test.YtgledbjkjpngeaaN
namespace Go.Proofs.Ytgledbjkjpngeaa
open Go.RowKit Go.Maps

/-- One more in j spans from k on. -/
def bumpTo (k j : Nat) (b : List Nat) : List Nat := b.mapIdx fun t n => if k ≤ t ∧ t < k + j then n + 1 else n
theorem bumpTo_at (k j : Nat) (b : List Nat) (t : Nat) : (bumpTo k j b)[t]? = (b[t]?).map fun n => if k ≤ t ∧ t < k + j then n + 1 else n := by
  unfold bumpTo; rw [List.getElem?_mapIdx]
theorem bumpTo_len (k j : Nat) (b : List Nat) : (bumpTo k j b).length = b.length := by unfold bumpTo; simp
theorem bumpTo_zero (k : Nat) (b : List Nat) : bumpTo k 0 b = b := by
  apply List.ext_getElem?
  intro t
  rw [bumpTo_at]
  cases b[t]? with
  | none => rfl
  | some n =>
    simp only [Option.map_some]
    rw [if_neg (by omega)]
theorem bumpTo_all (k : Nat) (b : List Nat) : bumpTo k (b.length - k) b = bump k b := by
  apply List.ext_getElem?
  intro t
  rw [bumpTo_at, bump_at]
  by_cases ht : t < b.length
  · rw [List.getElem?_eq_getElem ht]
    simp only [Option.map_some]
    by_cases h : k ≤ t
    · rw [if_pos ⟨h, by omega⟩, if_pos h]
    · rw [if_neg (fun h2 => h h2.1), if_neg h]
  · rw [List.getElem?_eq_none (by omega)]; rfl
theorem bumpTo_step (k j : Nat) (b : List Nat) {n : Nat} (h : b[k + j]? = some n) : ints (bumpTo k (j + 1) b) = (ints (bumpTo k j b)).set (k + j) (.int .i64 ((n + 1 : Nat) : Int)) := by
  apply List.ext_getElem?
  intro t
  have hl := (List.getElem?_eq_some_iff.1 h).1
  rw [List.getElem?_set]
  unfold ints
  rw [List.getElem?_map, List.getElem?_map, bumpTo_at, bumpTo_at]
  by_cases e : k + j = t
  · subst e
    rw [if_pos rfl, if_pos (by rw [List.length_map, bumpTo_len]; exact hl), h]
    simp only [Option.map_some]
    rw [if_pos ⟨by omega, by omega⟩]
  · rw [if_neg e]
    cases b[t]? with
    | none => rfl
    | some m =>
      simp only [Option.map_some]
      by_cases h2 : k ≤ t ∧ t < k + j
      · rw [if_pos h2, if_pos ⟨h2.1, by omega⟩]
      · rw [if_neg h2, if_neg (by omega)]
theorem posI_inj {l : List Int} {x y : Int} {i : Nat} (h1 : posI l x = some i) (h2 : posI l y = some i) : x = y := by
  have a := posI_get h1
  have b := posI_get h2
  rw [a] at b
  exact Option.some.inj b

/-- What Keep says of a number that can be kept. -/
def KPost (g T : Nat) (M : Int) (s' : St) (F : List Nat) (w : World) (e : Ending) (w' : World) : Prop := e = .returned (.bool true) ∧ Gr w' g M s' F (T + 1) ∧ Only F w w'
theorem keep_end {w w1 w2 : World} {g T C a k i q : Nat} {M x : Int} {s : St} {F L : List Nat} {A : Option Addr} {f : Int → Option Int} {b' : List Nat} (hok : s.Ok) (hp : posI s.ids x = some i) (_hq : s.kp.getD i 0 = q)
    (hb' : b'.length = s.bz.length) (HG : GrI w g M s F T A C (some a) (some k)) (ha : a ∈ F) (hk : k ∈ F) (hak : a ≠ k) (hat : MapI w a T (atI s.ids)) (hkp : ∀ y, (f y).getD 0 = kpAt s y)
    (O1 : Only L w w1) (hL : ∀ b ∈ L, (Value.slice A s.bz.length C).ownBlock = some b) (hown : w1.ownsRow 0 3 1 (.slice A s.bz.length C) s.bz.length (ints b'))
    (hkt : MapI w k T f) (HM2 : MapI w2 k (T + 1) (fun y => if y = x then some ((s.ids.length - i : Nat) : Int) else f y)) (hg2 : w1.grownBy w2 (some k)) :
    KPost g T M ⟨s.ids, s.kp.set i (s.ids.length - i), b'⟩ F w (.returned (.bool true)) w2 := by
  have hil := posI_lt hp
  have hoa := own_ne_map HG.own hat
  have hok2 := own_ne_map HG.own hkt
  have hga : g ≠ a := hat.ne HG.blk
  have hgk : g ≠ k := hkt.ne HG.blk
  have O2 : Only [k] w1 w2 := Only.of_grown hg2 (fun b e => by injection e with e; subst e; exact .inl (List.mem_singleton.2 rfl))
  have OF1 : Only F w w1 := O1.mono (fun b hb => .inl (HG.row b (hL b hb)).1)
  have OF : Only F w w2 := OF1.next O2 (fun b hb => .inl (by rw [List.mem_singleton.1 hb]; exact hk))
  have hgL : g ∉ L := fun h => (HG.row g (hL g h)).2 rfl
  have haL : a ∉ L := fun h => hoa a (hL a h) rfl
  refine ⟨rfl, ⟨A, C, some a, some k, ?_, ?_, ?_, ?_, HG.mem, fun b hb => Nat.lt_of_lt_of_le (HG.lt b hb) OF.size⟩, OF⟩
  · dsimp only; rw [hb']; exact (HG.blk.only O1 hgL).only O2 (by simpa using hgk)
  · dsimp only; rw [hb']; exact own_only hown O2 (fun b hb => by simpa using hok2 b hb)
  · dsimp only; rw [hb']; exact HG.row
  · refine .inr ⟨a, k, _, rfl, rfl, ha, hk, hak, ((hat.only O1 haL).only O2 (by simpa using hak)).mono (Nat.le_succ _), HM2, ?_⟩
    intro y
    unfold kpAt
    dsimp only
    by_cases e : y = x
    · subst e
      rw [if_pos rfl, hp]
      dsimp only
      rw [List.getD_eq_getElem?_getD, List.getElem?_set_self (by rw [hok.lk]; exact hil)]; rfl
    · rw [if_neg e, hkp y]
      unfold kpAt
      cases hpy : posI s.ids y with
      | none => rfl
      | some j =>
        dsimp only
        have hij : i ≠ j := fun e2 => e (posI_inj (by rw [hpy]) (by rw [hp, e2]))
        rw [List.getD_eq_getElem?_getD, List.getD_eq_getElem?_getD, List.getElem?_set_ne hij]

theorem keep_no (g T : Nat) (M x : Int) (s : St) (F : List Nat) (w : World) (hs : s.ids.length ≤ 1000) (hok : s.Ok) (hx : (Lit.int .i64 x).wf = true) (hc : s.can M x = false) (HG : Gr w g M s F T) :
    Calls Try.prog 12 #[.pointer (some ⟨g, 0, none⟩), .int .i64 x] w fun e w' => e = .returned (.bool false) ∧ Below w.heap.size w w' := by
  have HC := hide (can_any g T M x s F w hs (hide hok) (hide hx) (hide HG))
  have HCC := hide hc
  clear hok hx hc HG
  go_enter Try.func12, Try.ntmps12
  go_wp2_with fail
  refine HC.out.mono ?_
  rintro e w1 ⟨rfl, hb⟩
  rw [HCC.out]
  have HB := hide hb
  clear hb
  go_wp2_with fail
  go_ret
  exact ⟨rfl, HB.out⟩
theorem keep_nil (x : Int) (w : World) : Calls Try.prog 12 #[.pointer none, .int .i64 x] w fun e w' => e = .returned (.bool false) ∧ Below w.heap.size w w' := by
  go_enter Try.func12, Try.ntmps12
  go_wp2_with fail
  refine (can_nil x _).mono ?_
  rintro e w1 ⟨rfl, hb⟩
  have HB := hide hb
  clear hb
  go_wp2_with fail
  go_ret
  exact ⟨rfl, HB.out⟩

set_option maxHeartbeats 2000000 in
theorem keep_yes (g T : Nat) (M x : Int) (s : St) (F : List Nat) (i : Nat) (w : World) (hs : s.ids.length ≤ 1000) (hT : T ≤ 1000000) (hok : s.Ok) (hx : (Lit.int .i64 x).wf = true) (hc : s.can M x = true) (hp : posI s.ids x = some i) (HG : Gr w g M s F T) :
    Calls Try.prog 12 #[.pointer (some ⟨g, 0, none⟩), .int .i64 x] w (KPost g T M ⟨s.ids, s.kp.set i (s.ids.length - i), bump (s.from i) s.bz⟩ F w) := by
  have HC := hide (can_any g T M x s F w hs (hide hok) (hide hx) (hide HG))
  have HCC := hide hc
  obtain ⟨A, C, am, km, h⟩ := HG
  have HGI := hide h
  have HOK := hide hok
  have HX := hide hx
  have HP := hide hp
  have hil := posI_lt hp
  obtain ⟨q, hq⟩ : ∃ q, s.kp.getD i 0 = q := ⟨_, rfl⟩
  have hle := hok.le i hil
  obtain ⟨k, hk⟩ : ∃ k, s.from i = k := ⟨_, rfl⟩
  have hk' := hk
  unfold St.from at hk'
  rw [hk] at hle
  rw [hq] at hk'
  have HQ := hide hq
  have HK := hide hk
  obtain ⟨n, hn⟩ : ∃ n, s.bz.length = n := ⟨_, rfl⟩
  have hlb := hok.lb
  rw [hn] at hlb
  have HN := hide hn
  have hkn : k ≤ n := by omega
  have hnb : n ≤ 1000 := by omega
  have hkiq : i + q ≤ n := by omega
  have HLB := hide hlb
  have HKQ := hide hk'
  have hcap := h.cap
  rw [hn] at hcap
  obtain ⟨hcap1, hcap2⟩ := hcap
  have HBD : Hid (∀ b ∈ s.bz, b ≤ 1000) := hide (fun b hb => Nat.le_trans (hok.bd b hb) hs)
  rw [hk]
  obtain ⟨a, kb, f, rfl, rfl, ha, hkb, hak, hat, hkt, hkp⟩ : ∃ a kb f, am = some a ∧ km = some kb ∧ a ∈ F ∧ kb ∈ F ∧ a ≠ kb ∧ MapI w a T (atI s.ids) ∧ MapI w kb T f ∧ ∀ y, (f y).getD 0 = kpAt s y := by
    rcases h.mps with ⟨h0, _⟩ | r
    · rw [h0] at hil; simp at hil
    · exact r
  have HM := hide (And.intro ha (And.intro hkb (And.intro hak (And.intro hat (And.intro hkt hkp)))))
  have HFX : Hid ((f x).getD 0 = (q : Nat)) := hide (by rw [hkp x]; unfold kpAt; rw [hp]; exact congrArg _ hq)
  clear hok hx hc hp hil hq hle hk hk' hn hlb ha hkb hak hat hkt hkp h hs
  go_enter Try.func12, Try.ntmps12
  go_wp2_with fail
  refine HC.out.mono ?_
  rintro e w1 ⟨rfl, hb⟩
  rw [HCC.out]
  have HB := hide hb
  have HG1 := hide (HGI.out.kept hb)
  clear hb
  have HS : Hid (s.ids.length ≤ 1000) := hide (by rw [← HLB.out]; exact hnb)
  go_wp2_with fail
  refine (open_some g T M x s F i k A C (some a) (some kb) _ HS.out HOK HX HP HK HG1).mono ?_
  rintro e w2 ⟨rfl, rfl⟩
  rw [HN.out]
  have hn1 : 0 < n := by have := posI_lt HP.out; have := HLB.out; omega
  obtain ⟨ga, C', hA⟩ := own_some (n := n) (by have := HGI.out.own; rwa [HN.out] at this) hn1
  injection hA with hA _ _
  subst hA
  obtain ⟨AD, hAD⟩ : ∃ AD, sub (some ⟨ga, 0, none⟩) C k = AD := ⟨_, rfl⟩
  have HAD : Hid (k < n → AD = some ⟨ga, k, none⟩) := hide (fun h => by
    rw [← hAD]
    unfold sub
    rw [if_neg (by omega)]
    simp [Addr.add_lit])
  rw [hAD]
  have HW1 : Hid (Only F w w1.drew) := hide ((Only.of_below HB.out).next (Only.drew w1) (fun b hb => .inl hb) (F1 := F))
  have HG2 : Hid (GrI w1.drew g M s F T (some ⟨ga, 0, none⟩) C (some a) (some kb)) := hide (HG1.out.only (F1 := []) (Only.drew w1) (by simp))
  have OD : Hid (Only ([] : List Nat) w w1.drew) := hide ((Only.of_below (F := []) HB.out).next (Only.drew w1) (F1 := []) (by simp))
  have HAT : Hid (MapI w1.drew a T (atI s.ids)) := hide (HM.out.2.2.2.1.only OD.out (by simp))
  have HKT : Hid (MapI w1.drew kb T f) := hide (HM.out.2.2.2.2.1.only OD.out (by simp))
  have HO0 : Hid (w1.drew.ownsRow 0 3 1 (.slice (some ⟨ga, 0, none⟩) n C) n (ints (bumpTo k 0 s.bz))) := hide (by rw [bumpTo_zero]; have := HG2.out.own; rwa [HN.out] at this)
  have hgag : ga ≠ g := (HG2.out.row ga rfl).2
  have hgakb : ga ≠ kb := own_ne_map HG2.out.own HKT.out ga rfl
  clear hAD OD HC HB
  go_wp2_with fail
  go_loopw [20] (fun ii wr => ∃ j : Nat, ii = .int .i64 (j : Nat) ∧ j ≤ n - k ∧ Hid (wr.ownsRow 0 3 1 (.slice (some ⟨ga, 0, none⟩) n C) n (ints (bumpTo k j s.bz))) ∧ Hid (Only [ga] w1.drew wr)) (fun ii _ => n - k - (intOf ii).toNat)
  case atStart => exact ⟨0, rfl, Nat.zero_le _, HO0, hide (Only.refl _ _)⟩
  case round =>
    clear HO0
    obtain ⟨j, rfl, hj, HO, HW⟩ := hrel
    by_cases hlt : j < n - k
    · obtain rfl := HAD.out (by omega)
      have hji : (j : Int) < ((n - k : Nat) : Int) := by omega
      obtain ⟨v, hv⟩ : ∃ v, s.bz[k + j]? = some v := ⟨_, List.getElem?_eq_getElem (by rw [HN.out]; omega)⟩
      have hvb : v ≤ 1000 := HBD.out v (List.mem_of_getElem? hv)
      have c0 : wr.cell? ⟨ga, k + j, none⟩ = some (.int .i64 (v : Nat)) := by
        rw [HO.out.cellAt _ (by omega)]
        refine ints_at _ ?_
        rw [bumpTo_at, hv]
        simp only [Option.map_some]
        rw [if_neg (by omega)]
      have f0 : wr.frozen? ⟨ga, k + j, none⟩ = false := HO.out.frozenAt _
      have HO1 : Hid ((wr.setCell ⟨ga, k + j, none⟩ (.int .i64 ((v : Int) + 1))).ownsRow 0 3 1 (.slice (some ⟨ga, 0, none⟩) n C) n (ints (bumpTo k (j + 1) s.bz))) := hide (by
        rw [bumpTo_step k j s.bz hv]
        have := (HO.out.stored (k + j) (.int .i64 ((v + 1 : Nat) : Int))).1
        rwa [show ((v + 1 : Nat) : Int) = (v : Int) + 1 from by omega] at this ⊢)
      have HW2 : Hid (Only [ga] w1.drew (wr.setCell ⟨ga, k + j, none⟩ (.int .i64 ((v : Int) + 1)))) := hide (HW.out.next (Only.store (F := [ga]) (p := ⟨ga, k + j, none⟩) wr (List.mem_singleton.2 rfl) _) (fun b hb => .inl hb))
      clear hv
      go_wp2_with fail
      go_roundw
      case rel => exact ⟨j + 1, by go_num, by omega, HO1, HW2⟩
      case measure => simp [intOf]; omega
    · have hji : ¬ (j : Int) < ((n - k : Nat) : Int) := by omega
      have HO2 : Hid (wr.ownsRow 0 3 1 (.slice (some ⟨ga, 0, none⟩) n C) n (ints (bump k s.bz))) := hide (by
        rw [← bumpTo_all, HN.out, ← show j = n - k from by omega]
        exact HO.out)
      have c2 : wr.cell? ⟨g, 2, none⟩ = some (.map (some kb)) := (HG2.out.blk.only HW.out (by simpa using hgag.symm)).cell 2
      have HK2 := hide (HKT.out.only HW.out (by simpa using hgakb.symm))
      have hqb : q ≤ 1000 := by have := HKQ.out; omega
      clear HO
      go_wp2_with (first
        | (at_lookup; go_loud (refine wpList_get rfl (.tmp 33) (.tmp 34) rfl HK2.out rfl x rfl HX.out (q : Nat) HFX.out ?_))
        | (at_mapUpdate; go_loud (refine wpList_put rfl (.tmp 33) (.tmp 34) (.tmp 38) rfl HK2.out (by unfold maxLen; omega) rfl x _ rfl rfl HX.out (WalkArith.wf_i64 (by omega)) ?_)))
      intro w3 hM3 hg3
      have HE : Hid (KPost g T M ⟨s.ids, s.kp.set i (s.ids.length - i), bump k s.bz⟩ F w (.returned (.bool true)) w3) := hide (by
        have e : (((q : Nat) : Int) + ((n - k : Nat) : Int)) = ((s.ids.length - i : Nat) : Int) := by have := HKQ.out; have := HLB.out; have := posI_lt HP.out; omega
        rw [e] at hM3
        have h := keep_end HOK.out HP.out HQ.out (bump_length k s.bz) HG2.out HM.out.1 HM.out.2.1 HM.out.2.2.1 HAT.out HM.out.2.2.2.2.2 HW.out (fun b hb => by rw [List.mem_singleton.1 hb]; rfl) (by rw [HN.out]; exact HO2.out) HKT.out hM3 hg3
        exact ⟨h.1, h.2.1, HW1.out.next h.2.2 (fun b hb => .inl hb)⟩)
      clear hM3 hg3
      go_wp2_with fail
      go_ret
      exact HE.out
end Go.Proofs.Ytgledbjkjpngeaa
