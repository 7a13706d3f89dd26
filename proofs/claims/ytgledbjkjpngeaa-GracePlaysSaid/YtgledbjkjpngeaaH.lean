/- The reference's New and Keep. -/
import Derived.Test.YtgledbjkjpngeaaG
import Derived.Deep.RegionWith
import Derived.StillTailTactics
namespace Go.Proofs.Ytgledbjkjpngeaa
open Go.RowKit Go.Maps

/-- What stands in a block of the reference's memory. -/
def MemC (M : Int) (A1 : Option Addr) (n1 c1 : Nat) (A2 : Option Addr) (n2 c2 : Nat) : Array Value := #[.int .i64 M, .slice A1 n1 c1, .slice A2 n2 c2]
theorem blk_cells {w : World} {g : Nat} {M : Int} {A1 : Option Addr} {n1 c1 : Nat} {A2 : Option Addr} {n2 c2 : Nat} (h : Blk w g 30 #[.int .i64 M, .slice A1 n1 c1, .slice A2 n2 c2]) :
    w.cell? ⟨g, 0, none⟩ = some (.int .i64 M) ∧ w.cell? ⟨g, 1, none⟩ = some (.slice A1 n1 c1) ∧ w.cell? ⟨g, 2, none⟩ = some (.slice A2 n2 c2) := ⟨by rw [h.cell]; rfl, by rw [h.cell]; rfl, by rw [h.cell]; rfl⟩
theorem blk_free {w : World} {g : Nat} {t : TypeId} {cs : Array Value} (h : Blk w g t cs) : w.frozen? ⟨g, 0, none⟩ = false ∧ w.frozen? ⟨g, 1, none⟩ = false ∧ w.frozen? ⟨g, 2, none⟩ = false := ⟨h.free _, h.free _, h.free _⟩

set_option maxRecDepth 10000 in
set_option maxHeartbeats 2000000 in
theorem rkeep_none (M x : Int) (K : Nat → Prop) (A1 A2 : Option Addr) (n1 c1 n2 c2 : Nat) (ids : List Int) (bs : List (List Bool)) (vs : List Value) (w : World) (hn1 : n1 ≤ 100) (hr : Ref w K ids bs vs A1 n1 c1 A2 n2) (hp : posI ids x = none) :
    Calls Try.prog 13 #[.agg #[.int .i64 M, .slice A1 n1 c1, .slice A2 n2 c2], .int .i64 x] w fun e w' => e = .returned (.tuple #[.agg #[.int .i64 M, .slice A1 n1 c1, .slice A2 n2 c2], .bool false]) ∧ Below w.heap.size w w' := by
  have HR := hide hr
  have HP := hide hp
  clear hr hp
  go_enter Try.func13, Try.ntmps13
  go_wp2_with fail
  refine (at_any M x A1 A2 n1 c1 n2 c2 ids _ (by omega) HR.out.l1 ((HR.out.s1.sees.alloc _).alloc _)).mono ?_
  rintro e w1 ⟨rfl, hb⟩
  have HB0 : Hid (Blk w1 w.heap.size 30 #[.int .i64 M, .slice A1 n1 c1, .slice A2 n2 c2]) := hide (((Blk.born w 30 _).alloc _).kept hb)
  have HB1 : Hid (Blk w1 (w.heap.size + 1) 30 #[.int .i64 0, .slice none 0 0, .slice none 0 0]) := hide (by
    have := (Blk.born (w.alloc (.cells #[.int .i64 M, .slice A1 n1 c1, .slice A2 n2 c2] 30)) 30 #[.int .i64 0, .slice none 0 0, .slice none 0 0]).kept hb
    simpa using this)
  have HW0 : Hid (Below w.heap.size w w1) := hide (below_base2 hb)
  rw [show atZ ids x = -1 from by unfold atZ; rw [HP.out]]
  clear hb
  obtain ⟨t0, t1, t2⟩ := blk_cells HB0.out
  obtain ⟨z0, z1, z2⟩ := blk_cells HB1.out
  obtain ⟨f0, f1, f2⟩ := blk_free HB1.out
  go_wp2_with fail
  have RR := ((HB1.out.store 0 (.int .i64 M)).store 1 (.slice A1 n1 c1)).store 2 (.slice A2 n2 c2)
  have d0 := RR.cell 0
  have d1 := RR.cell 1
  have d2 := RR.cell 2
  refine bodyPost_ret (v := .tuple #[.agg #[.int .i64 M, .slice A1 n1 c1, .slice A2 n2 c2], .bool false]) (by simp [results, Try.results13, go_sem, d0, d1, d2]) rfl ⟨rfl, ?_⟩
  exact (((HW0.out.setCell (by simp) _).setCell (by simp) _).setCell (by simp) _)

theorem own_ref {w0 w : World} {K : Nat → Prop} {A1 A : Option Addr} {n1 c1 n c : Nat} {ids : List Int} {us : List Value} {out : List (List Bool)} (h : Own w0 w K A n c n1 us out) (hk : ∀ g, w0.heap.size ≤ g → K g) (hl : ids.length = n1) (hn : A1 = none → n1 = 0 ∧ c1 = 0) (hs : SeesK w K A1 (ids.map (Value.int .i64))) : Ref w K ids out us A1 n1 c1 A n :=
  ⟨hl, h.num, hn, hs, seesK_own h.own hk, h.sets, h.len⟩

/-- What the reference's Keep says of a number that was closed. -/
def RKPost (M : Int) (K : Nat → Prop) (A1 A2 : Option Addr) (n1 c1 n2 c2 i : Nat) (ids : List Int) (bs : List (List Bool)) (w : World) (q : Bool) (e : Ending) (w' : World) : Prop :=
  if q = true then
    (∃ A3 n3 c3 us out, e = .returned (.tuple #[.agg #[.int .i64 M, .slice A1 n1 c1, .slice A3 n3 c3], .bool true]) ∧ Ref w' (fun g => K g ∨ w.heap.size ≤ g) ids out us A1 n1 c1 A3 n3 ∧ out.Nodup ∧ (∀ b, b ∈ out ↔ ∃ y ∈ bs.filter (fun b => isIn b i), Sub b y) ∧ Below w.heap.size w w')
  else e = .returned (.tuple #[.agg #[.int .i64 M, .slice A1 n1 c1, .slice A2 n2 c2], .bool false]) ∧ Below w.heap.size w w'
theorem ref_end {w w1 wr w3 : World} {K K0 : Nat → Prop} {A1 A2 A3 : Option Addr} {n1 c1 n2 n3 c3 : Nat} {ids : List Int} {bs out : List (List Bool)} {vs us : List Value} (HR : Ref w K0 ids bs vs A1 n1 c1 A2 n2) (hK : ∀ g, K0 g → K g ∧ g < w.heap.size) (hg : w.heap.size + 1 < w1.heap.size) (hb : w1.heap.size ≤ wr.heap.size) (HW : Below w.heap.size w wr)
    (ho : Own wr w3 (fun g => K0 g ∨ w1.heap.size ≤ g) A3 n3 c3 n1 us out) (a b c : Value) :
    Ref (((w3.setCell ⟨w.heap.size + 1, 0, none⟩ a).setCell ⟨w.heap.size + 1, 1, none⟩ b).setCell ⟨w.heap.size + 1, 2, none⟩ c) (fun g => K g ∨ w.heap.size ≤ g) ids out us A1 n1 c1 A3 n3 ∧
      Below w.heap.size w (((w3.setCell ⟨w.heap.size + 1, 0, none⟩ a).setCell ⟨w.heap.size + 1, 1, none⟩ b).setCell ⟨w.heap.size + 1, 2, none⟩ c) := by
  have HW3 : Below w.heap.size w w3 := below_nextB HW HW.size ho.bel
  refine ⟨?_, ((HW3.setCell (by simp) _).setCell (by simp) _).setCell (by simp) _⟩
  have h1 : Ref w3 (fun g => K0 g ∨ w1.heap.size ≤ g) ids out us A1 n1 c1 A3 n3 := own_ref ho (fun g h => .inr (Nat.le_trans hb h)) HR.l1 HR.nn ((HR.kept HW3).s1.mono fun g _ h => .inl h)
  have hF : ∀ g, (K0 g ∨ w1.heap.size ≤ g) → g ∉ [w.heap.size + 1] := fun g h hm => by
    have e := List.mem_singleton.1 hm
    rcases h with h | h
    · have := (hK g h).2; omega
    · omega
  have h2 := ((h1.only (Only.store w3 (p := ⟨w.heap.size + 1, 0, none⟩) (List.mem_singleton.2 rfl) a) hF).only (Only.store _ (p := ⟨w.heap.size + 1, 1, none⟩) (List.mem_singleton.2 rfl) b) hF).only (Only.store _ (p := ⟨w.heap.size + 1, 2, none⟩) (List.mem_singleton.2 rfl) c) hF
  exact h2.mono fun g _ h => h.imp (fun h => (hK g h).1) (fun h => by omega)

set_option maxRecDepth 10000 in
set_option maxHeartbeats 4000000 in
theorem rkeep_some (M x : Int) (K : Nat → Prop) (A1 A2 : Option Addr) (n1 c1 n2 c2 i : Nat) (ids : List Int) (bs : List (List Bool)) (vs : List Value) (w : World) (hn1 : n1 ≤ 7) (hn2 : n2 ≤ 128) (hr : Ref w K ids bs vs A1 n1 c1 A2 n2) (hp : posI ids x = some i) (q : Bool) (hq : bs.any (fun b => isIn b i) = q) :
    Calls Try.prog 13 #[.agg #[.int .i64 M, .slice A1 n1 c1, .slice A2 n2 c2], .int .i64 x] w (RKPost M K A1 A2 n1 c1 n2 c2 i ids bs w q) := by
  obtain ⟨K0, hK0⟩ : ∃ K0 : Nat → Prop, ∀ g, K0 g ↔ K g ∧ g < w.heap.size := ⟨_, fun g => Iff.rfl⟩
  have HR : Hid (Ref w K0 ids bs vs A1 n1 c1 A2 n2) := hide (hr.mono fun g hg h => (hK0 g).2 ⟨h, hg⟩)
  have HK0 := hide hK0
  have HIL : Hid (i < n1) := hide (by rw [← hr.l1]; exact posI_lt hp)
  have HP : Hid (atZ ids x = (i : Nat)) := hide (by unfold atZ; rw [hp])
  have HQ := hide hq
  clear hr hp hq hK0
  go_enter Try.func13, Try.ntmps13
  go_wp2_with fail
  refine (at_any M x A1 A2 n1 c1 n2 c2 ids _ (by omega) HR.out.l1 ((HR.out.s1.sees.alloc _).alloc _)).mono ?_
  rintro e w1 ⟨rfl, hb⟩
  have HB0 : Hid (Blk w1 w.heap.size 30 #[.int .i64 M, .slice A1 n1 c1, .slice A2 n2 c2]) := hide (((Blk.born w 30 _).alloc _).kept hb)
  have HB1 : Hid (Blk w1 (w.heap.size + 1) 30 #[.int .i64 0, .slice none 0 0, .slice none 0 0]) := hide (by
    have := (Blk.born (w.alloc (.cells #[.int .i64 M, .slice A1 n1 c1, .slice A2 n2 c2] 30)) 30 #[.int .i64 0, .slice none 0 0, .slice none 0 0]).kept hb
    simpa using this)
  have HW0 : Hid (Below w.heap.size w w1) := hide (below_base2 hb)
  rw [HP.out]
  clear hb
  have hii : (i : Int) < (n1 : Int) := by have := HIL.out; omega
  have hi0 : (0 : Int) ≤ (i : Int) := by omega
  go_wp2_with fail
  go_loopw [7, 8] (fun vv ii wr => ∃ (k : Nat) (B : Option Addr) (C N : Nat) (us : List Value), vv = .slice B N C ∧ ii = .int .i64 (k : Nat) ∧ k ≤ n2 ∧ N ≤ k ∧ Hid (Own w1 wr K0 B N C n1 us ((bs.take k).filter fun b => isIn b i))) (fun _ ii _ => n2 - (intOf ii).toNat)
  case atStart => exact ⟨0, none, 0, 0, [], rfl, rfl, Nat.zero_le _, Nat.le_refl _, hide ⟨World.ownsRow_nil _ _ _ _, Sets.nil _ _, (fun b hb => by simp at hb), Below.refl _ _⟩⟩
  case round =>
    obtain ⟨k, B, C, N, us, rfl, rfl, hk, hNk, HO⟩ := hrel
    have HW := hide (below_nextB HW0.out HW0.out.size HO.out.bel)
    obtain ⟨t0, t1, t2⟩ := blk_cells (HB0.out.kept HO.out.bel)
    by_cases hlt : k < n2
    · have hki : (k : Int) < (n2 : Int) := by omega
      have hkb : k < bs.length := by have := HR.out.l2; omega
      obtain ⟨b, hb⟩ : ∃ b, bs[k] = b := ⟨_, rfl⟩
      have HT : Hid (bs.take (k + 1) = bs.take k ++ [b]) := hide (by rw [List.take_succ_eq_append_getElem hkb, hb])
      obtain ⟨bb, oo, D, d, rfl, s0, hI, hbl⟩ := (HR.out.kept HW.out).at (show bs[k]? = some b by rw [List.getElem?_eq_getElem hkb, hb])
      obtain ⟨-, b2, o2, rfl, s1⟩ := hI.at HIL.out
      obtain ⟨p, hp⟩ : ∃ p, isIn b i = p := ⟨_, rfl⟩
      rw [hp] at s1
      have HPI := hide hp
      have HI := hide hI
      have HBL := hide hbl
      clear hp hI hb hbl hkb
      cases p
      · have HO1 : Hid (Own w1 wr K0 B N C n1 us ((bs.take (k + 1)).filter fun b => isIn b i)) := hide (by
          rw [HT.out, List.filter_append, List.filter_cons_of_neg (by rw [HPI.out]; decide), List.filter_nil, List.append_nil]; exact HO.out)
        go_wp2_with fail
        go_roundw
        case rel => exact ⟨k + 1, B, C, N, us, rfl, by go_num, by omega, by omega, HO1⟩
        case measure => simp [intOf]; omega
      · have HSZ := hide HO.out.bel.size
        go_wp2_with (at_builtin; go_loud (refine wpList_push rfl (.tmp 30) (.tmp 36) 28 rfl w1.heap.size 48 Try.info48 rfl Try.underlying28 B N C _ _ rfl HO.out.own wr.heap.size rfl rfl rfl (by unfold maxLen; omega) (by omega) HSZ.out ?_))
        intro g' c' w2 hown2 hg
        have hgw : wr.grownBy w2 (Value.slice B N C).ownBlock := by
          have h1 : Below wr.heap.size wr (wr.alloc (.cells #[.slice (some ⟨b2, o2, none⟩) n1 d] 48)) := (Below.refl _ _).alloc (Nat.le_refl _) _
          exact ⟨hg.os.trans h1.os, hg.tape.trans h1.tape, hg.output.trans h1.output, Nat.le_trans h1.size hg.size, fun i hi hr => (hg.block i (Nat.lt_of_lt_of_le hi h1.size) hr).trans (h1.block i hi)⟩
        have HO1 : Hid (Own w1 w2 K0 (some ⟨g', 0, none⟩) (N + 1) c' n1 (us ++ [.slice (some ⟨b2, o2, none⟩) n1 d]) ((bs.take (k + 1)).filter fun b => isIn b i)) := hide (by
          rw [HT.out, List.filter_append, List.filter_cons_of_pos (by rw [HPI.out]), List.filter_nil]
          refine ⟨hown2, (HO.out.sets.map fun v b h => h.grown hgw (own_48 HO.out.own)).snoc (HI.out.grown hgw (own_48 HO.out.own)), fun y hy => ?_, HO.out.bel.grown hgw HO.out.bel.size (fun j hj => own_row_ge HO.out.own j hj)⟩
          rw [List.mem_append, List.mem_singleton] at hy
          rcases hy with hy | rfl
          · exact HO.out.len y hy
          · exact HBL.out)
        clear hown2 hg hgw s0 s1 t0 t1 t2
        go_wp2_with fail
        go_roundw
        case rel => exact ⟨k + 1, _, c', N + 1, _, rfl, by go_num, by omega, by omega, HO1⟩
        case measure => simp [intOf]; omega
    · have HO1 : Hid (Own w1 wr K0 B N C n1 us (bs.filter fun b => isIn b i)) := hide (by
        have := HO.out
        rwa [List.take_of_length_le (by have := HR.out.l2; omega)] at this)
      clear HO
      obtain ⟨z0, z1, z2⟩ := blk_cells (HB1.out.kept HO1.out.bel)
      obtain ⟨f0, f1, f2⟩ := blk_free (HB1.out.kept HO1.out.bel)
      have HBR := hide (HB1.out.kept HO1.out.bel)
      cases q
      · have hN0 : N = 0 := by
          have h1 := HO1.out.num
          have h2 : (bs.filter fun b => isIn b i) = [] := by
            rw [List.filter_eq_nil_iff]
            have := HQ.out
            rw [List.any_eq_false] at this
            exact this
          rw [h2] at h1
          exact h1.symm
        subst hN0
        go_wp2_with fail
        have RR := ((HBR.out.store 0 (.int .i64 M)).store 1 (.slice A1 n1 c1)).store 2 (.slice A2 n2 c2)
        have d0 := RR.cell 0
        have d1 := RR.cell 1
        have d2 := RR.cell 2
        refine bodyPost_ret (v := .tuple #[.agg #[.int .i64 M, .slice A1 n1 c1, .slice A2 n2 c2], .bool false]) (by simp [results, Try.results13, go_sem, d0, d1, d2]) rfl ?_
        unfold RKPost
        rw [if_neg (by decide)]
        refine ⟨rfl, ?_⟩
        exact (((HW.out.setCell (by simp) _).setCell (by simp) _).setCell (by simp) _)
      · have hN0 : (N == 0) = false := by
          have h1 := HO1.out.num
          have h2 := HQ.out
          rw [List.any_eq_true] at h2
          obtain ⟨b, hb1, hb2⟩ := h2
          have h3 : 0 < (bs.filter fun b => isIn b i).length := List.length_pos_of_mem (List.mem_filter.2 ⟨hb1, hb2⟩)
          rw [beq_eq_false_iff_ne]; omega
        have hN1 : (N : Int) ≠ 0 := by
          have := beq_eq_false_iff_ne.1 hN0
          omega
        go_wp2_with fail
        have HO2 := hide (HO1.out.kept (Below.refl _ _).drew)
        obtain ⟨y0, y1, y2⟩ := blk_cells (HB0.out.kept HO2.out.bel)
        have HG1 : Hid (w.heap.size + 1 < w1.heap.size) := hide HB1.out.lt
        have HW2 := hide (below_nextB HW0.out HW0.out.size HO2.out.bel)
        go_region_with (go_at_call 19; refine (forg_any K0 (fun g => K0 g ∨ w1.heap.size ≤ g) B N C n1 us _ _ (by omega) hn1 HO2.out.num (Sees.of_own HO2.out.own) HO2.out.sets HO2.out.len (fun g hg => hg.imp id (fun h => Nat.le_trans HO2.out.bel.size h))).mono ?_; rintro e w3 ⟨A3, n3, c3, us3, out, rfl, ho, hnd, hmem⟩; have HO3 := hide ho; have HM := hide (And.intro hnd hmem); have HBR3 := hide ((HB1.out.kept HO2.out.bel).kept ho.bel); obtain ⟨x0, x1, x2⟩ := blk_cells ((HB0.out.kept HO2.out.bel).kept ho.bel); obtain ⟨v0, v1, v2⟩ := blk_cells HBR3.out; obtain ⟨r0, r1, r2⟩ := blk_free HBR3.out; clear ho hnd hmem)
        all_goals
          clear y0 y1 y2 t0 t1 t2 z0 z1 z2 f0 f1 f2 x0 x1 x2 v0 v1 v2 r0 r1 r2
          go_wp2_with fail
          have RR := ((HBR3.out.store 0 (.int .i64 M)).store 1 (.slice A1 n1 c1)).store 2 (.slice A3 n3 c3)
          have d0 := RR.cell 0
          have d1 := RR.cell 1
          have d2 := RR.cell 2
          refine bodyPost_ret (v := .tuple #[.agg #[.int .i64 M, .slice A1 n1 c1, .slice A3 n3 c3], .bool true]) (by simp [results, Try.results13, go_sem, d0, d1, d2]) rfl ?_
          unfold RKPost
          rw [if_pos rfl]
          obtain ⟨e1, e2⟩ := ref_end HR.out (fun g h => (HK0.out g).1 h) HG1.out HO2.out.bel.size HW2.out HO3.out (.int .i64 M) (.slice A1 n1 c1) (.slice A3 n3 c3)
          exact ⟨_, _, _, _, _, rfl, e1, HM.out.1, HM.out.2, e2⟩
end Go.Proofs.Ytgledbjkjpngeaa
