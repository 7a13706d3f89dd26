/- The reference's Close of a fresh number. -/
import Derived.Test.YtgledbjkjpngeaaL
import Derived.Deep.RegionHeld3
namespace Go.Proofs.Ytgledbjkjpngeaa
open Go.RowKit Go.Maps

theorem info3 : (Try.prog.info? 3).map (fun i => (i.zero, i.size, i.bytes)) = some (some (.int .i64 0), 1, 8) := by kernel_rfl
theorem ints_one {l : List Int} : ∀ u ∈ l.map (Value.int .i64), u.oneCell' = true := by
  intro u hu
  obtain ⟨q, _, rfl⟩ := List.mem_map.1 hu
  rfl
theorem pour_below {w w2 : World} {o : Obj} {c : Nat} (hg : (w.alloc o).grownBy w2 (Value.slice (some ⟨w.heap.size, 0, none⟩) 0 c).ownBlock) : Below w.heap.size w w2 :=
  ((Below.refl _ _).alloc (Nat.le_refl _) _).grown hg (by simp) (fun j hj => by
    have e : w.heap.size = j := Option.some.inj hj
    omega)
theorem push_below {w w3 w4 : World} {o : Obj} {A : Option Addr} {n c : Nat} {xs : List Value} (hb : Below w.heap.size w w3) (ho : w3.ownsRow w.heap.size 4 1 (.slice A n c) n xs) (hg : (w3.alloc o).grownBy w4 (Value.slice A n c).ownBlock) : Below w.heap.size w w4 :=
  (hb.alloc hb.size _).grown hg (by have := hb.size; simp; omega) (fun j hj => own_row_ge ho j hj)
theorem inn_snoc {w : World} {base B0 n : Nat} {v : Value} {b : List Bool} {q : Bool} (h : w.ownsRow base 4 1 v (n + 1) (b.map Value.bool ++ [.bool q])) (hl : b.length = n) (hB : B0 ≤ base) : Inn w (fun g => B0 ≤ g) v (b ++ [q]) := by
  refine inn_own (base := base) ?_ (fun g h => Nat.le_trans hB h)
  rw [List.length_append, hl, List.map_append]
  exact h
theorem own_nn {w : World} {base n c : Nat} {e : TypeId} {A : Option Addr} {xs : List Value} (h : w.ownsRow base e 1 (.slice A n c) n xs) : A = none → n = 0 ∧ c = 0 := by
  rintro rfl
  rcases h.2 with ⟨hv, h0⟩ | ⟨g, cap, cur, hv, _⟩
  · injection hv with _ _ e3
    exact ⟨h0, e3⟩
  · injection hv with e1; cases e1
theorem own_push {w0 w4 w5 : World} {K : Nat → Prop} {A : Option Addr} {n c L g' c' : Nat} {us : List Value} {bs : List (List Bool)} {v : Value} {y : List Bool} (h : Own w0 w4 K A n c L us bs) (ho : w5.ownsRow w0.heap.size 48 1 (.slice (some ⟨g', 0, none⟩) (n + 1) c') (n + 1) (us ++ [v])) (hg : (w4.alloc (.cells #[v] 48)).grownBy w5 (Value.slice A n c).ownBlock)
    (hi : Inn w4 K v y) (hy : y.length = L) : Own w0 w5 K (some ⟨g', 0, none⟩) (n + 1) c' L (us ++ [v]) (bs ++ [y]) := by
  have hgw : w4.grownBy w5 (Value.slice A n c).ownBlock := by
    have h1 : Below w4.heap.size w4 (w4.alloc (.cells #[v] 48)) := (Below.refl _ _).alloc (Nat.le_refl _) _
    exact ⟨hg.os.trans h1.os, hg.tape.trans h1.tape, hg.output.trans h1.output, Nat.le_trans h1.size hg.size, fun i hi hr => (hg.block i (Nat.lt_of_lt_of_le hi h1.size) hr).trans (h1.block i hi)⟩
  refine ⟨ho, (h.sets.map fun v b hi => hi.grown hgw (own_48 h.own)).snoc (hi.grown hgw (own_48 h.own)), fun x hx => ?_, h.bel.grown hgw h.bel.size (fun j hj => own_row_ge h.own j hj)⟩
  rw [List.mem_append, List.mem_singleton] at hx
  rcases hx with hx | rfl
  · exact h.len x hx
  · exact hy
theorem grown_push {w4 w5 : World} {v : Value} {row : Option Nat} (hg : (w4.alloc (.cells #[v] 48)).grownBy w5 row) : w4.grownBy w5 row := by
  have h1 : Below w4.heap.size w4 (w4.alloc (.cells #[v] 48)) := (Below.refl _ _).alloc (Nat.le_refl _) _
  exact ⟨hg.os.trans h1.os, hg.tape.trans h1.tape, hg.output.trans h1.output, Nat.le_trans h1.size hg.size, fun i hi hr => (hg.block i (Nat.lt_of_lt_of_le hi h1.size) hr).trans (h1.block i hi)⟩
theorem inn_base {w : World} {base B0 n : Nat} {v : Value} {b : List Bool} (h : w.ownsRow base 4 1 v n (b.map Value.bool)) (hl : b.length = n) (hB : B0 ≤ base) : Inn w (fun g => B0 ≤ g) v b := inn_own (base := base) (by rw [hl]; exact h) (fun g h => Nat.le_trans hB h)
theorem two_no {M : Int} {b : List Bool} (h : ¬ ((sz b : Nat) : Int) < M) : twoOf M b = [b ++ [false]] := by unfold twoOf; rw [if_neg h]
theorem two_yes {M : Int} {b : List Bool} (h : ((sz b : Nat) : Int) < M) : twoOf M b = [b ++ [false], b ++ [true]] := by unfold twoOf; rw [if_pos h]
theorem Inn.seesL {w : World} {K : Nat → Prop} {D : Option Addr} {L d : Nat} {b : List Bool} (h : Inn w K (.slice D L d) b) : (D = none → L = 0 ∧ d = 0) ∧ Sees w D (b.map Value.bool) := by
  obtain ⟨A, c, e, h1, h2⟩ := h.sees
  injection e with e1 e2 e3
  subst e1 e2 e3
  exact ⟨h1, h2⟩

theorem born_at {w : World} {g e : Nat} {u : Value} (h : w.heap.size = g) : Sees (w.alloc (.cells #[u] e)) (some ⟨g, 0, none⟩) [u] := by
  subst h
  exact Sees.born w e #[u] _
theorem own_none_at {w : World} {g : Nat} (base : Nat) (e : TypeId) (h : base ≤ w.heap.size) (hg : w.heap.size = g) : (w.alloc (.cells #[] e)).ownsRow base e 1 (.slice (some ⟨g, 0, none⟩) 0 0) 0 [] := by
  subst hg
  exact own_none base e h
theorem ids_snoc {w : World} {base n c : Nat} {A : Option Addr} {ids : List Int} {x : Int} (h : w.ownsRow base 3 1 (.slice A n c) n (ids.map (Value.int .i64) ++ [.int .i64 x])) : w.ownsRow base 3 1 (.slice A n c) n ((ids ++ [x]).map (Value.int .i64)) := by
  rw [List.map_append]
  exact h

/-- What the reference's Close says of a fresh number. -/
def RCPost (M x : Int) (K : Nat → Prop) (n1 : Nat) (ids : List Int) (bs : List (List Bool)) (w : World) (e : Ending) (w' : World) : Prop :=
  ∃ A c1 A3 n3 c3 us out, e = .returned (.tuple #[.agg #[.int .i64 M, .slice A (n1 + 1) c1, .slice A3 n3 c3], .bool true]) ∧ Ref w' (fun g => K g ∨ w.heap.size ≤ g) (ids ++ [x]) out us A (n1 + 1) c1 A3 n3 ∧ out.Nodup ∧ (∀ b, b ∈ out ↔ ∃ y ∈ bs.flatMap (twoOf M), Sub b y) ∧ Below w.heap.size w w'

set_option maxRecDepth 10000 in
set_option maxHeartbeats 8000000 in
theorem rclose_new (M x : Int) (K : Nat → Prop) (A1 A2 : Option Addr) (n1 c1 n2 c2 : Nat) (ids : List Int) (bs : List (List Bool)) (vs : List Value) (w : World) (hn1 : n1 ≤ 6) (hn2 : n2 ≤ 128) (hr : Ref w K ids bs vs A1 n1 c1 A2 n2) (hp : posI ids x = none) :
    Calls Try.prog 15 #[.agg #[.int .i64 M, .slice A1 n1 c1, .slice A2 n2 c2], .int .i64 x] w (RCPost M x K n1 ids bs w) := by
  obtain ⟨K0, hK0⟩ : ∃ K0 : Nat → Prop, ∀ g, K0 g ↔ K g ∧ g < w.heap.size := ⟨_, fun g => Iff.rfl⟩
  have HR : Hid (Ref w K0 ids bs vs A1 n1 c1 A2 n2) := hide (hr.mono fun g hg h => (hK0 g).2 ⟨h, hg⟩)
  have HK0 := hide hK0
  have HP := hide hp
  clear hr hp hK0
  go_enter Try.func15, Try.ntmps15
  go_wp2_with fail
  refine (at_any M x A1 A2 n1 c1 n2 c2 ids _ (by omega) HR.out.l1 ((HR.out.s1.sees.alloc _).alloc _)).mono ?_
  rintro e w1 ⟨rfl, hb⟩
  have HB0 : Hid (Blk w1 w.heap.size 30 #[.int .i64 M, .slice A1 n1 c1, .slice A2 n2 c2]) := hide (((Blk.born w 30 _).alloc _).kept hb)
  have HB1 : Hid (Blk w1 (w.heap.size + 1) 30 #[.int .i64 0, .slice none 0 0, .slice none 0 0]) := hide (by
    have := (Blk.born (w.alloc (.cells #[.int .i64 M, .slice A1 n1 c1, .slice A2 n2 c2] 30)) 30 #[.int .i64 0, .slice none 0 0, .slice none 0 0]).kept hb
    simpa using this)
  have HW0 : Hid (Below w.heap.size w w1) := hide (below_base2 hb)
  rw [show atZ ids x = -1 from by unfold atZ; rw [HP.out]]
  clear hb
  go_wp2_with fail
  go_loopw [6, 7] (fun vv ii wr => ∃ (k : Nat) (B : Option Addr) (C N : Nat) (us : List Value), vv = .slice B N C ∧ ii = .int .i64 (k : Nat) ∧ k ≤ n2 ∧ N ≤ 2 * k ∧ Hid (Own w1 wr (fun g => w1.heap.size ≤ g) B N C (n1 + 1) us ((bs.take k).flatMap (twoOf M)))) (fun _ ii _ => n2 - (intOf ii).toNat)
  case atStart => exact ⟨0, none, 0, 0, [], rfl, rfl, Nat.zero_le _, Nat.le_refl _, hide ⟨World.ownsRow_nil _ _ _ _, Sets.nil _ _, (fun b hb => by simp at hb), Below.refl _ _⟩⟩
  case round =>
    obtain ⟨k, B, C, N, us, rfl, rfl, hk, hNk, HO⟩ := hrel
    have HW := hide (below_nextB HW0.out HW0.out.size HO.out.bel)
    by_cases hlt : k < n2
    · obtain ⟨t0, t1, t2⟩ := blk_cells (HB0.out.kept HO.out.bel)
      have hki : (k : Int) < (n2 : Int) := by omega
      have hkb : k < bs.length := by have := HR.out.l2; omega
      obtain ⟨b, hb⟩ : ∃ b, bs[k] = b := ⟨_, rfl⟩
      have HT : Hid (bs.take (k + 1) = bs.take k ++ [b]) := hide (by rw [List.take_succ_eq_append_getElem hkb, hb])
      obtain ⟨bb, oo, D, d, rfl, s0, hI, hbl⟩ := (HR.out.kept (HW.out.alloc HW.out.size (.cells #[] 4))).at (show bs[k]? = some b by rw [List.getElem?_eq_getElem hkb, hb])
      obtain ⟨a0, a1, a2⟩ := blk_cells ((HB0.out.kept HO.out.bel).alloc (.cells #[] 4))
      have HDN := hide hI.seesL.1
      have HDS := hide hI.seesL.2
      have HBL := hide hbl
      clear hI hb hbl hkb
      go_wp2_with (at_builtin; go_loud (refine wpList_pour rfl (.tmp 21) (.tmp 26) 48 rfl wr.heap.size 4 Try.info4 rfl Try.underlying48 _ 0 [] rfl (own_none (w := wr) wr.heap.size 4 (Nat.le_refl _)) D n1 d _ rfl (by rw [List.length_map]; exact HBL.out) HDN.out HDS.out (bools_one _) (by unfold maxLen; omega) (by omega) (by simp) ?_))
      intro S0 cS w2 hown2 hg2
      have HNS := hide (own_nn hown2)
      have HSS := hide (Sees.of_own hown2)
      have HIS := hide (inn_base hown2 HBL.out HO.out.bel.size)
      have HP2 := hide (pour_below hg2)
      have HO2 := hide (HO.out.kept (pour_below hg2))
      clear hown2 hg2 s0 t0 t1 t2 a0 a1 a2
      go_wp2_with (at_builtin; go_loud (refine wpList_pour rfl (.tmp 29) (.tmp 30) 48 rfl w2.heap.size 4 Try.info4 rfl Try.underlying48 _ 0 [] rfl (own_none _ 4 (Nat.le_refl _)) S0 n1 cS _ rfl (by rw [List.length_map]; exact HBL.out) HNS.out (HSS.out.alloc _) (bools_one _) (by unfold maxLen; omega) (by omega) (by simp) ?_))
      intro B3 c3 w3 hown3 hg3
      have HO3 := hide hown3
      have HB3 := hide (pour_below hg3)
      clear hown3 hg3
      go_wp2_with (at_builtin; go_loud (refine wpList_push rfl (.tmp 31) (.tmp 32) 48 rfl _ 4 Try.info4 rfl Try.underlying48 B3 n1 c3 _ _ rfl HO3.out w3.heap.size rfl rfl rfl (by unfold maxLen; omega) (by omega) HB3.out.size ?_))
      intro g4 c4 w4 hown4 hg4
      have HB4 := hide (push_below HB3.out HO3.out hg4)
      have HI4 : Hid (Inn w4 (fun g => w1.heap.size ≤ g) (.slice (some ⟨g4, 0, none⟩) (n1 + 1) c4) (b ++ [false])) := hide (inn_snoc hown4 HBL.out HO2.out.bel.size)
      have HO4 := hide (HO2.out.kept HB4.out)
      have HIS4 := hide (HIS.out.kept HB4.out)
      have HZ4 := hide HO4.out.bel.size
      clear hown4 hg4
      go_wp2_with (at_builtin; go_loud (refine wpList_push rfl (.tmp 28) (.tmp 34) 28 rfl w1.heap.size 48 Try.info48 rfl Try.underlying28 _ _ _ _ _ rfl HO4.out.own w4.heap.size rfl rfl rfl (by unfold maxLen; omega) (by omega) HZ4.out ?_))
      intro g5 c5 w5 hown5 hg5
      obtain ⟨us5, HO5⟩ : ∃ us5, Hid (Own w1 w5 (fun g => w1.heap.size ≤ g) (some ⟨g5, 0, none⟩) (N + 1) c5 (n1 + 1) us5 ((bs.take k).flatMap (twoOf M) ++ [b ++ [false]])) := ⟨_, hide (own_push HO4.out hown5 hg5 HI4.out (by rw [List.length_append, HBL.out]; rfl))⟩
      have HIS5 := hide (HIS4.out.grown (grown_push hg5) (own_48 HO4.out.own))
      clear hown5 hg5
      have HIS := HIS5
      have HOQ := fun n => hide (HO5.out.kept (below_drewN (Below.refl _ _) n))
      have HSQ := hide HIS5.out.seesL.2
      obtain ⟨a0, a1, a2⟩ := blk_cells (HB0.out.kept HO5.out.bel)
      have hsz : sz b ≤ 100 := by have := cntb_le (isIn b) b.length; have := HBL.out; unfold sz; omega
      obtain ⟨m, hm⟩ : ∃ m, sz b = m := ⟨_, rfl⟩
      have HMM := hide hm
      have HSZ : ∀ n, Hid (Calls Try.prog 20 #[.slice S0 n1 cS] (w5.drewN n) fun e w' => e = .returned (.int .i64 (m : Nat)) ∧ w' = w5.drewN n) := fun n => hide (by
        have := (size_any (.slice S0 n1 cS) b _ (w5.drewN n) (by have := HBL.out; omega) (HIS5.out.drewN n)).mono (R' := fun e w' => e = .returned (.int .i64 (m : Nat)) ∧ w' = w5.drewN n) fun e w' h => ⟨by rw [h.1, hm], h.2.symm⟩
        exact this)
      rw [hm] at hsz
      clear hm
      by_cases hs : (m : Int) < M
      · have HTW : Hid (twoOf M b = [b ++ [false], b ++ [true]]) := hide (two_yes (by rw [HMM.out]; exact hs))
        clear HO4 HI4 HIS4 HB4 HB3 HO3 HZ4
        go_wp2_with fail
        go_quiet ((go_at_call 20; exact Calls.quiet_of_same (HSZ _).out))
        have HO6 := hide (HO5.out.kept (below_drewN (Below.refl _ _) nq))
        have HIS := hide (HIS5.out.drewN nq)
        clear HSZ HOQ
        go_wp2_with (at_builtin; go_loud (refine wpList_pour rfl (.tmp 42) (.tmp 43) 48 rfl _ 4 Try.info4 rfl Try.underlying48 _ 0 [] rfl (own_none _ 4 (Nat.le_refl _)) S0 n1 cS _ rfl (by rw [List.length_map]; exact HBL.out) HNS.out (HSQ.out.alloc _) (bools_one _) (by unfold maxLen; omega) (by omega) (by simp) ?_))
        intro B3 c3 w3 hown3 hg3
        have HO3 := hide hown3
        have HB3 := hide (pour_below hg3)
        clear hown3 hg3
        go_wp2_with (at_builtin; go_loud (refine wpList_push rfl (.tmp 44) (.tmp 45) 48 rfl _ 4 Try.info4 rfl Try.underlying48 B3 n1 c3 _ _ rfl HO3.out w3.heap.size rfl rfl rfl (by unfold maxLen; omega) (by omega) HB3.out.size ?_))
        intro g4 c4 w4 hown4 hg4
        have HB4 := hide (push_below HB3.out HO3.out hg4)
        have HI4 : Hid (Inn w4 (fun g => w1.heap.size ≤ g) (.slice (some ⟨g4, 0, none⟩) (n1 + 1) c4) (b ++ [true])) := hide (inn_snoc hown4 HBL.out HO6.out.bel.size)
        have HO4 := hide (HO6.out.kept HB4.out)
        have HIS4 := hide (HIS.out.kept HB4.out)
        have HZ4 := hide HO4.out.bel.size
        clear hown4 hg4
        go_wp2_with (at_builtin; go_loud (refine wpList_push rfl (.tmp 41) (.tmp 47) 28 rfl w1.heap.size 48 Try.info48 rfl Try.underlying28 _ _ _ _ _ rfl HO4.out.own w4.heap.size rfl rfl rfl (by unfold maxLen; omega) (by omega) HZ4.out ?_))
        intro g5 c5 w5 hown5 hg5
        obtain ⟨us5, HO5⟩ : ∃ us5, Hid (Own w1 w5 (fun g => w1.heap.size ≤ g) (some ⟨g5, 0, none⟩) (N + 1 + 1) c5 (n1 + 1) us5 ((bs.take k).flatMap (twoOf M) ++ [b ++ [false]] ++ [b ++ [true]])) := ⟨_, hide (own_push HO4.out hown5 hg5 HI4.out (by rw [List.length_append, HBL.out]; rfl))⟩
        have HIS5 := hide (HIS4.out.grown (grown_push hg5) (own_48 HO4.out.own))
        clear hown5 hg5
        go_wp2_with fail
        go_roundw
        case rel => exact ⟨k + 1, _, c5, _, _, rfl, by go_num, by omega, by omega, hide (by
          rw [HT.out, List.flatMap_append, List.flatMap_cons, List.flatMap_nil, List.append_nil, HTW.out]
          have := HO5.out
          rw [List.append_assoc] at this
          exact this)⟩
        case measure => simp [intOf]; omega
      · have HTW : Hid (twoOf M b = [b ++ [false]]) := hide (two_no (by rw [HMM.out]; exact hs))
        clear HO4 HI4 HIS4 HB4 HB3 HO3 HZ4
        go_wp2_with fail
        go_quiet ((go_at_call 20; exact Calls.quiet_of_same (HSZ _).out))
        go_wp2_with fail
        go_roundw
        case rel => exact ⟨k + 1, _, c5, _, _, rfl, by go_num, by omega, by omega, hide (by
          rw [HT.out, List.flatMap_append, List.flatMap_cons, List.flatMap_nil, List.append_nil, HTW.out]
          exact (HOQ _).out)⟩
        case measure => simp [intOf]; omega
    · have HOE : Hid (Own w1 wr (fun g => w1.heap.size ≤ g) B N C (n1 + 1) us (bs.flatMap (twoOf M))) := hide (by
        have := HO.out
        rwa [List.take_of_length_le (by have := HR.out.l2; omega)] at this)
      obtain ⟨t0, t1, t2⟩ := blk_cells (HB0.out.kept HO.out.bel)
      have HBw := hide (HB0.out.kept HO.out.bel)
      have SS : ∀ w', Below wr.heap.size wr w' → w'.cell? ⟨w.heap.size, 0, none⟩ = some (.int .i64 M) ∧ w'.cell? ⟨w.heap.size, 1, none⟩ = some (.slice A1 n1 c1) := fun w' hb => ⟨(blk_cells (HBw.out.kept hb)).1, (blk_cells (HBw.out.kept hb)).2.1⟩
      have HRB := hide (HB1.out.kept HO.out.bel)
      have HG1 : Hid (w.heap.size + 1 < w1.heap.size) := hide HB1.out.lt
      have HRS := hide (HR.out.s1.sees.kept HW.out)
      have hN3 : N ≤ 300 := by omega
      have hL7 : n1 + 1 ≤ 7 := by omega
      go_wp2_with fail
      refine wp_region_noPanic ?_
      refine wp_region_held_drew (S := fun w' => w'.cell? ⟨w.heap.size, 0, none⟩ = some (.int .i64 M) ∧ w'.cell? ⟨w.heap.size, 1, none⟩ = some (.slice A1 n1 c1)) (by kernel_rfl) ⟨t0, t1⟩ (fun hHeld => ?_)
      refine wpAnyH_take (i := 0) (v := ?_) rfl (by kernel_rfl) (by kernel_rfl) (by kernel_rfl) (fun _ _ _ h => h) (Or.inl ⟨by rfl, ?hy⟩) (by assumption) ?_
      case hy => intro w hSw; (try dsimp only at hSw); go_simp; (try with_reducible rfl)
      try simp only [Act.put, List.setIfInBounds_toArray, List.set_cons_zero, List.set_cons_succ]
      refine wpAnyH_take (i := 1) (v := ?_) rfl (by kernel_rfl) (by kernel_rfl) (by kernel_rfl) (fun _ _ _ h => h) (Or.inl ⟨by rfl, ?hy⟩) (by assumption) ?_
      case hy => intro w hSw; (try dsimp only at hSw); go_simp; (try with_reducible rfl)
      try simp only [Act.put, List.setIfInBounds_toArray, List.set_cons_zero, List.set_cons_succ]
      refine wpAnyH_take (i := 3) (v := ?_) rfl (by kernel_rfl) (by kernel_rfl) (by kernel_rfl) (fun _ _ _ h => h) (Or.inl ⟨by rfl, ?hy⟩) (by assumption) ?_
      case hy => intro w hSw; (try dsimp only at hSw); go_simp; (try with_reducible rfl)
      try simp only [Act.put, List.setIfInBounds_toArray, List.set_cons_zero, List.set_cons_succ]
      refine wpAnyH_take (i := 4) (v := ?_) rfl (by kernel_rfl) (by kernel_rfl) (by kernel_rfl) (fun _ _ _ h => h) (Or.inl ⟨by rfl, ?hy⟩) (by assumption) ?_
      case hy => intro w hSw; (try dsimp only at hSw); go_simp; (try with_reducible rfl)
      try simp only [Act.put, List.setIfInBounds_toArray, List.set_cons_zero, List.set_cons_succ]
      refine wpAnyH_take (i := 6) (v := ?_) rfl (by kernel_rfl) (by kernel_rfl) (by kernel_rfl) (fun _ _ _ h => h) (Or.inl ⟨by rfl, ?hy⟩) (by assumption) ?_
      case hy => intro w hSw; (try dsimp only at hSw); go_simp; (try with_reducible rfl)
      try simp only [Act.put, List.setIfInBounds_toArray, List.set_cons_zero, List.set_cons_succ]
      refine wpAnyH_take (i := 9) (v := ?_) rfl (by kernel_rfl) (by kernel_rfl) (by kernel_rfl) (fun _ _ _ h => h) (Or.inl ⟨by rfl, ?hy⟩) (by assumption) ?_
      case hy => intro w hSw; (try dsimp only at hSw); go_simp; (try with_reducible rfl)
      try simp only [Act.put, List.setIfInBounds_toArray, List.set_cons_zero, List.set_cons_succ]
      refine wpAnyH_ready (rs := [2, 7]) (by kernel_rfl) (by simp) ?_
      refine AllReadyH.cons rfl (fun K' hK => ?_) ?_
      · go_simp
        refine hK.out _ _ (SS _ ((Below.refl _ wr).alloc (Nat.le_refl _) _).drew) (fun hHeld => ?_)
        clear hK
        try simp only [Act.put, List.setIfInBounds_toArray, List.set_cons_zero, List.set_cons_succ]
        refine wpAnyH_ready (rs := [5, 7]) (by kernel_rfl) (by simp) ?_
        refine AllReadyH.cons rfl (fun K' hK => ?_) ?_
        ·
          refine step_pour rfl (.tmp 51) (.tmp 53) 27 rfl wr.heap.size 3 info3 rfl Try.underlying27 _ 0 [] (by rfl) (own_none (w := wr) wr.heap.size 3 (Nat.le_refl _)).drew A1 n1 c1 (ids.map (Value.int .i64)) (by rfl) (by rw [List.length_map]; exact HR.out.l1) HR.out.nn (HRS.out.alloc _).drew ints_one (by unfold maxLen; omega) (by omega) (by simp <;> omega) ?_
          intro B4 c4 w4 hown4 hg4
          rw [Nat.zero_add, List.nil_append] at hown4
          rw [Nat.zero_add]
          have HB4 : Hid (Below wr.heap.size wr w4) := hide (((Below.refl _ wr).alloc (Nat.le_refl _) _).drew.grown hg4 (by simp <;> omega) (fun j hj => by have e := Option.some.inj hj; simp at e; omega))
          have HR4 := hide hown4
          clear hown4 hg4
          refine hK.out _ _ (SS _ HB4.out) (fun hHeld => ?_)
          clear hK
          try simp only [Act.put, List.setIfInBounds_toArray, List.set_cons_zero, List.set_cons_succ]
          refine wpAnyH_ready (rs := [7]) (by kernel_rfl) (by simp) ?_
          refine AllReadyH.cons rfl (fun K' hK => ?_) ?_
          · go_simp
            refine hK.out _ _ (SS _ (HB4.out.alloc HB4.out.size _)) (fun hHeld => ?_)
            clear hK
            try simp only [Act.put, List.setIfInBounds_toArray, List.set_cons_zero, List.set_cons_succ]
            refine wpAnyH_ready (rs := [8]) (by kernel_rfl) (by simp) ?_
            refine AllReadyH.cons rfl (fun K' hK => ?_) ?_
            ·
              refine step_pour rfl (.tmp 54) (.tmp 56) 27 rfl wr.heap.size 3 info3 rfl Try.underlying27 _ n1 (ids.map (Value.int .i64)) (by rfl) (HR4.out.alloc _) (some ⟨w4.heap.size, 0, none⟩) 1 1 [.int .i64 x] (by rfl) rfl (by simp) (Sees.born w4 3 #[.int .i64 x] _) (ints_one (l := [x])) (by unfold maxLen; omega) (by omega) (by have := HB4.out.size; simp; omega) ?_
              intro B8 c8 w8 hown8 hg8
              have HB8 : Hid (Below wr.heap.size wr w8) := hide ((HB4.out.alloc HB4.out.size _).grown hg8 (by have := HB4.out.size; simp; omega) (fun j hj => own_row_ge HR4.out j hj))
              have HR8 := hide (ids_snoc hown8)
              clear hown8 hg8
              refine hK.out _ _ (SS _ HB8.out) (fun hHeld => ?_)
              clear hK
              try simp only [Act.put, List.setIfInBounds_toArray, List.set_cons_zero, List.set_cons_succ]
              refine wpAnyH_ready (rs := [10]) (by kernel_rfl) (by simp) ?_
              refine AllReadyH.cons rfl (fun K' hK => ?_) ?_
              · go_simp
                go_at_call 19
                refine (forg_from HOE.out hN3 hL7 HB8.out).mono ?_
                rintro e w9 ⟨A3, n3, c3, us3, out, rfl, ho3, hm3, hb3⟩
                have HB9 := hide (below_nextB HB8.out HB8.out.size hb3)
                have HR9 := hide (own_kept HR8.out hb3)
                have HO9 := hide ho3
                have HM9 := hide hm3
                clear ho3 hm3 hb3
                obtain ⟨r0, r1, r2⟩ := blk_cells (HRB.out.kept HB9.out)
                obtain ⟨z0, z1, z2⟩ := blk_free (HRB.out.kept HB9.out)
                refine hK.out _ _ (SS _ HB9.out) (fun hHeld => ?_)
                clear hK
                try simp only [Act.put, List.setIfInBounds_toArray, List.set_cons_zero, List.set_cons_succ]
                refine wpAnyH_ready (rs := [11]) (by kernel_rfl) (by simp) ?_
                refine AllReadyH.cons rfl (fun K' hK => ?_) ?_
                · go_simp
                  refine hK.out _ _ (SS _ HB9.out) (fun hHeld => ?_)
                  clear hK
                  try simp only [Act.put, List.setIfInBounds_toArray, List.set_cons_zero, List.set_cons_succ]
                  refine wpAnyH_ready (rs := [12]) (by kernel_rfl) (by simp) ?_
                  refine AllReadyH.cons rfl (fun K' hK => ?_) ?_
                  · go_simp
                    refine hK.out _ _ (by have h := SS _ HB9.out; exact ⟨by simp [World.cell?_setCell_far, h.1], by simp [World.cell?_setCell_far, h.2]⟩) (fun hHeld => ?_)
                    clear hK
                    try simp only [Act.put, List.setIfInBounds_toArray, List.set_cons_zero, List.set_cons_succ]
                    refine wpAnyH_ready (rs := [13]) (by kernel_rfl) (by simp) ?_
                    refine AllReadyH.cons rfl (fun K' hK => ?_) ?_
                    · go_simp
                      refine hK.out _ _ (hHeld) (fun hHeld => ?_)
                      clear hK
                      try simp only [Act.put, List.setIfInBounds_toArray, List.set_cons_zero, List.set_cons_succ]
                      refine wpAnyH_done (by kernel_rfl) ?_ _
                      refine NoPanic.normal ?_
                      go_wp2_with fail
                      have RR := (((HRB.out.kept HB9.out).store 0 (.int .i64 M)).store 1 (.slice B8 (n1 + 1) c8)).store 2 (.slice A3 n3 c3)
                      have d0 := RR.cell 0
                      have d1 := RR.cell 1
                      have d2 := RR.cell 2
                      refine bodyPost_ret (v := .tuple #[.agg #[.int .i64 M, .slice B8 (n1 + 1) c8, .slice A3 n3 c3], .bool true]) (by simp [results, Try.results15, go_sem, d0, d1, d2]) rfl ?_
                      obtain ⟨e1, e2⟩ := new_end (K := K) (x := x) HR.out (fun g h => (HK0.out g).1 h) HG1.out HO.out.bel.size (below_nextB HW.out HW.out.size HB9.out) HO9.out HR9.out (.int .i64 M) (.slice B8 (n1 + 1) c8) (.slice A3 n3 c3)
                      exact ⟨_, _, _, _, _, _, _, rfl, e1, HM9.out.1, HM9.out.2, e2⟩
                    · exact AllReadyH.nil
                  · exact AllReadyH.nil
                · exact AllReadyH.nil
              · exact AllReadyH.nil
            · exact AllReadyH.nil
          · exact AllReadyH.nil
        · refine AllReadyH.cons rfl (fun K' hK => ?_) AllReadyH.nil
          go_simp
          refine hK.out _ _ (SS _ (((Below.refl _ wr).alloc (Nat.le_refl _) _).alloc (by simp) _).drew) (fun hHeld => ?_)
          clear hK
          try simp only [Act.put, List.setIfInBounds_toArray, List.set_cons_zero, List.set_cons_succ]
          refine wpAnyH_ready (rs := [5]) (by kernel_rfl) (by simp) ?_
          refine AllReadyH.cons rfl (fun K' hK => ?_) ?_
          ·
            refine step_pour rfl (.tmp 51) (.tmp 53) 27 rfl wr.heap.size 3 info3 rfl Try.underlying27 _ 0 [] (by rfl) ((own_none (w := wr) wr.heap.size 3 (Nat.le_refl _)).alloc _).drew A1 n1 c1 (ids.map (Value.int .i64)) (by rfl) (by rw [List.length_map]; exact HR.out.l1) HR.out.nn ((HRS.out.alloc _).alloc _).drew ints_one (by unfold maxLen; omega) (by omega) (by simp <;> omega) ?_
            intro B4 c4 w4 hown4 hg4
            rw [Nat.zero_add, List.nil_append] at hown4
            rw [Nat.zero_add]
            have HB4 : Hid (Below wr.heap.size wr w4) := hide ((((Below.refl _ wr).alloc (Nat.le_refl _) _).alloc (by simp) _).drew.grown hg4 (by simp <;> omega) (fun j hj => by have e := Option.some.inj hj; simp at e; omega))
            have HX4 : Hid (Sees w4 (some ⟨wr.heap.size + 1, 0, none⟩) [.int .i64 x]) := hide ((born_at (w := wr.alloc (.cells #[] 3)) (e := 3) (u := .int .i64 x) (g := wr.heap.size + 1) (by simp)).drew.grown hg4 (fun b o e => by injection e with e; injection e with e1 e2; intro h; have e := Option.some.inj h; simp at e1 e; omega))
            have HR4 := hide hown4
            clear hown4 hg4
            refine hK.out _ _ (SS _ HB4.out) (fun hHeld => ?_)
            clear hK
            try simp only [Act.put, List.setIfInBounds_toArray, List.set_cons_zero, List.set_cons_succ]
            refine wpAnyH_ready (rs := [8]) (by kernel_rfl) (by simp) ?_
            refine AllReadyH.cons rfl (fun K' hK => ?_) ?_
            ·
              refine step_pour rfl (.tmp 54) (.tmp 56) 27 rfl wr.heap.size 3 info3 rfl Try.underlying27 _ n1 (ids.map (Value.int .i64)) (by rfl) HR4.out (some ⟨wr.heap.size + 1, 0, none⟩) 1 1 [.int .i64 x] (by rfl) rfl (by simp) HX4.out (ints_one (l := [x])) (by unfold maxLen; omega) (by omega) HB4.out.size ?_
              intro B8 c8 w8 hown8 hg8
              have HB8 : Hid (Below wr.heap.size wr w8) := hide (HB4.out.grown hg8 HB4.out.size (fun j hj => own_row_ge HR4.out j hj))
              have HR8 := hide (ids_snoc hown8)
              clear hown8 hg8
              refine hK.out _ _ (SS _ HB8.out) (fun hHeld => ?_)
              clear hK
              try simp only [Act.put, List.setIfInBounds_toArray, List.set_cons_zero, List.set_cons_succ]
              refine wpAnyH_ready (rs := [10]) (by kernel_rfl) (by simp) ?_
              refine AllReadyH.cons rfl (fun K' hK => ?_) ?_
              · go_simp
                go_at_call 19
                refine (forg_from HOE.out hN3 hL7 HB8.out).mono ?_
                rintro e w9 ⟨A3, n3, c3, us3, out, rfl, ho3, hm3, hb3⟩
                have HB9 := hide (below_nextB HB8.out HB8.out.size hb3)
                have HR9 := hide (own_kept HR8.out hb3)
                have HO9 := hide ho3
                have HM9 := hide hm3
                clear ho3 hm3 hb3
                obtain ⟨r0, r1, r2⟩ := blk_cells (HRB.out.kept HB9.out)
                obtain ⟨z0, z1, z2⟩ := blk_free (HRB.out.kept HB9.out)
                refine hK.out _ _ (SS _ HB9.out) (fun hHeld => ?_)
                clear hK
                try simp only [Act.put, List.setIfInBounds_toArray, List.set_cons_zero, List.set_cons_succ]
                refine wpAnyH_ready (rs := [11]) (by kernel_rfl) (by simp) ?_
                refine AllReadyH.cons rfl (fun K' hK => ?_) ?_
                · go_simp
                  refine hK.out _ _ (SS _ HB9.out) (fun hHeld => ?_)
                  clear hK
                  try simp only [Act.put, List.setIfInBounds_toArray, List.set_cons_zero, List.set_cons_succ]
                  refine wpAnyH_ready (rs := [12]) (by kernel_rfl) (by simp) ?_
                  refine AllReadyH.cons rfl (fun K' hK => ?_) ?_
                  · go_simp
                    refine hK.out _ _ (by have h := SS _ HB9.out; exact ⟨by simp [World.cell?_setCell_far, h.1], by simp [World.cell?_setCell_far, h.2]⟩) (fun hHeld => ?_)
                    clear hK
                    try simp only [Act.put, List.setIfInBounds_toArray, List.set_cons_zero, List.set_cons_succ]
                    refine wpAnyH_ready (rs := [13]) (by kernel_rfl) (by simp) ?_
                    refine AllReadyH.cons rfl (fun K' hK => ?_) ?_
                    · go_simp
                      refine hK.out _ _ (hHeld) (fun hHeld => ?_)
                      clear hK
                      try simp only [Act.put, List.setIfInBounds_toArray, List.set_cons_zero, List.set_cons_succ]
                      refine wpAnyH_done (by kernel_rfl) ?_ _
                      refine NoPanic.normal ?_
                      go_wp2_with fail
                      have RR := (((HRB.out.kept HB9.out).store 0 (.int .i64 M)).store 1 (.slice B8 (n1 + 1) c8)).store 2 (.slice A3 n3 c3)
                      have d0 := RR.cell 0
                      have d1 := RR.cell 1
                      have d2 := RR.cell 2
                      refine bodyPost_ret (v := .tuple #[.agg #[.int .i64 M, .slice B8 (n1 + 1) c8, .slice A3 n3 c3], .bool true]) (by simp [results, Try.results15, go_sem, d0, d1, d2]) rfl ?_
                      obtain ⟨e1, e2⟩ := new_end (K := K) (x := x) HR.out (fun g h => (HK0.out g).1 h) HG1.out HO.out.bel.size (below_nextB HW.out HW.out.size HB9.out) HO9.out HR9.out (.int .i64 M) (.slice B8 (n1 + 1) c8) (.slice A3 n3 c3)
                      exact ⟨_, _, _, _, _, _, _, rfl, e1, HM9.out.1, HM9.out.2, e2⟩
                    · exact AllReadyH.nil
                  · exact AllReadyH.nil
                · exact AllReadyH.nil
              · exact AllReadyH.nil
            · exact AllReadyH.nil
          · exact AllReadyH.nil
      · refine AllReadyH.cons rfl (fun K' hK => ?_) AllReadyH.nil
        go_simp
        refine hK.out _ _ (SS _ ((Below.refl _ wr).alloc (Nat.le_refl _) _).drew) (fun hHeld => ?_)
        clear hK
        try simp only [Act.put, List.setIfInBounds_toArray, List.set_cons_zero, List.set_cons_succ]
        refine wpAnyH_ready (rs := [2]) (by kernel_rfl) (by simp) ?_
        refine AllReadyH.cons rfl (fun K' hK => ?_) ?_
        · go_simp
          refine hK.out _ _ (SS _ (((Below.refl _ wr).alloc (Nat.le_refl _) _).alloc (by simp) _).drew) (fun hHeld => ?_)
          clear hK
          try simp only [Act.put, List.setIfInBounds_toArray, List.set_cons_zero, List.set_cons_succ]
          refine wpAnyH_ready (rs := [5]) (by kernel_rfl) (by simp) ?_
          refine AllReadyH.cons rfl (fun K' hK => ?_) ?_
          ·
            refine step_pour rfl (.tmp 51) (.tmp 53) 27 rfl wr.heap.size 3 info3 rfl Try.underlying27 _ 0 [] (by rfl) (own_none_at (w := wr.alloc (.cells #[.int .i64 x] 3)) (g := wr.heap.size + 1) wr.heap.size 3 (by simp) (by simp)).drew A1 n1 c1 (ids.map (Value.int .i64)) (by rfl) (by rw [List.length_map]; exact HR.out.l1) HR.out.nn ((HRS.out.alloc _).alloc _).drew ints_one (by unfold maxLen; omega) (by omega) (by simp <;> omega) ?_
            intro B4 c4 w4 hown4 hg4
            rw [Nat.zero_add, List.nil_append] at hown4
            rw [Nat.zero_add]
            have HB4 : Hid (Below wr.heap.size wr w4) := hide ((((Below.refl _ wr).alloc (Nat.le_refl _) _).alloc (by simp) _).drew.grown hg4 (by simp <;> omega) (fun j hj => by have e := Option.some.inj hj; simp at e; omega))
            have HX4 : Hid (Sees w4 (some ⟨wr.heap.size, 0, none⟩) [.int .i64 x]) := hide (((born_at (w := wr) (e := 3) (u := .int .i64 x) rfl).alloc _).drew.grown hg4 (fun b o e => by injection e with e; injection e with e1 e2; intro h; have e := Option.some.inj h; simp at e1 e; omega))
            have HR4 := hide hown4
            clear hown4 hg4
            refine hK.out _ _ (SS _ HB4.out) (fun hHeld => ?_)
            clear hK
            try simp only [Act.put, List.setIfInBounds_toArray, List.set_cons_zero, List.set_cons_succ]
            refine wpAnyH_ready (rs := [8]) (by kernel_rfl) (by simp) ?_
            refine AllReadyH.cons rfl (fun K' hK => ?_) ?_
            ·
              refine step_pour rfl (.tmp 54) (.tmp 56) 27 rfl wr.heap.size 3 info3 rfl Try.underlying27 _ n1 (ids.map (Value.int .i64)) (by rfl) HR4.out (some ⟨wr.heap.size, 0, none⟩) 1 1 [.int .i64 x] (by rfl) rfl (by simp) HX4.out (ints_one (l := [x])) (by unfold maxLen; omega) (by omega) HB4.out.size ?_
              intro B8 c8 w8 hown8 hg8
              have HB8 : Hid (Below wr.heap.size wr w8) := hide (HB4.out.grown hg8 HB4.out.size (fun j hj => own_row_ge HR4.out j hj))
              have HR8 := hide (ids_snoc hown8)
              clear hown8 hg8
              refine hK.out _ _ (SS _ HB8.out) (fun hHeld => ?_)
              clear hK
              try simp only [Act.put, List.setIfInBounds_toArray, List.set_cons_zero, List.set_cons_succ]
              refine wpAnyH_ready (rs := [10]) (by kernel_rfl) (by simp) ?_
              refine AllReadyH.cons rfl (fun K' hK => ?_) ?_
              · go_simp
                go_at_call 19
                refine (forg_from HOE.out hN3 hL7 HB8.out).mono ?_
                rintro e w9 ⟨A3, n3, c3, us3, out, rfl, ho3, hm3, hb3⟩
                have HB9 := hide (below_nextB HB8.out HB8.out.size hb3)
                have HR9 := hide (own_kept HR8.out hb3)
                have HO9 := hide ho3
                have HM9 := hide hm3
                clear ho3 hm3 hb3
                obtain ⟨r0, r1, r2⟩ := blk_cells (HRB.out.kept HB9.out)
                obtain ⟨z0, z1, z2⟩ := blk_free (HRB.out.kept HB9.out)
                refine hK.out _ _ (SS _ HB9.out) (fun hHeld => ?_)
                clear hK
                try simp only [Act.put, List.setIfInBounds_toArray, List.set_cons_zero, List.set_cons_succ]
                refine wpAnyH_ready (rs := [11]) (by kernel_rfl) (by simp) ?_
                refine AllReadyH.cons rfl (fun K' hK => ?_) ?_
                · go_simp
                  refine hK.out _ _ (SS _ HB9.out) (fun hHeld => ?_)
                  clear hK
                  try simp only [Act.put, List.setIfInBounds_toArray, List.set_cons_zero, List.set_cons_succ]
                  refine wpAnyH_ready (rs := [12]) (by kernel_rfl) (by simp) ?_
                  refine AllReadyH.cons rfl (fun K' hK => ?_) ?_
                  · go_simp
                    refine hK.out _ _ (by have h := SS _ HB9.out; exact ⟨by simp [World.cell?_setCell_far, h.1], by simp [World.cell?_setCell_far, h.2]⟩) (fun hHeld => ?_)
                    clear hK
                    try simp only [Act.put, List.setIfInBounds_toArray, List.set_cons_zero, List.set_cons_succ]
                    refine wpAnyH_ready (rs := [13]) (by kernel_rfl) (by simp) ?_
                    refine AllReadyH.cons rfl (fun K' hK => ?_) ?_
                    · go_simp
                      refine hK.out _ _ (hHeld) (fun hHeld => ?_)
                      clear hK
                      try simp only [Act.put, List.setIfInBounds_toArray, List.set_cons_zero, List.set_cons_succ]
                      refine wpAnyH_done (by kernel_rfl) ?_ _
                      refine NoPanic.normal ?_
                      go_wp2_with fail
                      have RR := (((HRB.out.kept HB9.out).store 0 (.int .i64 M)).store 1 (.slice B8 (n1 + 1) c8)).store 2 (.slice A3 n3 c3)
                      have d0 := RR.cell 0
                      have d1 := RR.cell 1
                      have d2 := RR.cell 2
                      refine bodyPost_ret (v := .tuple #[.agg #[.int .i64 M, .slice B8 (n1 + 1) c8, .slice A3 n3 c3], .bool true]) (by simp [results, Try.results15, go_sem, d0, d1, d2]) rfl ?_
                      obtain ⟨e1, e2⟩ := new_end (K := K) (x := x) HR.out (fun g h => (HK0.out g).1 h) HG1.out HO.out.bel.size (below_nextB HW.out HW.out.size HB9.out) HO9.out HR9.out (.int .i64 M) (.slice B8 (n1 + 1) c8) (.slice A3 n3 c3)
                      exact ⟨_, _, _, _, _, _, _, rfl, e1, HM9.out.1, HM9.out.2, e2⟩
                    · exact AllReadyH.nil
                  · exact AllReadyH.nil
                · exact AllReadyH.nil
              · exact AllReadyH.nil
            · exact AllReadyH.nil
          · exact AllReadyH.nil
        · exact AllReadyH.nil
end Go.Proofs.Ytgledbjkjpngeaa
