/- The memory of closed streams as it lies; contracts: New, Len, open. -/
import Derived.Test.YtgledbjkjpngeaaK
import Derived.Test.YtgledbjkjpngeaaD
namespace Go.Proofs.Ytgledbjkjpngeaa
open Go.RowKit Go.Maps

def ints (l : List Nat) : List Value := l.map fun i => .int .i64 (i : Nat)
theorem Try.info3 : (Try.prog.info? 3).map (fun i => (i.zero, i.size, i.bytes)) = some (some (.int .i64 0), 1, 8) := by kernel_rfl
def atI (l : List Int) (x : Int) : Option Int := match posI l x with
  | some i => some (i : Nat)
  | none => none
/-- For how many spans a number was kept. -/
def kpAt (s : St) (x : Int) : Int := match posI s.ids x with
  | some i => (s.kp.getD i 0 : Nat)
  | none => 0
/-- The maps that say where each number stands, and for how many spans it was kept. -/
def Mps (w : World) (s : St) (F : List Nat) (T : Nat) (am km : Option Nat) : Prop :=
  (s.ids = [] ∧ am = none ∧ km = none) ∨ ∃ a k f, am = some a ∧ km = some k ∧ a ∈ F ∧ k ∈ F ∧ a ≠ k ∧ MapI w a T (atI s.ids) ∧ MapI w k T f ∧ ∀ x, (f x).getD 0 = kpAt s x
/-- A memory of closed streams, with all blocks that are its own. -/
structure GrI (w : World) (g : Nat) (M : Int) (s : St) (F : List Nat) (T : Nat) (A : Option Addr) (C : Nat) (am km : Option Nat) : Prop where
  blk : Blk w g 43 #[.int .i64 M, .map am, .map km, .slice A s.bz.length C]
  own : w.ownsRow 0 3 1 (.slice A s.bz.length C) s.bz.length (ints s.bz)
  row : ∀ b, (Value.slice A s.bz.length C).ownBlock = some b → b ∈ F ∧ b ≠ g
  mps : Mps w s F T am km
  mem : g ∈ F
  lt : ∀ b ∈ F, b < w.heap.size
def Gr (w : World) (g : Nat) (M : Int) (s : St) (F : List Nat) (T : Nat) : Prop := ∃ A C am km, GrI w g M s F T A C am km
section
variable {w w' : World} {g T : Nat} {M : Int} {s : St} {F F1 : List Nat}
theorem Mps.only {am km : Option Nat} (h : Mps w s F T am km) (o : Only F1 w w') (hF : ∀ b ∈ F, b ∉ F1) : Mps w' s F T am km := by
  rcases h with h | ⟨a, k, f, h1, h2, h3, h4, h5, h6, h7, h8⟩
  · exact .inl h
  · exact .inr ⟨a, k, f, h1, h2, h3, h4, h5, h6.only o (hF a h3), h7.only o (hF k h4), h8⟩
theorem GrI.only {A : Option Addr} {C : Nat} {am km : Option Nat} (h : GrI w g M s F T A C am km) (o : Only F1 w w') (hF : ∀ b ∈ F, b ∉ F1) : GrI w' g M s F T A C am km :=
  ⟨h.blk.only o (hF g h.mem), own_only h.own o (fun b hb => hF b (h.row b hb).1), h.row, h.mps.only o hF, h.mem, fun b hb => Nat.lt_of_lt_of_le (h.lt b hb) o.size⟩
theorem GrI.kept {A : Option Addr} {C : Nat} {am km : Option Nat} (h : GrI w g M s F T A C am km) (o : Below w.heap.size w w') : GrI w' g M s F T A C am km := h.only (F1 := []) (Only.of_below o) (fun _ _ => by simp)
theorem Gr.only (h : Gr w g M s F T) (o : Only F1 w w') (hF : ∀ b ∈ F, b ∉ F1) : Gr w' g M s F T := by
  obtain ⟨A, C, am, km, h⟩ := h
  exact ⟨A, C, am, km, h.only o hF⟩
theorem GrI.cap {A : Option Addr} {C : Nat} {am km : Option Nat} (h : GrI w g M s F T A C am km) : s.bz.length ≤ C ∧ C ≤ 9223372036854775807 := by
  rcases h.own.2 with ⟨e, h0⟩ | ⟨g', cap, cur, e, _, _, h3, h5, _⟩
  · injection e with e1 e2 e3
    subst e3
    exact ⟨by omega, by omega⟩
  · injection e with e1 e2 e3
    subst e3
    exact ⟨h3, by unfold maxLen at h5; omega⟩
theorem Gr.kept (h : Gr w g M s F T) (o : Below w.heap.size w w') : Gr w' g M s F T := h.only (F1 := []) (Only.of_below o) (fun _ _ => by simp)
end

theorem new_any (m M : Int) (w : World) (hM : Hid (M = if m < 0 then 0 else m)) : Calls Try.prog 8 #[.int .i64 m] w fun e w' => e = .returned (.pointer (some ⟨w.heap.size, 0, none⟩)) ∧ Gr w' w.heap.size M .empty [w.heap.size] 0 ∧ Below w.heap.size w w' := by
  have HG : Hid (Gr (w.alloc (.cells #[.int .i64 M, .map none, .map none, .slice none 0 0] 43)) w.heap.size M .empty [w.heap.size] 0) :=
    hide ⟨none, 0, none, none, ⟨Blk.born _ _ _, World.ownsRow_nil _ _ _ _, (fun b hb => by cases hb), .inl ⟨rfl, rfl, rfl⟩, List.mem_singleton.2 rfl, fun b hb => by rw [List.mem_singleton.1 hb]; simp⟩⟩
  by_cases hm : m < 0
  · obtain rfl : M = 0 := by rw [hM.out, if_pos hm]
    go_enter Try.func8, Try.ntmps8
    go_wp2_with fail
    go_ret
    exact ⟨rfl, HG.out, (Below.refl _ _).alloc (Nat.le_refl _) _⟩
  · obtain rfl : M = m := by rw [hM.out, if_neg hm]
    go_enter Try.func8, Try.ntmps8
    go_wp2_with fail
    go_ret
    exact ⟨rfl, HG.out, (Below.refl _ _).alloc (Nat.le_refl _) _⟩
theorem len_nil (w : World) : Calls Try.prog 16 #[.pointer none] w fun e w' => e = .returned (.int .i64 0) ∧ w = w' := by
  go_enter Try.func16, Try.ntmps16
  go_wp2_with fail
  go_ret
  exact ⟨rfl, rfl⟩
theorem len_any (g T : Nat) (M : Int) (s : St) (F : List Nat) (w : World) (HG : Hid (Gr w g M s F T)) : Calls Try.prog 16 #[.pointer (some ⟨g, 0, none⟩)] w fun e w' => e = .returned (.int .i64 (s.bz.length : Nat)) ∧ w = w' := by
  obtain ⟨A, C, am, km, h1⟩ := HG.out
  have c3 : w.cell? ⟨g, 3, none⟩ = some (.slice A s.bz.length C) := h1.blk.cell 3
  clear h1
  go_enter Try.func16, Try.ntmps16
  go_wp2_with fail
  go_ret
  exact ⟨rfl, rfl⟩

theorem open_nil (x : Int) (w : World) : Calls Try.prog 17 #[.pointer none, .int .i64 x] w fun e w' => e = .returned (.tuple #[.slice none 0 0, .bool false]) ∧ w = w' := by
  go_enter Try.func17, Try.ntmps17
  go_wp2_with fail
  go_ret2
  exact ⟨rfl, rfl⟩
theorem open_none (g T : Nat) (M x : Int) (s : St) (F : List Nat) (w : World) (hx : Hid ((Lit.int .i64 x).wf = true)) (hp : Hid (posI s.ids x = none)) (HG : Hid (Gr w g M s F T)) : Calls Try.prog 17 #[.pointer (some ⟨g, 0, none⟩), .int .i64 x] w fun e w' => e = .returned (.tuple #[.slice none 0 0, .bool false]) ∧ w = w' := by
  obtain ⟨A, C, am, km, h1⟩ := HG.out
  have c1 : w.cell? ⟨g, 1, none⟩ = some (.map am) := h1.blk.cell 1
  have h4 := h1.mps
  clear h1
  rcases h4 with ⟨_, rfl, _⟩ | ⟨a, k, f, rfl, _, _, _, _, h6, _⟩
  · have hl := Maps.look_nil (P := Try.prog) (w := w) (t := 41) (k := 3) (e := 3) true kk Try.underlying41 (zeroE w) (keyOf_int_mk Try.underlying3 hx.out)
    go_enter Try.func17, Try.ntmps17
    go_wp2_with fail
    go_ret2
    exact ⟨rfl, rfl⟩
  · have HM := hide h6
    have HN : Hid ((atI s.ids x).getD 0 = 0 ∧ (atI s.ids x).isSome = false) := hide (by unfold atI; rw [hp.out]; exact ⟨rfl, rfl⟩)
    clear h6
    go_enter Try.func17, Try.ntmps17
    go_wp2_with (at_lookup; go_loud (refine wpList_get_ok rfl (.tmp 14) (.tmp 15) rfl HM.out rfl x rfl hx.out 0 false HN.out.1 HN.out.2 ?_))
    go_wp2_with fail
    go_ret2
    exact ⟨rfl, rfl⟩
/-- A slice cut from the front, as the model writes it. -/
def sub (A : Option Addr) (C k : Nat) : Option Addr := if C = k then A else A.map (·.add k)
theorem open_some (g T : Nat) (M x : Int) (s : St) (F : List Nat) (i k : Nat) (A : Option Addr) (C : Nat) (am km : Option Nat) (w : World) (hs : s.ids.length ≤ 1000) (hok : Hid s.Ok) (hx : Hid ((Lit.int .i64 x).wf = true)) (hp : Hid (posI s.ids x = some i)) (hk : Hid (s.from i = k)) (HG : Hid (GrI w g M s F T A C am km)) :
    Calls Try.prog 17 #[.pointer (some ⟨g, 0, none⟩), .int .i64 x] w fun e w' => e = .returned (.tuple #[.slice (sub A C k) (s.bz.length - k) (C - k), .bool true]) ∧ w.drew = w' := by
  have hil := posI_lt hp.out
  obtain ⟨q, hq⟩ : ∃ q, s.kp.getD i 0 = q := ⟨_, rfl⟩
  have hle := hok.out.le i hil
  have hk' := hk.out
  unfold St.from at hle hk'
  rw [hq] at hle hk'
  subst hk'
  have hlb := hok.out.lb
  obtain ⟨hnC, hCm⟩ := HG.out.cap
  have c1 : w.cell? ⟨g, 1, none⟩ = some (.map am) := HG.out.blk.cell 1
  have c2 : w.cell? ⟨g, 2, none⟩ = some (.map km) := HG.out.blk.cell 2
  have c3 : w.cell? ⟨g, 3, none⟩ = some (.slice A s.bz.length C) := HG.out.blk.cell 3
  have h4 := HG.out.mps
  obtain ⟨n, hn⟩ : ∃ n, s.bz.length = n := ⟨_, rfl⟩
  rw [hn] at c3 hlb hnC ⊢
  have hin : i + q ≤ n := by omega
  clear hn hlb hle
  rcases h4 with ⟨h0, _⟩ | ⟨a, k, f, rfl, rfl, _, _, _, h6, h7, h8⟩
  · rw [h0] at hil; simp at hil
  · have HM := hide h6
    have HN : Hid ((atI s.ids x).getD 0 = (i : Nat) ∧ (atI s.ids x).isSome = true) := hide (by unfold atI; rw [hp.out]; exact ⟨rfl, rfl⟩)
    have hl := h7.look x hx.out
    rw [h8 x, show kpAt s x = (q : Nat) from by unfold kpAt; rw [hp.out]; exact congrArg _ hq] at hl
    have hl2 : (Instr.lookup 41 (.map (some k)) (.int .i64 x) false).run Try.prog w.drew = .ok (.int .i64 (q : Nat)) w.drew := by
      have := (h7.only (F := []) (Only.drew w) (by simp)).look x hx.out
      rw [h8 x, show kpAt s x = (q : Nat) from by unfold kpAt; rw [hp.out]; exact congrArg _ hq] at this
      exact this
    clear h6 h7 h8 hq
    have hi1000 : i < 1000 := by omega
    go_enter Try.func17, Try.ntmps17
    go_wp2_with (at_lookup; go_loud (refine wpList_get_ok rfl (.tmp 14) (.tmp 15) rfl HM.out rfl x rfl hx.out (i : Nat) true HN.out.1 HN.out.2 ?_))
    go_wp2_with fail
    go_region
    go_wp2_with fail
    all_goals
      go_ret2
      refine ⟨?_, rfl⟩
      first
        | (rw [show sub A (i + q) (i + q) = A from if_pos rfl]; try rfl)
        | (rw [show sub A C (i + q) = A.map (·.add (i + q)) from if_neg (by assumption)]; try rfl)

/-! ### Can -/
theorem can_nil (x : Int) (w : World) : Calls Try.prog 10 #[.pointer none, .int .i64 x] w fun e w' => e = .returned (.bool false) ∧ Below w.heap.size w w' := by
  go_enter Try.func10, Try.ntmps10
  go_wp2_with fail
  refine (open_nil x _).mono ?_
  rintro e w1 ⟨rfl, rfl⟩
  go_wp2_with fail
  go_ret
  exact ⟨rfl, Below.refl _ _⟩
theorem can_none (g T : Nat) (M x : Int) (s : St) (F : List Nat) (w : World) (hx : Hid ((Lit.int .i64 x).wf = true)) (hp : Hid (posI s.ids x = none)) (HG : Hid (Gr w g M s F T)) : Calls Try.prog 10 #[.pointer (some ⟨g, 0, none⟩), .int .i64 x] w fun e w' => e = .returned (.bool false) ∧ Below w.heap.size w w' := by
  go_enter Try.func10, Try.ntmps10
  go_wp2_with fail
  refine (open_none g T M x s F _ hx hp HG).mono ?_
  rintro e w1 ⟨rfl, rfl⟩
  go_wp2_with fail
  go_ret
  exact ⟨rfl, Below.refl _ _⟩
theorem can_zero (g T : Nat) (x : Int) (s : St) (F : List Nat) (i : Nat) (w : World) (hs : s.ids.length ≤ 1000) (hok : Hid s.Ok) (hx : Hid ((Lit.int .i64 x).wf = true)) (hp : Hid (posI s.ids x = some i)) (HG : Hid (Gr w g 0 s F T)) : Calls Try.prog 10 #[.pointer (some ⟨g, 0, none⟩), .int .i64 x] w fun e w' => e = .returned (.bool false) ∧ Below w.heap.size w w' := by
  obtain ⟨A, C, am, km, h1⟩ := HG.out
  have HGI := hide h1
  have c0 : w.cell? ⟨g, 0, none⟩ = some (.int .i64 0) := h1.blk.cell 0
  clear h1
  go_enter Try.func10, Try.ntmps10
  go_wp2_with fail
  refine (open_some g T 0 x s F i _ A C am km _ hs hok hx hp (hide rfl) HGI).mono ?_
  rintro e w1 ⟨rfl, rfl⟩
  go_wp2_with fail
  go_ret
  exact ⟨rfl, (Below.refl _ _).drew⟩
theorem ints_at (l : List Nat) {j x : Nat} (h : l[j]? = some x) : (ints l)[j]? = some (.int .i64 (x : Nat)) := by
  unfold ints; rw [List.getElem?_map, h]; rfl
theorem ints_len (l : List Nat) : (ints l).length = l.length := by unfold ints; simp
set_option maxHeartbeats 1000000 in
theorem can_some (g T : Nat) (M x : Int) (s : St) (F : List Nat) (i : Nat) (w : World) (hs : s.ids.length ≤ 1000) (hok : Hid s.Ok) (hM : (M == 0) = false) (hx : Hid ((Lit.int .i64 x).wf = true)) (hp : Hid (posI s.ids x = some i)) (HG : Hid (Gr w g M s F T)) :
    Calls Try.prog 10 #[.pointer (some ⟨g, 0, none⟩), .int .i64 x] w fun e w' => e = .returned (.bool ((s.bz.drop (s.from i)).all (fun n => decide ((n : Int) < M)))) ∧ Below w.heap.size w w' := by
  obtain ⟨A, C, am, km, h1⟩ := HG.out
  have HGI := hide h1
  have c0 : w.cell? ⟨g, 0, none⟩ = some (.int .i64 M) := h1.blk.cell 0
  obtain ⟨k, hk⟩ : ∃ k, s.from i = k := ⟨_, rfl⟩
  have HK := hide hk
  have hsee := (Sees.of_own h1.own).drop (k := k) (ints_len _) h1.cap.1
  have hsee2 : Sees w (sub A C k) (ints (s.bz.drop k)) := by unfold ints at hsee ⊢; rw [List.map_drop]; exact hsee
  have HS := hide hsee2
  have hlb := hok.out.lb
  obtain ⟨d, hd⟩ : ∃ d, s.bz.drop k = d := ⟨_, rfl⟩
  have hL : s.bz.length - k = d.length := by rw [← hd]; simp
  have hLb : d.length ≤ 1000 := by rw [← hL]; omega
  have HL := hide hL
  rw [hk, hd]
  rw [hd] at HS
  clear h1 hk hsee hsee2 hlb hL hd
  go_enter Try.func10, Try.ntmps10
  go_wp2_with fail
  refine (open_some g T M x s F i k A C am km _ hs hok hx hp HK HGI).mono ?_
  rintro e w1 ⟨rfl, rfl⟩
  rw [HL.out]
  go_wp2_with fail
  go_loop [26] (fun ii => ∃ j : Nat, ii = .int .i64 (j : Nat) ∧ j ≤ d.length ∧ Hid (d.all (fun n => decide ((n : Int) < M)) = (d.drop j).all (fun n => decide ((n : Int) < M)))) (fun ii => d.length - (intOf ii).toNat)
  case atStart => exact ⟨0, rfl, Nat.zero_le _, hide rfl⟩
  case round =>
    obtain ⟨j, rfl, hj, HA⟩ := hrel
    by_cases hlt : j < d.length
    · have hji : (j : Int) < (d.length : Int) := by omega
      obtain ⟨b, hb⟩ : ∃ b, d[j]? = some b := ⟨_, List.getElem?_eq_getElem hlt⟩
      obtain ⟨bb, oo, hA2, s0⟩ := HS.out j _ (ints_at _ hb)
      rw [hA2]
      have hdr : d.drop j = b :: d.drop (j + 1) := by
        have hb2 : d[j] = b := by rw [List.getElem?_eq_getElem hlt] at hb; exact Option.some.inj hb
        rw [List.drop_eq_getElem_cons hlt, hb2]
      have HA1 := HA.out
      rw [hdr, List.all_cons] at HA1
      clear hb hA2 hdr
      by_cases hbm : (b : Int) < M
      · have HA2 : Hid (d.all (fun n => decide ((n : Int) < M)) = (d.drop (j + 1)).all (fun n => decide ((n : Int) < M))) := hide (by rw [HA1]; simp [hbm])
        clear HA1
        go_wp2_with fail
        go_round
        case rel => exact ⟨j + 1, by go_num, by omega, HA2⟩
        case measure => simp [intOf]; omega
      · have HA2 : Hid (d.all (fun n => decide ((n : Int) < M)) = false) := hide (by rw [HA1]; simp [hbm])
        clear HA1
        go_wp2_with fail
        go_ret
        exact ⟨ret_bool HA2.out.symm, (Below.refl _ _).drew⟩
    · have HA2 : Hid (d.all (fun n => decide ((n : Int) < M)) = true) := hide (by rw [HA.out, List.drop_eq_nil_of_le (by omega)]; rfl)
      go_wp2_with fail
      go_ret
      exact ⟨ret_bool HA2.out.symm, (Below.refl _ _).drew⟩
theorem can_any (g T : Nat) (M x : Int) (s : St) (F : List Nat) (w : World) (hs : s.ids.length ≤ 1000) (hok : Hid s.Ok) (hx : Hid ((Lit.int .i64 x).wf = true)) (HG : Hid (Gr w g M s F T)) : Calls Try.prog 10 #[.pointer (some ⟨g, 0, none⟩), .int .i64 x] w fun e w' => e = .returned (.bool (s.can M x)) ∧ Below w.heap.size w w' := by
  unfold St.can
  cases hp : posI s.ids x with
  | none => exact can_none g T M x s F w hx (hide hp) HG
  | some i =>
    by_cases hM : M = 0
    · subst hM
      exact can_zero g T x s F i w hs hok hx (hide hp) HG
    · have hM2 : (M == 0) = false := by simpa using hM
      dsimp only
      rw [hM2]
      exact can_some g T M x s F i w hs hok hM2 hx (hide hp) HG
end Go.Proofs.Ytgledbjkjpngeaa
