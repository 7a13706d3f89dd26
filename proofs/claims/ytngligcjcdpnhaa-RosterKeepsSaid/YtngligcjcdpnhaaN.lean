/- The reference's list in memory; the reference's Last, Active and State. -/
import Derived.Test.YtngligcjcdpnhaaM
namespace Go.Proofs.Ytngligcjcdpnhaa
open Go.RowKit Go.Maps
set_option linter.unusedSimpArgs false
set_option linter.unusedVariables false

/-- A stream's cells: the reference's, the program's. -/
def row6 (m : Sm) : List Value := [.int .i64 m.id, .int .i64 m.k, .int .i64 m.o, .bool m.a, .bool m.b, .int .i64 m.y]
def row17 (m : Sm) : List Value := [.int .i64 m.id, .int .i64 m.k, .int .i64 m.o, .bool m.a, .bool m.b, .int .i64 m.y, .complex .f64 m.cx m.cy, .bool false, .string ByteArray.empty, .int .i64 0, .int .i64 0, .int .i64 0, .bool false, .string ByteArray.empty, .int .i64 0, .int .i64 0, .int .i64 0]
def cells6 (l : List Sm) : List Value := l.flatMap row6
def cells17 (l : List Sm) : List Value := l.flatMap row17
theorem flat_length {f : Sm → List Value} {s : Nat} (hf : ∀ m, (f m).length = s) : ∀ l : List Sm, (l.flatMap f).length = l.length * s
  | [] => by simp
  | m :: l => by rw [List.flatMap_cons, List.length_append, hf, flat_length hf l, List.length_cons, Nat.succ_mul]; omega
theorem flat_get {f : Sm → List Value} {s : Nat} (hf : ∀ m, (f m).length = s) : ∀ {l : List Sm} {i : Nat} {m : Sm}, l[i]? = some m → ∀ j, j < s → (l.flatMap f)[i * s + j]? = (f m)[j]?
  | [], i, m, h, j, hj => by simp at h
  | z :: l, 0, m, h, j, hj => by
    simp at h; subst h
    rw [List.flatMap_cons, Nat.zero_mul, Nat.zero_add, List.getElem?_append_left (by rw [hf]; exact hj)]
  | z :: l, i + 1, m, h, j, hj => by
    have := flat_get hf (l := l) (i := i) (m := m) (by simpa using h) j hj
    rw [List.flatMap_cons, List.getElem?_append_right (by rw [hf, Nat.succ_mul]; omega), hf, show (i + 1) * s + j - s = i * s + j by rw [Nat.succ_mul]; omega]
    exact this
theorem flat_one {f : Sm → List Value} (hf : ∀ m, ∀ u ∈ f m, u.oneCell' = true) {l : List Sm} : ∀ u ∈ l.flatMap f, u.oneCell' = true := fun u hu => by
  obtain ⟨m, _, hm⟩ := List.mem_flatMap.1 hu
  exact hf m u hm
theorem row6_len (m : Sm) : (row6 m).length = 6 := rfl
theorem row17_len (m : Sm) : (row17 m).length = 17 := rfl
theorem row6_one (m : Sm) : ∀ u ∈ row6 m, u.oneCell' = true := by unfold row6; simp [Value.oneCell']
theorem row17_one (m : Sm) : ∀ u ∈ row17 m, u.oneCell' = true := by unfold row17; simp [Value.oneCell']

theorem mx (z x : Int) : (if z < x then x else z) = max z x := by split <;> omega
/-- A list of the reference's, in memory. -/
structure Rf (w : World) (K : Nat → Prop) (A : Option Addr) (n c : Nat) (l : List Sm) : Prop where
  len : l.length = n
  sl : Sl w K A n c (cells6 l)
section
variable {w w' : World} {K K' : Nat → Prop} {A : Option Addr} {n c : Nat} {l : List Sm}
theorem Rf.mono (h : Rf w K A n c l) (hk : ∀ g, g < w.heap.size → K g → K' g) : Rf w K' A n c l := ⟨h.len, h.sl.mono hk⟩
theorem Rf.kept (h : Rf w K A n c l) (hb : Below w.heap.size w w') : Rf w' K A n c l := ⟨h.len, h.sl.kept hb⟩
theorem Rf.only {F : List Nat} (h : Rf w K A n c l) (o : Only F w w') (hF : ∀ g, K g → g ∉ F) : Rf w' K A n c l := ⟨h.len, h.sl.only o hF⟩
theorem Rf.nil (w : World) (K : Nat → Prop) : Rf w K none 0 0 [] := ⟨rfl, Sl.nil w K⟩
theorem Rf.at (h : Rf w K A n c l) {i : Nat} {m : Sm} (hi : l[i]? = some m) : ∃ g o, A = some ⟨g, o, none⟩ ∧ ∀ j v, (row6 m)[j]? = some v → w.cell? ⟨g, o + (i * 6 + j), none⟩ = some v := by
  have h0 : (cells6 l)[i * 6 + 0]? = some (.int .i64 m.id) := (flat_get row6_len hi 0 (by omega)).trans rfl
  obtain ⟨g, o, hA, _, _⟩ := h.sl.sees _ _ h0
  refine ⟨g, o, hA, fun j v hv => ?_⟩
  have hj : j < 6 := (List.getElem?_eq_some_iff.1 hv).1
  obtain ⟨g', o', e', _, hc⟩ := h.sl.sees (i * 6 + j) v ((flat_get row6_len hi j hj).trans hv)
  rw [hA] at e'
  injection e' with e'
  injection e' with e1 e2
  subst e1 e2
  exact hc
end

set_option maxHeartbeats 1000000 in
theorem rlast_any (side : Int) (K : Nat → Prop) (A : Option Addr) (n c : Nat) (l : List Sm) (w : World) (hn : n ≤ 1000) (HR : Hid (Rf w K A n c l)) (ht : Hid (∀ m ∈ l, -9223372036854775808 ≤ m.id ∧ m.id ≤ 9223372036854775807)) :
    Calls Try.prog 27 #[.slice A n c, .int .i64 side] w fun e w' => e = .returned (.int .i64 (lastL l side)) ∧ w = w' := by
  have HL := hide HR.out.len
  go_enter Try.func27, Try.ntmps27
  go_wp2_with fail
  go_loopw [5, 6] (fun vv ii wr => ∃ (k : Nat) (z : Int), ii = .int .i64 (k : Nat) ∧ vv = .int .i64 z ∧ k ≤ n ∧ Hid (z = lastL (l.take k) side) ∧ Hid (w = wr)) (fun _ ii _ => n - (intOf ii).toNat)
  case atStart => exact ⟨0, 0, rfl, rfl, Nat.zero_le _, hide rfl, hide rfl⟩
  case round =>
    obtain ⟨k, z, rfl, rfl, hk, HZ, HWR⟩ := hrel
    obtain rfl := HWR.out
    by_cases hlt : k < n
    · have hki : (k : Int) < (n : Int) := by omega
      obtain ⟨m, hm⟩ : ∃ m, l[k]? = some m := ⟨_, List.getElem?_eq_getElem (by have := HL.out; omega)⟩
      have HM := hide hm
      have HT := hide (lastL_take hm side)
      obtain ⟨bb, oo, rfl, t⟩ := HR.out.at hm
      have k0 : w.cell? ⟨bb, oo + k * 6, none⟩ = some (.int .i64 m.id) := by have := t 0 _ rfl; simpa using this
      obtain ⟨q, hq⟩ : ∃ q, ownO m.id = q := ⟨_, rfl⟩
      have HO := hide (rowner_q m.id q _ w hq rfl)
      have HQ := hide hq
      clear hm t hq
      by_cases hs : q = side
      · have hb : (q == side) = true := by rw [beq_iff_eq]; exact hs
        have HS := hide hs
        clear hs
        go_wp2_with fail
        refine HO.out.mono ?_
        rintro e w1 ⟨rfl, rfl⟩
        go_wp2_with fail
        go_roundw
        case rel => exact ⟨k + 1, _, by go_num, rfl, by omega, hide (by rw [HT.out, if_pos (HQ.out.trans HS.out), ← HZ.out]; exact mx _ _), HWR⟩
        case measure => simp [intOf]; omega
      · have hb : (q == side) = false := by rw [beq_eq_false_iff_ne]; exact hs
        have HS := hide hs
        clear hs
        go_wp2_with fail
        refine HO.out.mono ?_
        rintro e w1 ⟨rfl, rfl⟩
        go_wp2_with fail
        go_roundw
        case rel => exact ⟨k + 1, _, by go_num, rfl, by omega, hide (by rw [HT.out, if_neg (by rw [HQ.out]; exact HS.out), ← HZ.out]), HWR⟩
        case measure => simp [intOf]; omega
    · have HE : Hid (z = lastL l side) := hide (by rw [HZ.out, List.take_of_length_le (by have := HL.out; omega)])
      go_wp2_with fail
      go_ret
      exact ⟨by rw [HE.out]; rfl, rfl⟩
set_option maxHeartbeats 1000000 in
theorem ractive_any (side : Int) (K : Nat → Prop) (A : Option Addr) (n c : Nat) (l : List Sm) (w : World) (hn : n ≤ 1000) (HR : Hid (Rf w K A n c l)) :
    Calls Try.prog 28 #[.slice A n c, .int .i64 side] w fun e w' => e = .returned (.int .i64 (activeL l side : Nat)) ∧ w = w' := by
  have HL := hide HR.out.len
  go_enter Try.func28, Try.ntmps28
  go_wp2_with fail
  go_loopw [5, 6] (fun vv ii wr => ∃ (k z : Nat), ii = .int .i64 (k : Nat) ∧ vv = .int .i64 (z : Nat) ∧ k ≤ n ∧ z ≤ k ∧ Hid (z = activeL (l.take k) side) ∧ Hid (w = wr)) (fun _ ii _ => n - (intOf ii).toNat)
  case atStart => exact ⟨0, 0, rfl, rfl, Nat.zero_le _, Nat.zero_le _, hide rfl, hide rfl⟩
  case round =>
    obtain ⟨k, z, rfl, rfl, hk, hz, HZ, HWR⟩ := hrel
    obtain rfl := HWR.out
    by_cases hlt : k < n
    · have hki : (k : Int) < (n : Int) := by omega
      obtain ⟨m, hm⟩ : ∃ m, l[k]? = some m := ⟨_, List.getElem?_eq_getElem (by have := HL.out; omega)⟩
      have HT := hide (activeL_take hm side)
      obtain ⟨bb, oo, rfl, t⟩ := HR.out.at hm
      have k1 : w.cell? ⟨bb, oo + k * 6 + 1, none⟩ = some (.int .i64 m.k) := by rw [Nat.add_assoc]; exact t 1 _ rfl
      have k2 : w.cell? ⟨bb, oo + k * 6 + 2, none⟩ = some (.int .i64 m.o) := by rw [Nat.add_assoc]; exact t 2 _ rfl
      clear hm t
      by_cases h3 : m.k = 3
      · by_cases hs : m.o = side
        · have HE : Hid (activeL (l.take (k + 1)) side = z + 1) := hide (by rw [HT.out, if_pos (by unfold opn; simp [h3, hs]), ← HZ.out])
          have b1 : (m.k == 3) = true := by rw [beq_iff_eq]; exact h3
          have b2 : (m.o == side) = true := by rw [beq_iff_eq]; exact hs
          clear h3 hs HT
          go_wp2_with fail
          go_roundw
          case rel => exact ⟨k + 1, z + 1, by go_num, by go_num, by omega, by omega, hide HE.out.symm, (by first | exact HWR | exact hide trivial)⟩
          case measure => simp [intOf]; omega
        · have HE : Hid (activeL (l.take (k + 1)) side = z) := hide (by rw [HT.out, if_neg (by unfold opn; simp [h3, hs]), ← HZ.out])
          have b1 : (m.k == 3) = true := by rw [beq_iff_eq]; exact h3
          have b2 : (m.o == side) = false := by rw [beq_eq_false_iff_ne]; exact hs
          clear h3 hs HT
          go_wp2_with fail
          go_roundw
          case rel => exact ⟨k + 1, z, by go_num, rfl, by omega, by omega, hide HE.out.symm, (by first | exact HWR | exact hide trivial)⟩
          case measure => simp [intOf]; omega
      · have HE : Hid (activeL (l.take (k + 1)) side = z) := hide (by rw [HT.out, if_neg (by unfold opn; simp [h3]), ← HZ.out])
        have b1 : (m.k == 3) = false := by rw [beq_eq_false_iff_ne]; exact h3
        clear h3 HT
        go_wp2_with fail
        go_roundw
        case rel => exact ⟨k + 1, z, by go_num, rfl, by omega, by omega, hide HE.out.symm, (by first | exact HWR | exact hide trivial)⟩
        case measure => simp [intOf]; omega
    · have HE : Hid (z = activeL l side) := hide (by rw [HZ.out, List.take_of_length_le (by have := HL.out; omega)])
      go_wp2_with fail
      go_ret
      exact ⟨by rw [HE.out]; rfl, rfl⟩
def sttV (s : Stt) : Value := .agg #[.int .i64 s.k, .int .i64 s.o, .bool s.a, .bool s.b, .int .i64 s.y]

theorem st_alloc1 (w : World) (o : Obj) : Below w.heap.size w (w.alloc o) := (Below.refl _ _).alloc (Nat.le_refl _) o
theorem st_set {w w' : World} (h : Below w.heap.size w w') {p : Addr} (hp : w.heap.size ≤ p.block) (u : Value) : Below w.heap.size w (w'.setCell p u) := h.setCell hp u
theorem st5 {w W : World} (h : Below w.heap.size w W) {v : Nat} (hv : w.heap.size ≤ v) (a b c d e : Value) : Below w.heap.size w (((((W.setCell ⟨v, 0, none⟩ a).setCell ⟨v, 1, none⟩ b).setCell ⟨v, 2, none⟩ c).setCell ⟨v, 3, none⟩ d).setCell ⟨v, 4, none⟩ e) :=
  st_set (st_set (st_set (st_set (st_set h hv a) hv b) hv c) hv d) hv e

set_option maxHeartbeats 1000000 in
theorem rstate_any (id : Int) (K : Nat → Prop) (A : Option Addr) (n c : Nat) (l : List Sm) (w : World) (hn : n ≤ 1000) (HR : Hid (Rf w K A n c l)) (ht : Hid (∀ m ∈ l, -9223372036854775808 ≤ m.id ∧ m.id ≤ 9223372036854775807)) (hk : Hid (ownK id = false → posI (ids l) id = none)) (s : Stt) (hs : Hid (stateL l id = s)) :
    Calls Try.prog 21 #[.slice A n c, .int .i64 id] w fun e w' => e = .returned (.agg #[.int .i64 s.k, .int .i64 s.o, .bool s.a, .bool s.b, .int .i64 s.y]) ∧ Below w.heap.size w w' := by
  have HL := hide HR.out.len
  obtain ⟨ow, ho⟩ : ∃ ow, ownO id = ow := ⟨_, rfl⟩
  obtain ⟨kk, hkk⟩ : ∃ kk, ownK id = kk := ⟨_, rfl⟩
  have HO := fun w => hide (rowner_q id ow kk w ho hkk)
  have HOO := hide ho
  have HKK := hide hkk
  clear ho hkk
  cases kk
  · obtain rfl : Stt.zero = s := by
      rw [← hs.out, stateL_none (hk.out HKK.out), HKK.out]; rfl
    go_enter Try.func21, Try.ntmps21
    go_wp2_with fail
    refine (HO _).out.mono ?_
    rintro e w1 ⟨rfl, rfl⟩
    go_wp2_with fail
    refine bodyPost_ret (v := .agg #[.int .i64 0, .int .i64 0, .bool false, .bool false, .int .i64 0]) (by simp [results, Try.results21, go_sem]) rfl ⟨rfl, ?_⟩
    first | exact st_alloc1 w _ | exact st5 (st_alloc1 w _) (Nat.le_refl _) _ _ _ _ _
  · have HW1 : Hid (Below w.heap.size w (w.alloc (.cells #[.int .i64 0, .int .i64 0, .bool false, .bool false, .int .i64 0] 29))) := hide (st_alloc1 w _)
    have HR1 := hide (HR.out.kept HW1.out)
    obtain ⟨v, hv⟩ : ∃ v, w.heap.size = v := ⟨_, rfl⟩
    obtain ⟨W1, hW1⟩ : ∃ W1, w.alloc (.cells #[.int .i64 0, .int .i64 0, .bool false, .bool false, .int .i64 0] 29) = W1 := ⟨_, rfl⟩
    rw [hW1] at HW1 HR1
    have HC : Hid (Blk W1 v 29 #[.int .i64 0, .int .i64 0, .bool false, .bool false, .int .i64 0]) := hide (by rw [← hW1, ← hv]; exact Blk.born w 29 _)
    have z0 : W1.frozen? ⟨v, 0, none⟩ = false := HC.out.free _
    have z1 : W1.frozen? ⟨v, 1, none⟩ = false := HC.out.free _
    have z2 : W1.frozen? ⟨v, 2, none⟩ = false := HC.out.free _
    have z3 : W1.frozen? ⟨v, 3, none⟩ = false := HC.out.free _
    have z4 : W1.frozen? ⟨v, 4, none⟩ = false := HC.out.free _
    have r0 : W1.cell? ⟨v, 0, none⟩ = some (.int .i64 0) := HC.out.cell 0
    have r1 : W1.cell? ⟨v, 1, none⟩ = some (.int .i64 0) := HC.out.cell 1
    have r2 : W1.cell? ⟨v, 2, none⟩ = some (.bool false) := HC.out.cell 2
    have r3 : W1.cell? ⟨v, 3, none⟩ = some (.bool false) := HC.out.cell 3
    have r4 : W1.cell? ⟨v, 4, none⟩ = some (.int .i64 0) := HC.out.cell 4
    go_enter Try.func21, Try.ntmps21
    go_wp2_with fail
    refine (HO _).out.mono ?_
    rintro e w1 ⟨rfl, rfl⟩
    go_wp2_with fail
    go_loopw [7] (fun ii wr => ∃ (k : Nat), ii = .int .i64 (k : Nat) ∧ k ≤ n ∧ Hid (∀ j, j < k → (ids l)[j]? ≠ some id) ∧ Hid (W1 = wr)) (fun ii _ => n - (intOf ii).toNat)
    case atStart => exact ⟨0, rfl, Nat.zero_le _, hide (fun j hj => absurd hj (by omega)), hide rfl⟩
    case round =>
      obtain ⟨k, rfl, hk, HE, HWR⟩ := hrel
      obtain rfl := HWR.out
      by_cases hlt : k < n
      · have hki : (k : Int) < (n : Int) := by omega
        obtain ⟨m, hm⟩ : ∃ m, l[k]? = some m := ⟨_, List.getElem?_eq_getElem (by have := HL.out; omega)⟩
        have HM := hide hm
        have HI := hide (ids_get hm)
        obtain ⟨bb, oo, rfl, t⟩ := HR1.out.at hm
        have k0 : W1.cell? ⟨bb, oo + k * 6, none⟩ = some (.int .i64 m.id) := by have := t 0 _ rfl; simpa using this
        have k1 : W1.cell? ⟨bb, oo + k * 6 + 1, none⟩ = some (.int .i64 m.k) := by rw [Nat.add_assoc]; exact t 1 _ rfl
        have k2 : W1.cell? ⟨bb, oo + k * 6 + 2, none⟩ = some (.int .i64 m.o) := by rw [Nat.add_assoc]; exact t 2 _ rfl
        have k3 : W1.cell? ⟨bb, oo + k * 6 + 3, none⟩ = some (.bool m.a) := by rw [Nat.add_assoc]; exact t 3 _ rfl
        have k4 : W1.cell? ⟨bb, oo + k * 6 + 4, none⟩ = some (.bool m.b) := by rw [Nat.add_assoc]; exact t 4 _ rfl
        have k5 : W1.cell? ⟨bb, oo + k * 6 + 5, none⟩ = some (.int .i64 m.y) := by rw [Nat.add_assoc]; exact t 5 _ rfl
        clear hm t
        by_cases hyx : m.id = id
        · have hb : (m.id == id) = true := by rw [beq_iff_eq]; exact hyx
          have HS : Hid (m.st = s) := hide (by
            rw [← hs.out]; exact (stateL_some (posI_first (by rw [HI.out, hyx]) HE.out) HM.out).symm)
          clear hyx
          obtain rfl := HS.out
          go_wp2_with fail
          refine bodyPost_ret (v := .agg #[.int .i64 m.k, .int .i64 m.o, .bool m.a, .bool m.b, .int .i64 m.y]) (by simp [results, Try.results21, go_sem, r0, r1, r2, r3, r4]) rfl ⟨rfl, ?_⟩
          rw [← hv]
          exact st5 HW1.out (Nat.le_refl _) _ _ _ _ _
        · have hb : (m.id == id) = false := by rw [beq_eq_false_iff_ne]; exact hyx
          have HE1 : Hid (∀ j, j < k + 1 → (ids l)[j]? ≠ some id) := hide (fun j hj => by
            by_cases e : j < k
            · exact HE.out j e
            · have : j = k := by omega
              rw [this, HI.out]
              exact fun e => hyx (Option.some.inj e))
          clear hyx
          go_wp2_with fail
          go_roundw
          case rel => exact ⟨k + 1, by go_num, by omega, HE1, (by first | exact HWR | exact hide trivial)⟩
          case measure => simp [intOf]; omega
      · have HP : Hid (posI (ids l) id = none) := hide (posI_nobody (fun j hj => by
          have h1 := (List.getElem?_eq_some_iff.1 hj).1
          have h2 := HL.out
          rw [ids_length] at h1
          exact HE.out j (by omega) hj))
        have HLA := fun w HR => hide (rlast_any ow K A n c l w hn HR ht)
        have HS : Hid (s = if id < lastL l ow then ⟨1, ow, false, false, 0⟩ else ⟨0, ow, false, false, 0⟩) := hide (by
          rw [← hs.out, stateL_none HP.out, HKK.out, HOO.out]; rfl)
        obtain ⟨z, hz⟩ : ∃ z, lastL l ow = z := ⟨_, rfl⟩
        rw [hz] at HS HLA
        clear hz
        by_cases hzi : id < z
        · obtain rfl : s = ⟨1, ow, false, false, 0⟩ := by rw [HS.out, if_pos hzi]
          have hb : z > id := hzi
          clear hzi
          go_wp2_with fail
          refine (HLA _ HR1).out.mono ?_
          rintro e w2 ⟨rfl, rfl⟩
          go_wp2_with fail
          refine bodyPost_ret (v := .agg #[.int .i64 1, .int .i64 ow, .bool false, .bool false, .int .i64 0]) (by simp [results, Try.results21, go_sem, r0, r1, r2, r3, r4]) rfl ⟨rfl, ?_⟩
          rw [← hv]
          exact st5 HW1.out (Nat.le_refl _) _ _ _ _ _
        · obtain rfl : s = ⟨0, ow, false, false, 0⟩ := by rw [HS.out, if_neg hzi]
          go_wp2_with fail
          refine (HLA _ HR1).out.mono ?_
          rintro e w2 ⟨rfl, rfl⟩
          go_wp2_with fail
          refine bodyPost_ret (v := .agg #[.int .i64 0, .int .i64 ow, .bool false, .bool false, .int .i64 0]) (by simp [results, Try.results21, go_sem, r0, r1, r2, r3, r4]) rfl ⟨rfl, ?_⟩
          rw [← hv]
          exact st5 HW1.out (Nat.le_refl _) _ _ _ _ _
end Go.Proofs.Ytngligcjcdpnhaa
