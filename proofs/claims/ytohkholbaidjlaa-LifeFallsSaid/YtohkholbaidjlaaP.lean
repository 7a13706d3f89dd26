/- The walk of LifeFalls. -/
import Derived.Test.YtohkholbaidjlaaH
namespace Go.Proofs.Ytohkholbaidjlaa
open Go.RowKit

theorem and1' : ∀ n : Fin 256, bits .and .i8 ((n.1 : Int) - 128) 1 = 0 ∨ bits .and .i8 ((n.1 : Int) - 128) 1 = 1 := by decide +kernel
theorem and1 (x : Int) (h : -128 ≤ x ∧ x ≤ 127) : bits .and .i8 x 1 = 0 ∨ bits .and .i8 x 1 = 1 := by
  have := and1' ⟨(x + 128).toNat, by omega⟩
  have e : (((x + 128).toNat : Nat) : Int) - 128 = x := by omega
  rw [e] at this
  exact this

structure Falls (s t : Stt) : Prop where
  right : rightS t.k t.o t.a t.b t.y = true
  kind : s.k ≤ t.k
  owner : t.o = s.o
  same : s.k = 4 → t = s
  a : s.a = true → t.k = 3 → t.a = true
  b : s.b = true → t.k = 3 → t.b = true

theorem falls_ends {k o y side : Int} {a b : Bool} (h : rightS k o a b y = true) (hs : side = 0 ∨ side = 1) : Falls ⟨k, o, a, b, y⟩ (endsS k o a b y side) := by
  by_cases h3 : k = 3
  · subst h3
    have ho : sid o = true := by unfold rightS at h; simp at h; exact h.1
    have hy : y = 0 := by unfold rightS at h; simp at h; exact h.2.1
    subst hy
    rcases hs with rfl | rfl <;> cases a <;> cases b <;> simp [endsS, sid] <;> (constructor <;> simp [rightS, ho] <;> try (unfold rightS at h; simp at h))
  · rw [endsS_off (.inl h3)]
    exact ⟨h, Int.le_refl _, rfl, fun _ => rfl, fun h _ => h, fun h _ => h⟩
theorem falls_resets {k o y side : Int} {a b : Bool} (h : rightS k o a b y = true) (hs : side = 0 ∨ side = 1) : Falls ⟨k, o, a, b, y⟩ (resetsS k o a b y side) := by
  by_cases hk : k ≠ 2 ∧ k ≠ 3
  · rw [resetsS_off (.inl hk)]
    exact ⟨h, Int.le_refl _, rfl, fun _ => rfl, fun h _ => h, fun h _ => h⟩
  · have ho : sid o = true := by unfold rightS at h; simp at h; exact h.1
    rw [resetsS_on (by rintro (h | h); exact hk h; rcases hs with rfl | rfl <;> simp [sid] at h)]
    have hk' : k = 2 ∨ k = 3 := by omega
    rcases hk' with rfl | rfl <;> rcases hs with rfl | rfl <;> (constructor <;> simp [rightS, ho])

def ints8 (l : List Int) : List Value := l.map (Value.int .i8)
theorem i8_at {l : List Int} {k : Nat} (h : k < l.length) : (l.map (Value.int .i8))[k]? = some (.int .i8 l[k]) := by simp [h]
theorem st_neq (k o y : Int) (a b : Bool) (w : World) : (binOp .neq 27 (.agg #[.int .i64 k, .int .i64 o, .bool a, .bool b, .int .i64 y]) (.agg #[.int .i64 k, .int .i64 o, .bool a, .bool b, .int .i64 y])).run Try.prog w = .ok (.bool false) w := by
  have h := st_self k o y a b w
  simp only [binOp] at h ⊢
  simp only [Sem.run_bind] at h ⊢
  generalize (Op.equal 27 (.agg #[.int .i64 k, .int .i64 o, .bool a, .bool b, .int .i64 y]) (.agg #[.int .i64 k, .int .i64 o, .bool a, .bool b, .int .i64 y])).run Try.prog w = r at h ⊢
  cases r with
  | ok v w2 =>
    simp at h
    obtain ⟨rfl, rfl⟩ := h
    simp
  | halt x w2 => simp [Result.andThen] at h

set_option maxRecDepth 100000 in
set_option maxHeartbeats 4000000 in
theorem falls_any (k0 o0 y0 : Int) (a0 b0 : Bool) (A : Option Addr) (c : Nat) (l : List Int) (w : World) (hr : rightS k0 o0 a0 b0 y0 = true) (hs : Sees w A (l.map (Value.int .i8))) (hw : ∀ x ∈ l, -128 ≤ x ∧ x ≤ 127) (hl : l.length ≤ 60) :
    Calls Try.prog 6 #[.agg #[.int .i64 k0, .int .i64 o0, .bool a0, .bool b0, .int .i64 y0], .slice A l.length c] w fun e w' => e = .returned (.bool true) ∧ Below w.heap.size w w' := by
  have hneq := st_neq
  have HR := hide hr
  have HW := hide hw
  clear hr hw
  go_enter Try.func6, Try.ntmps6
  go_wp2_with fail
  refine (rright_q k0 o0 a0 b0 y0 _ true HR.out).mono ?_
  rintro e w1 ⟨rfl, hb⟩
  have hb1 := below_base1 hb
  have B1 : Blk w1 w.heap.size 24 #[.int .i64 k0, .int .i64 o0, .bool a0, .bool b0, .int .i64 y0] := (Blk.born _ _ _).kept hb
  clear hb
  have c0 : w1.cell? ⟨w.heap.size, 0, none⟩ = some (.int .i64 k0) := B1.cell 0
  have c1 : w1.cell? ⟨w.heap.size, 1, none⟩ = some (.int .i64 o0) := B1.cell 1
  have c2 : w1.cell? ⟨w.heap.size, 2, none⟩ = some (.bool a0) := B1.cell 2
  have c3 : w1.cell? ⟨w.heap.size, 3, none⟩ = some (.bool b0) := B1.cell 3
  have c4 : w1.cell? ⟨w.heap.size, 4, none⟩ = some (.int .i64 y0) := B1.cell 4
  go_wp2_with fail
  refine (own_any k0 o0 a0 b0 y0 _).mono ?_
  rintro e w2 ⟨rfl, hb⟩
  have hb2 := below_next hb1 hb
  clear hb c0 c1 c2 c3 c4 B1 hb1
  go_wp2_with fail
  have hT := hb2.size
  go_loopw [22] (fun i wr => ∃ (j : Nat) (k o : Int) (a b : Bool) (y : Int), j ≤ l.length ∧ i = .int .i64 j ∧ Blk wr w2.heap.size 27 #[.int .i64 k, .int .i64 o, .bool a, .bool b, .int .i64 y] ∧ Hid (rightS k o a b y = true) ∧ Below w.heap.size w wr) (fun i _ => l.length - (intOf i).toNat)
  case atStart => exact ⟨0, k0, o0, a0, b0, y0, Nat.zero_le _, rfl, Blk.born _ _ _, HR, hb2.alloc hb2.size _⟩
  case round =>
    obtain ⟨j, k, o, a, b, y, hj, rfl, BT, HS, hbel⟩ := hrel
    by_cases hlt : j < l.length
    · obtain ⟨bb, oo, rfl, hc⟩ := (hs.kept hbel) j _ (i8_at hlt)
      obtain ⟨sd, hsd⟩ : ∃ s, bits .and .i8 l[j] 1 = s := ⟨_, rfl⟩
      have hsd2 : sd = 0 ∨ sd = 1 := by rw [← hsd]; exact and1 _ (HW.out _ (List.getElem_mem hlt))
      have HSD := hide hsd2
      have sd0 : 0 ≤ sd := by omega
      have sd1 : sd ≤ 1 := by omega
      clear hsd2
      have t0 : wr.cell? ⟨w2.heap.size, 0, none⟩ = some (.int .i64 k) := BT.cell 0
      have t1 : wr.cell? ⟨w2.heap.size, 1, none⟩ = some (.int .i64 o) := BT.cell 1
      have t2 : wr.cell? ⟨w2.heap.size, 2, none⟩ = some (.bool a) := BT.cell 2
      have t3 : wr.cell? ⟨w2.heap.size, 3, none⟩ = some (.bool b) := BT.cell 3
      have t4 : wr.cell? ⟨w2.heap.size, 4, none⟩ = some (.int .i64 y) := BT.cell 4
      have hlt2 := BT.lt
      by_cases hneg : l[j] < 0
      · have HM := hide trivial
        obtain ⟨⟨k', o', a', b', y'⟩, hs'⟩ : ∃ s : Stt, resetsS k o a b y sd = s := ⟨_, rfl⟩
        have HF : Hid (Falls ⟨k, o, a, b, y⟩ ⟨k', o', a', b', y'⟩) := hide (by rw [← hs']; exact falls_resets HS.out HSD.out)
        have HCo : Hid (∀ w, Calls Try.prog 15 #[.agg #[.int .i64 k, .int .i64 o, .bool a, .bool b, .int .i64 y], .int .i64 sd] w fun e w' => e = .returned (.agg #[.int .i64 k', .int .i64 o', .bool a', .bool b', .int .i64 y']) ∧ Below w.heap.size w w') := hide fun w => by have h := resets_any k o a b y sd w; rw [hs'] at h; exact h
        clear hs'
        go_wp2_with fail
        refine (HCo.out _).mono ?_
        rintro e w3 ⟨rfl, hb⟩
        have hb3 := below_next1 hbel hb
        have T3 : Blk w3 w2.heap.size 27 #[.int .i64 k, .int .i64 o, .bool a, .bool b, .int .i64 y] := (BT.alloc _).kept hb
        have U3 : Blk w3 wr.heap.size 27 #[.int .i64 k, .int .i64 o, .bool a, .bool b, .int .i64 y] := (Blk.born _ _ _).kept hb
        clear hb t0 t1 t2 t3 t4 hc HCo
        have hU := U3.lt
        have t0 : w3.cell? ⟨w2.heap.size, 0, none⟩ = some (.int .i64 k) := T3.cell 0
        have t1 : w3.cell? ⟨w2.heap.size, 1, none⟩ = some (.int .i64 o) := T3.cell 1
        have t2 : w3.cell? ⟨w2.heap.size, 2, none⟩ = some (.bool a) := T3.cell 2
        have t3 : w3.cell? ⟨w2.heap.size, 3, none⟩ = some (.bool b) := T3.cell 3
        have t4 : w3.cell? ⟨w2.heap.size, 4, none⟩ = some (.int .i64 y) := T3.cell 4
        have u0 : w3.cell? ⟨wr.heap.size, 0, none⟩ = some (.int .i64 k) := U3.cell 0
        have u1 : w3.cell? ⟨wr.heap.size, 1, none⟩ = some (.int .i64 o) := U3.cell 1
        have u2 : w3.cell? ⟨wr.heap.size, 2, none⟩ = some (.bool a) := U3.cell 2
        have u3 : w3.cell? ⟨wr.heap.size, 3, none⟩ = some (.bool b) := U3.cell 3
        have u4 : w3.cell? ⟨wr.heap.size, 4, none⟩ = some (.int .i64 y) := U3.cell 4
        have f0 : w3.frozen? ⟨wr.heap.size, 0, none⟩ = false := U3.free 0
        have f1 : w3.frozen? ⟨wr.heap.size, 1, none⟩ = false := U3.free 1
        have f2 : w3.frozen? ⟨wr.heap.size, 2, none⟩ = false := U3.free 2
        have f3 : w3.frozen? ⟨wr.heap.size, 3, none⟩ = false := U3.free 3
        have f4 : w3.frozen? ⟨wr.heap.size, 4, none⟩ = false := U3.free 4
        go_wp2_with fail
        refine (right_any k' o' a' b' y' _ true HF.out.right).mono ?_
        rintro e w4 ⟨rfl, hb⟩
        have U4 : Blk w4 wr.heap.size 27 #[.int .i64 k', .int .i64 o', .bool a', .bool b', .int .i64 y'] := (show Blk _ wr.heap.size 27 #[.int .i64 k', .int .i64 o', .bool a', .bool b', .int .i64 y'] from (((((U3.store 0 (.int .i64 k')).store 1 (.int .i64 o')).store 2 (.bool a')).store 3 (.bool b')).store 4 (.int .i64 y'))).kept hb
        have T4 : Blk w4 w2.heap.size 27 #[.int .i64 k, .int .i64 o, .bool a, .bool b, .int .i64 y] := (((((T3.aside (p := ⟨wr.heap.size, 0, none⟩) (Nat.ne_of_lt hlt2) (.int .i64 k')).aside (p := ⟨wr.heap.size, 1, none⟩) (Nat.ne_of_lt hlt2) (.int .i64 o')).aside (p := ⟨wr.heap.size, 2, none⟩) (Nat.ne_of_lt hlt2) (.bool a')).aside (p := ⟨wr.heap.size, 3, none⟩) (Nat.ne_of_lt hlt2) (.bool b')).aside (p := ⟨wr.heap.size, 4, none⟩) (Nat.ne_of_lt hlt2) (.int .i64 y')).kept hb
        have hb4 := below_nextB (((((hb3.setCell (p := ⟨wr.heap.size, 0, none⟩) hbel.size (.int .i64 k')).setCell (p := ⟨wr.heap.size, 1, none⟩) hbel.size (.int .i64 o')).setCell (p := ⟨wr.heap.size, 2, none⟩) hbel.size (.bool a')).setCell (p := ⟨wr.heap.size, 3, none⟩) hbel.size (.bool b')).setCell (p := ⟨wr.heap.size, 4, none⟩) hbel.size (.int .i64 y')) (by have := hb3.size; simp [World.setCell]; omega) hb
        clear hb t0 u0 f0 t1 u1 f1 t2 u2 f2 t3 u3 f3 t4 u4 f4 T3 U3 hb3
        by_cases h4 : k = 4
        · have he := HF.out.same h4
          injection he with e1 e2 e3 e4 e5
          subst e1 e2 e3 e4 e5
          have hab : a' = false ∧ b' = false := by
            have := HS.out
            rw [h4] at this
            cases a' <;> cases b' <;> simp [rightS] at this ⊢
          obtain ⟨rfl, rfl⟩ := hab
          have e4 : (k' == 4) = true := by simpa using h4
          have ek : (k' == 3) = false := by simp; omega
          clear h4
          have t0 : w4.cell? ⟨w2.heap.size, 0, none⟩ = some (.int .i64 k') := T4.cell 0
          have g0 : w4.frozen? ⟨w2.heap.size, 0, none⟩ = false := T4.free 0
          have t1 : w4.cell? ⟨w2.heap.size, 1, none⟩ = some (.int .i64 o') := T4.cell 1
          have g1 : w4.frozen? ⟨w2.heap.size, 1, none⟩ = false := T4.free 1
          have t2 : w4.cell? ⟨w2.heap.size, 2, none⟩ = some (.bool false) := T4.cell 2
          have g2 : w4.frozen? ⟨w2.heap.size, 2, none⟩ = false := T4.free 2
          have t3 : w4.cell? ⟨w2.heap.size, 3, none⟩ = some (.bool false) := T4.cell 3
          have g3 : w4.frozen? ⟨w2.heap.size, 3, none⟩ = false := T4.free 3
          have t4 : w4.cell? ⟨w2.heap.size, 4, none⟩ = some (.int .i64 y') := T4.cell 4
          have g4 : w4.frozen? ⟨w2.heap.size, 4, none⟩ = false := T4.free 4
          have u0 : w4.cell? ⟨wr.heap.size, 0, none⟩ = some (.int .i64 k') := U4.cell 0
          have u1 : w4.cell? ⟨wr.heap.size, 1, none⟩ = some (.int .i64 o') := U4.cell 1
          have u2 : w4.cell? ⟨wr.heap.size, 2, none⟩ = some (.bool false) := U4.cell 2
          have u3 : w4.cell? ⟨wr.heap.size, 3, none⟩ = some (.bool false) := U4.cell 3
          have u4 : w4.cell? ⟨wr.heap.size, 4, none⟩ = some (.int .i64 y') := U4.cell 4
          go_wp2_with fail
          go_roundw
          case rel => exact ⟨j + 1, k', o', false, false, y', by omega, by go_num, (show Blk _ w2.heap.size 27 #[.int .i64 k', .int .i64 o', .bool false, .bool false, .int .i64 y'] from (((((T4.store 0 (.int .i64 k')).store 1 (.int .i64 o')).store 2 (.bool false)).store 3 (.bool false)).store 4 (.int .i64 y'))), hide HF.out.right, (((((hb4.setCell (p := ⟨w2.heap.size, 0, none⟩) hT (.int .i64 k')).setCell (p := ⟨w2.heap.size, 1, none⟩) hT (.int .i64 o')).setCell (p := ⟨w2.heap.size, 2, none⟩) hT (.bool false)).setCell (p := ⟨w2.heap.size, 3, none⟩) hT (.bool false)).setCell (p := ⟨w2.heap.size, 4, none⟩) hT (.int .i64 y'))⟩
          case measure => simp [intOf]; omega
        · have ho := HF.out.owner
          simp only at ho
          subst ho
          have e4 : (k == 4) = false := by simpa using h4
          have hkk : k ≤ k' := HF.out.kind
          clear h4
          by_cases h3 : k' = 3
          · have e3 : (k' == 3) = true := by simpa using h3
            have H3 := hide h3
            clear h3
            cases a <;> cases b
            · have t0 : w4.cell? ⟨w2.heap.size, 0, none⟩ = some (.int .i64 k) := T4.cell 0
              have g0 : w4.frozen? ⟨w2.heap.size, 0, none⟩ = false := T4.free 0
              have t1 : w4.cell? ⟨w2.heap.size, 1, none⟩ = some (.int .i64 o') := T4.cell 1
              have g1 : w4.frozen? ⟨w2.heap.size, 1, none⟩ = false := T4.free 1
              have t2 : w4.cell? ⟨w2.heap.size, 2, none⟩ = some (.bool false) := T4.cell 2
              have g2 : w4.frozen? ⟨w2.heap.size, 2, none⟩ = false := T4.free 2
              have t3 : w4.cell? ⟨w2.heap.size, 3, none⟩ = some (.bool false) := T4.cell 3
              have g3 : w4.frozen? ⟨w2.heap.size, 3, none⟩ = false := T4.free 3
              have t4 : w4.cell? ⟨w2.heap.size, 4, none⟩ = some (.int .i64 y) := T4.cell 4
              have g4 : w4.frozen? ⟨w2.heap.size, 4, none⟩ = false := T4.free 4
              have u0 : w4.cell? ⟨wr.heap.size, 0, none⟩ = some (.int .i64 k') := U4.cell 0
              have u1 : w4.cell? ⟨wr.heap.size, 1, none⟩ = some (.int .i64 o') := U4.cell 1
              have u2 : w4.cell? ⟨wr.heap.size, 2, none⟩ = some (.bool a') := U4.cell 2
              have u3 : w4.cell? ⟨wr.heap.size, 3, none⟩ = some (.bool b') := U4.cell 3
              have u4 : w4.cell? ⟨wr.heap.size, 4, none⟩ = some (.int .i64 y') := U4.cell 4
              go_wp2_with fail
              go_roundw
              case rel => exact ⟨j + 1, k', o', a', b', y', by omega, by go_num, (show Blk _ w2.heap.size 27 #[.int .i64 k', .int .i64 o', .bool a', .bool b', .int .i64 y'] from (((((T4.store 0 (.int .i64 k')).store 1 (.int .i64 o')).store 2 (.bool a')).store 3 (.bool b')).store 4 (.int .i64 y'))), hide HF.out.right, (((((hb4.setCell (p := ⟨w2.heap.size, 0, none⟩) hT (.int .i64 k')).setCell (p := ⟨w2.heap.size, 1, none⟩) hT (.int .i64 o')).setCell (p := ⟨w2.heap.size, 2, none⟩) hT (.bool a')).setCell (p := ⟨w2.heap.size, 3, none⟩) hT (.bool b')).setCell (p := ⟨w2.heap.size, 4, none⟩) hT (.int .i64 y'))⟩
              case measure => simp [intOf]; omega
            · obtain rfl : b' = true := HF.out.b rfl H3.out
              have t0 : w4.cell? ⟨w2.heap.size, 0, none⟩ = some (.int .i64 k) := T4.cell 0
              have g0 : w4.frozen? ⟨w2.heap.size, 0, none⟩ = false := T4.free 0
              have t1 : w4.cell? ⟨w2.heap.size, 1, none⟩ = some (.int .i64 o') := T4.cell 1
              have g1 : w4.frozen? ⟨w2.heap.size, 1, none⟩ = false := T4.free 1
              have t2 : w4.cell? ⟨w2.heap.size, 2, none⟩ = some (.bool false) := T4.cell 2
              have g2 : w4.frozen? ⟨w2.heap.size, 2, none⟩ = false := T4.free 2
              have t3 : w4.cell? ⟨w2.heap.size, 3, none⟩ = some (.bool true) := T4.cell 3
              have g3 : w4.frozen? ⟨w2.heap.size, 3, none⟩ = false := T4.free 3
              have t4 : w4.cell? ⟨w2.heap.size, 4, none⟩ = some (.int .i64 y) := T4.cell 4
              have g4 : w4.frozen? ⟨w2.heap.size, 4, none⟩ = false := T4.free 4
              have u0 : w4.cell? ⟨wr.heap.size, 0, none⟩ = some (.int .i64 k') := U4.cell 0
              have u1 : w4.cell? ⟨wr.heap.size, 1, none⟩ = some (.int .i64 o') := U4.cell 1
              have u2 : w4.cell? ⟨wr.heap.size, 2, none⟩ = some (.bool a') := U4.cell 2
              have u3 : w4.cell? ⟨wr.heap.size, 3, none⟩ = some (.bool true) := U4.cell 3
              have u4 : w4.cell? ⟨wr.heap.size, 4, none⟩ = some (.int .i64 y') := U4.cell 4
              go_wp2_with fail
              go_roundw
              case rel => exact ⟨j + 1, k', o', a', true, y', by omega, by go_num, (show Blk _ w2.heap.size 27 #[.int .i64 k', .int .i64 o', .bool a', .bool true, .int .i64 y'] from (((((T4.store 0 (.int .i64 k')).store 1 (.int .i64 o')).store 2 (.bool a')).store 3 (.bool true)).store 4 (.int .i64 y'))), hide HF.out.right, (((((hb4.setCell (p := ⟨w2.heap.size, 0, none⟩) hT (.int .i64 k')).setCell (p := ⟨w2.heap.size, 1, none⟩) hT (.int .i64 o')).setCell (p := ⟨w2.heap.size, 2, none⟩) hT (.bool a')).setCell (p := ⟨w2.heap.size, 3, none⟩) hT (.bool true)).setCell (p := ⟨w2.heap.size, 4, none⟩) hT (.int .i64 y'))⟩
              case measure => simp [intOf]; omega
            · obtain rfl : a' = true := HF.out.a rfl H3.out
              have t0 : w4.cell? ⟨w2.heap.size, 0, none⟩ = some (.int .i64 k) := T4.cell 0
              have g0 : w4.frozen? ⟨w2.heap.size, 0, none⟩ = false := T4.free 0
              have t1 : w4.cell? ⟨w2.heap.size, 1, none⟩ = some (.int .i64 o') := T4.cell 1
              have g1 : w4.frozen? ⟨w2.heap.size, 1, none⟩ = false := T4.free 1
              have t2 : w4.cell? ⟨w2.heap.size, 2, none⟩ = some (.bool true) := T4.cell 2
              have g2 : w4.frozen? ⟨w2.heap.size, 2, none⟩ = false := T4.free 2
              have t3 : w4.cell? ⟨w2.heap.size, 3, none⟩ = some (.bool false) := T4.cell 3
              have g3 : w4.frozen? ⟨w2.heap.size, 3, none⟩ = false := T4.free 3
              have t4 : w4.cell? ⟨w2.heap.size, 4, none⟩ = some (.int .i64 y) := T4.cell 4
              have g4 : w4.frozen? ⟨w2.heap.size, 4, none⟩ = false := T4.free 4
              have u0 : w4.cell? ⟨wr.heap.size, 0, none⟩ = some (.int .i64 k') := U4.cell 0
              have u1 : w4.cell? ⟨wr.heap.size, 1, none⟩ = some (.int .i64 o') := U4.cell 1
              have u2 : w4.cell? ⟨wr.heap.size, 2, none⟩ = some (.bool true) := U4.cell 2
              have u3 : w4.cell? ⟨wr.heap.size, 3, none⟩ = some (.bool b') := U4.cell 3
              have u4 : w4.cell? ⟨wr.heap.size, 4, none⟩ = some (.int .i64 y') := U4.cell 4
              go_wp2_with fail
              go_roundw
              case rel => exact ⟨j + 1, k', o', true, b', y', by omega, by go_num, (show Blk _ w2.heap.size 27 #[.int .i64 k', .int .i64 o', .bool true, .bool b', .int .i64 y'] from (((((T4.store 0 (.int .i64 k')).store 1 (.int .i64 o')).store 2 (.bool true)).store 3 (.bool b')).store 4 (.int .i64 y'))), hide HF.out.right, (((((hb4.setCell (p := ⟨w2.heap.size, 0, none⟩) hT (.int .i64 k')).setCell (p := ⟨w2.heap.size, 1, none⟩) hT (.int .i64 o')).setCell (p := ⟨w2.heap.size, 2, none⟩) hT (.bool true)).setCell (p := ⟨w2.heap.size, 3, none⟩) hT (.bool b')).setCell (p := ⟨w2.heap.size, 4, none⟩) hT (.int .i64 y'))⟩
              case measure => simp [intOf]; omega
            · obtain rfl : a' = true := HF.out.a rfl H3.out
              obtain rfl : b' = true := HF.out.b rfl H3.out
              have t0 : w4.cell? ⟨w2.heap.size, 0, none⟩ = some (.int .i64 k) := T4.cell 0
              have g0 : w4.frozen? ⟨w2.heap.size, 0, none⟩ = false := T4.free 0
              have t1 : w4.cell? ⟨w2.heap.size, 1, none⟩ = some (.int .i64 o') := T4.cell 1
              have g1 : w4.frozen? ⟨w2.heap.size, 1, none⟩ = false := T4.free 1
              have t2 : w4.cell? ⟨w2.heap.size, 2, none⟩ = some (.bool true) := T4.cell 2
              have g2 : w4.frozen? ⟨w2.heap.size, 2, none⟩ = false := T4.free 2
              have t3 : w4.cell? ⟨w2.heap.size, 3, none⟩ = some (.bool true) := T4.cell 3
              have g3 : w4.frozen? ⟨w2.heap.size, 3, none⟩ = false := T4.free 3
              have t4 : w4.cell? ⟨w2.heap.size, 4, none⟩ = some (.int .i64 y) := T4.cell 4
              have g4 : w4.frozen? ⟨w2.heap.size, 4, none⟩ = false := T4.free 4
              have u0 : w4.cell? ⟨wr.heap.size, 0, none⟩ = some (.int .i64 k') := U4.cell 0
              have u1 : w4.cell? ⟨wr.heap.size, 1, none⟩ = some (.int .i64 o') := U4.cell 1
              have u2 : w4.cell? ⟨wr.heap.size, 2, none⟩ = some (.bool true) := U4.cell 2
              have u3 : w4.cell? ⟨wr.heap.size, 3, none⟩ = some (.bool true) := U4.cell 3
              have u4 : w4.cell? ⟨wr.heap.size, 4, none⟩ = some (.int .i64 y') := U4.cell 4
              go_wp2_with fail
              go_roundw
              case rel => exact ⟨j + 1, k', o', true, true, y', by omega, by go_num, (show Blk _ w2.heap.size 27 #[.int .i64 k', .int .i64 o', .bool true, .bool true, .int .i64 y'] from (((((T4.store 0 (.int .i64 k')).store 1 (.int .i64 o')).store 2 (.bool true)).store 3 (.bool true)).store 4 (.int .i64 y'))), hide HF.out.right, (((((hb4.setCell (p := ⟨w2.heap.size, 0, none⟩) hT (.int .i64 k')).setCell (p := ⟨w2.heap.size, 1, none⟩) hT (.int .i64 o')).setCell (p := ⟨w2.heap.size, 2, none⟩) hT (.bool true)).setCell (p := ⟨w2.heap.size, 3, none⟩) hT (.bool true)).setCell (p := ⟨w2.heap.size, 4, none⟩) hT (.int .i64 y'))⟩
              case measure => simp [intOf]; omega
          · have e3 : (k' == 3) = false := by simpa using h3
            clear h3
            cases a <;> cases b
            · have t0 : w4.cell? ⟨w2.heap.size, 0, none⟩ = some (.int .i64 k) := T4.cell 0
              have g0 : w4.frozen? ⟨w2.heap.size, 0, none⟩ = false := T4.free 0
              have t1 : w4.cell? ⟨w2.heap.size, 1, none⟩ = some (.int .i64 o') := T4.cell 1
              have g1 : w4.frozen? ⟨w2.heap.size, 1, none⟩ = false := T4.free 1
              have t2 : w4.cell? ⟨w2.heap.size, 2, none⟩ = some (.bool false) := T4.cell 2
              have g2 : w4.frozen? ⟨w2.heap.size, 2, none⟩ = false := T4.free 2
              have t3 : w4.cell? ⟨w2.heap.size, 3, none⟩ = some (.bool false) := T4.cell 3
              have g3 : w4.frozen? ⟨w2.heap.size, 3, none⟩ = false := T4.free 3
              have t4 : w4.cell? ⟨w2.heap.size, 4, none⟩ = some (.int .i64 y) := T4.cell 4
              have g4 : w4.frozen? ⟨w2.heap.size, 4, none⟩ = false := T4.free 4
              have u0 : w4.cell? ⟨wr.heap.size, 0, none⟩ = some (.int .i64 k') := U4.cell 0
              have u1 : w4.cell? ⟨wr.heap.size, 1, none⟩ = some (.int .i64 o') := U4.cell 1
              have u2 : w4.cell? ⟨wr.heap.size, 2, none⟩ = some (.bool a') := U4.cell 2
              have u3 : w4.cell? ⟨wr.heap.size, 3, none⟩ = some (.bool b') := U4.cell 3
              have u4 : w4.cell? ⟨wr.heap.size, 4, none⟩ = some (.int .i64 y') := U4.cell 4
              go_wp2_with fail
              go_roundw
              case rel => exact ⟨j + 1, k', o', a', b', y', by omega, by go_num, (show Blk _ w2.heap.size 27 #[.int .i64 k', .int .i64 o', .bool a', .bool b', .int .i64 y'] from (((((T4.store 0 (.int .i64 k')).store 1 (.int .i64 o')).store 2 (.bool a')).store 3 (.bool b')).store 4 (.int .i64 y'))), hide HF.out.right, (((((hb4.setCell (p := ⟨w2.heap.size, 0, none⟩) hT (.int .i64 k')).setCell (p := ⟨w2.heap.size, 1, none⟩) hT (.int .i64 o')).setCell (p := ⟨w2.heap.size, 2, none⟩) hT (.bool a')).setCell (p := ⟨w2.heap.size, 3, none⟩) hT (.bool b')).setCell (p := ⟨w2.heap.size, 4, none⟩) hT (.int .i64 y'))⟩
              case measure => simp [intOf]; omega
            · have t0 : w4.cell? ⟨w2.heap.size, 0, none⟩ = some (.int .i64 k) := T4.cell 0
              have g0 : w4.frozen? ⟨w2.heap.size, 0, none⟩ = false := T4.free 0
              have t1 : w4.cell? ⟨w2.heap.size, 1, none⟩ = some (.int .i64 o') := T4.cell 1
              have g1 : w4.frozen? ⟨w2.heap.size, 1, none⟩ = false := T4.free 1
              have t2 : w4.cell? ⟨w2.heap.size, 2, none⟩ = some (.bool false) := T4.cell 2
              have g2 : w4.frozen? ⟨w2.heap.size, 2, none⟩ = false := T4.free 2
              have t3 : w4.cell? ⟨w2.heap.size, 3, none⟩ = some (.bool true) := T4.cell 3
              have g3 : w4.frozen? ⟨w2.heap.size, 3, none⟩ = false := T4.free 3
              have t4 : w4.cell? ⟨w2.heap.size, 4, none⟩ = some (.int .i64 y) := T4.cell 4
              have g4 : w4.frozen? ⟨w2.heap.size, 4, none⟩ = false := T4.free 4
              have u0 : w4.cell? ⟨wr.heap.size, 0, none⟩ = some (.int .i64 k') := U4.cell 0
              have u1 : w4.cell? ⟨wr.heap.size, 1, none⟩ = some (.int .i64 o') := U4.cell 1
              have u2 : w4.cell? ⟨wr.heap.size, 2, none⟩ = some (.bool a') := U4.cell 2
              have u3 : w4.cell? ⟨wr.heap.size, 3, none⟩ = some (.bool b') := U4.cell 3
              have u4 : w4.cell? ⟨wr.heap.size, 4, none⟩ = some (.int .i64 y') := U4.cell 4
              go_wp2_with fail
              go_roundw
              case rel => exact ⟨j + 1, k', o', a', b', y', by omega, by go_num, (show Blk _ w2.heap.size 27 #[.int .i64 k', .int .i64 o', .bool a', .bool b', .int .i64 y'] from (((((T4.store 0 (.int .i64 k')).store 1 (.int .i64 o')).store 2 (.bool a')).store 3 (.bool b')).store 4 (.int .i64 y'))), hide HF.out.right, (((((hb4.setCell (p := ⟨w2.heap.size, 0, none⟩) hT (.int .i64 k')).setCell (p := ⟨w2.heap.size, 1, none⟩) hT (.int .i64 o')).setCell (p := ⟨w2.heap.size, 2, none⟩) hT (.bool a')).setCell (p := ⟨w2.heap.size, 3, none⟩) hT (.bool b')).setCell (p := ⟨w2.heap.size, 4, none⟩) hT (.int .i64 y'))⟩
              case measure => simp [intOf]; omega
            · have t0 : w4.cell? ⟨w2.heap.size, 0, none⟩ = some (.int .i64 k) := T4.cell 0
              have g0 : w4.frozen? ⟨w2.heap.size, 0, none⟩ = false := T4.free 0
              have t1 : w4.cell? ⟨w2.heap.size, 1, none⟩ = some (.int .i64 o') := T4.cell 1
              have g1 : w4.frozen? ⟨w2.heap.size, 1, none⟩ = false := T4.free 1
              have t2 : w4.cell? ⟨w2.heap.size, 2, none⟩ = some (.bool true) := T4.cell 2
              have g2 : w4.frozen? ⟨w2.heap.size, 2, none⟩ = false := T4.free 2
              have t3 : w4.cell? ⟨w2.heap.size, 3, none⟩ = some (.bool false) := T4.cell 3
              have g3 : w4.frozen? ⟨w2.heap.size, 3, none⟩ = false := T4.free 3
              have t4 : w4.cell? ⟨w2.heap.size, 4, none⟩ = some (.int .i64 y) := T4.cell 4
              have g4 : w4.frozen? ⟨w2.heap.size, 4, none⟩ = false := T4.free 4
              have u0 : w4.cell? ⟨wr.heap.size, 0, none⟩ = some (.int .i64 k') := U4.cell 0
              have u1 : w4.cell? ⟨wr.heap.size, 1, none⟩ = some (.int .i64 o') := U4.cell 1
              have u2 : w4.cell? ⟨wr.heap.size, 2, none⟩ = some (.bool a') := U4.cell 2
              have u3 : w4.cell? ⟨wr.heap.size, 3, none⟩ = some (.bool b') := U4.cell 3
              have u4 : w4.cell? ⟨wr.heap.size, 4, none⟩ = some (.int .i64 y') := U4.cell 4
              go_wp2_with fail
              go_roundw
              case rel => exact ⟨j + 1, k', o', a', b', y', by omega, by go_num, (show Blk _ w2.heap.size 27 #[.int .i64 k', .int .i64 o', .bool a', .bool b', .int .i64 y'] from (((((T4.store 0 (.int .i64 k')).store 1 (.int .i64 o')).store 2 (.bool a')).store 3 (.bool b')).store 4 (.int .i64 y'))), hide HF.out.right, (((((hb4.setCell (p := ⟨w2.heap.size, 0, none⟩) hT (.int .i64 k')).setCell (p := ⟨w2.heap.size, 1, none⟩) hT (.int .i64 o')).setCell (p := ⟨w2.heap.size, 2, none⟩) hT (.bool a')).setCell (p := ⟨w2.heap.size, 3, none⟩) hT (.bool b')).setCell (p := ⟨w2.heap.size, 4, none⟩) hT (.int .i64 y'))⟩
              case measure => simp [intOf]; omega
            · have t0 : w4.cell? ⟨w2.heap.size, 0, none⟩ = some (.int .i64 k) := T4.cell 0
              have g0 : w4.frozen? ⟨w2.heap.size, 0, none⟩ = false := T4.free 0
              have t1 : w4.cell? ⟨w2.heap.size, 1, none⟩ = some (.int .i64 o') := T4.cell 1
              have g1 : w4.frozen? ⟨w2.heap.size, 1, none⟩ = false := T4.free 1
              have t2 : w4.cell? ⟨w2.heap.size, 2, none⟩ = some (.bool true) := T4.cell 2
              have g2 : w4.frozen? ⟨w2.heap.size, 2, none⟩ = false := T4.free 2
              have t3 : w4.cell? ⟨w2.heap.size, 3, none⟩ = some (.bool true) := T4.cell 3
              have g3 : w4.frozen? ⟨w2.heap.size, 3, none⟩ = false := T4.free 3
              have t4 : w4.cell? ⟨w2.heap.size, 4, none⟩ = some (.int .i64 y) := T4.cell 4
              have g4 : w4.frozen? ⟨w2.heap.size, 4, none⟩ = false := T4.free 4
              have u0 : w4.cell? ⟨wr.heap.size, 0, none⟩ = some (.int .i64 k') := U4.cell 0
              have u1 : w4.cell? ⟨wr.heap.size, 1, none⟩ = some (.int .i64 o') := U4.cell 1
              have u2 : w4.cell? ⟨wr.heap.size, 2, none⟩ = some (.bool a') := U4.cell 2
              have u3 : w4.cell? ⟨wr.heap.size, 3, none⟩ = some (.bool b') := U4.cell 3
              have u4 : w4.cell? ⟨wr.heap.size, 4, none⟩ = some (.int .i64 y') := U4.cell 4
              go_wp2_with fail
              go_roundw
              case rel => exact ⟨j + 1, k', o', a', b', y', by omega, by go_num, (show Blk _ w2.heap.size 27 #[.int .i64 k', .int .i64 o', .bool a', .bool b', .int .i64 y'] from (((((T4.store 0 (.int .i64 k')).store 1 (.int .i64 o')).store 2 (.bool a')).store 3 (.bool b')).store 4 (.int .i64 y'))), hide HF.out.right, (((((hb4.setCell (p := ⟨w2.heap.size, 0, none⟩) hT (.int .i64 k')).setCell (p := ⟨w2.heap.size, 1, none⟩) hT (.int .i64 o')).setCell (p := ⟨w2.heap.size, 2, none⟩) hT (.bool a')).setCell (p := ⟨w2.heap.size, 3, none⟩) hT (.bool b')).setCell (p := ⟨w2.heap.size, 4, none⟩) hT (.int .i64 y'))⟩
              case measure => simp [intOf]; omega
      · have HM := hide trivial
        have hneg' : 0 ≤ l[j] := by omega
        clear hneg
        obtain ⟨⟨k', o', a', b', y'⟩, hs'⟩ : ∃ s : Stt, endsS k o a b y sd = s := ⟨_, rfl⟩
        have HF : Hid (Falls ⟨k, o, a, b, y⟩ ⟨k', o', a', b', y'⟩) := hide (by rw [← hs']; exact falls_ends HS.out HSD.out)
        have HCo : Hid (∀ w, Calls Try.prog 13 #[.agg #[.int .i64 k, .int .i64 o, .bool a, .bool b, .int .i64 y], .int .i64 sd] w fun e w' => e = .returned (.agg #[.int .i64 k', .int .i64 o', .bool a', .bool b', .int .i64 y']) ∧ Below w.heap.size w w') := hide fun w => by have h := ends_any k o a b y sd w; rw [hs'] at h; exact h
        clear hs'
        go_wp2_with fail
        refine (HCo.out _).mono ?_
        rintro e w3 ⟨rfl, hb⟩
        have hb3 := below_next1 hbel hb
        have T3 : Blk w3 w2.heap.size 27 #[.int .i64 k, .int .i64 o, .bool a, .bool b, .int .i64 y] := (BT.alloc _).kept hb
        have U3 : Blk w3 wr.heap.size 27 #[.int .i64 k, .int .i64 o, .bool a, .bool b, .int .i64 y] := (Blk.born _ _ _).kept hb
        clear hb t0 t1 t2 t3 t4 hc HCo
        have hU := U3.lt
        have t0 : w3.cell? ⟨w2.heap.size, 0, none⟩ = some (.int .i64 k) := T3.cell 0
        have t1 : w3.cell? ⟨w2.heap.size, 1, none⟩ = some (.int .i64 o) := T3.cell 1
        have t2 : w3.cell? ⟨w2.heap.size, 2, none⟩ = some (.bool a) := T3.cell 2
        have t3 : w3.cell? ⟨w2.heap.size, 3, none⟩ = some (.bool b) := T3.cell 3
        have t4 : w3.cell? ⟨w2.heap.size, 4, none⟩ = some (.int .i64 y) := T3.cell 4
        have u0 : w3.cell? ⟨wr.heap.size, 0, none⟩ = some (.int .i64 k) := U3.cell 0
        have u1 : w3.cell? ⟨wr.heap.size, 1, none⟩ = some (.int .i64 o) := U3.cell 1
        have u2 : w3.cell? ⟨wr.heap.size, 2, none⟩ = some (.bool a) := U3.cell 2
        have u3 : w3.cell? ⟨wr.heap.size, 3, none⟩ = some (.bool b) := U3.cell 3
        have u4 : w3.cell? ⟨wr.heap.size, 4, none⟩ = some (.int .i64 y) := U3.cell 4
        have f0 : w3.frozen? ⟨wr.heap.size, 0, none⟩ = false := U3.free 0
        have f1 : w3.frozen? ⟨wr.heap.size, 1, none⟩ = false := U3.free 1
        have f2 : w3.frozen? ⟨wr.heap.size, 2, none⟩ = false := U3.free 2
        have f3 : w3.frozen? ⟨wr.heap.size, 3, none⟩ = false := U3.free 3
        have f4 : w3.frozen? ⟨wr.heap.size, 4, none⟩ = false := U3.free 4
        go_wp2_with fail
        refine (right_any k' o' a' b' y' _ true HF.out.right).mono ?_
        rintro e w4 ⟨rfl, hb⟩
        have U4 : Blk w4 wr.heap.size 27 #[.int .i64 k', .int .i64 o', .bool a', .bool b', .int .i64 y'] := (show Blk _ wr.heap.size 27 #[.int .i64 k', .int .i64 o', .bool a', .bool b', .int .i64 y'] from (((((U3.store 0 (.int .i64 k')).store 1 (.int .i64 o')).store 2 (.bool a')).store 3 (.bool b')).store 4 (.int .i64 y'))).kept hb
        have T4 : Blk w4 w2.heap.size 27 #[.int .i64 k, .int .i64 o, .bool a, .bool b, .int .i64 y] := (((((T3.aside (p := ⟨wr.heap.size, 0, none⟩) (Nat.ne_of_lt hlt2) (.int .i64 k')).aside (p := ⟨wr.heap.size, 1, none⟩) (Nat.ne_of_lt hlt2) (.int .i64 o')).aside (p := ⟨wr.heap.size, 2, none⟩) (Nat.ne_of_lt hlt2) (.bool a')).aside (p := ⟨wr.heap.size, 3, none⟩) (Nat.ne_of_lt hlt2) (.bool b')).aside (p := ⟨wr.heap.size, 4, none⟩) (Nat.ne_of_lt hlt2) (.int .i64 y')).kept hb
        have hb4 := below_nextB (((((hb3.setCell (p := ⟨wr.heap.size, 0, none⟩) hbel.size (.int .i64 k')).setCell (p := ⟨wr.heap.size, 1, none⟩) hbel.size (.int .i64 o')).setCell (p := ⟨wr.heap.size, 2, none⟩) hbel.size (.bool a')).setCell (p := ⟨wr.heap.size, 3, none⟩) hbel.size (.bool b')).setCell (p := ⟨wr.heap.size, 4, none⟩) hbel.size (.int .i64 y')) (by have := hb3.size; simp [World.setCell]; omega) hb
        clear hb t0 u0 f0 t1 u1 f1 t2 u2 f2 t3 u3 f3 t4 u4 f4 T3 U3 hb3
        by_cases h4 : k = 4
        · have he := HF.out.same h4
          injection he with e1 e2 e3 e4 e5
          subst e1 e2 e3 e4 e5
          have hab : a' = false ∧ b' = false := by
            have := HS.out
            rw [h4] at this
            cases a' <;> cases b' <;> simp [rightS] at this ⊢
          obtain ⟨rfl, rfl⟩ := hab
          have e4 : (k' == 4) = true := by simpa using h4
          have ek : (k' == 3) = false := by simp; omega
          clear h4
          have t0 : w4.cell? ⟨w2.heap.size, 0, none⟩ = some (.int .i64 k') := T4.cell 0
          have g0 : w4.frozen? ⟨w2.heap.size, 0, none⟩ = false := T4.free 0
          have t1 : w4.cell? ⟨w2.heap.size, 1, none⟩ = some (.int .i64 o') := T4.cell 1
          have g1 : w4.frozen? ⟨w2.heap.size, 1, none⟩ = false := T4.free 1
          have t2 : w4.cell? ⟨w2.heap.size, 2, none⟩ = some (.bool false) := T4.cell 2
          have g2 : w4.frozen? ⟨w2.heap.size, 2, none⟩ = false := T4.free 2
          have t3 : w4.cell? ⟨w2.heap.size, 3, none⟩ = some (.bool false) := T4.cell 3
          have g3 : w4.frozen? ⟨w2.heap.size, 3, none⟩ = false := T4.free 3
          have t4 : w4.cell? ⟨w2.heap.size, 4, none⟩ = some (.int .i64 y') := T4.cell 4
          have g4 : w4.frozen? ⟨w2.heap.size, 4, none⟩ = false := T4.free 4
          have u0 : w4.cell? ⟨wr.heap.size, 0, none⟩ = some (.int .i64 k') := U4.cell 0
          have u1 : w4.cell? ⟨wr.heap.size, 1, none⟩ = some (.int .i64 o') := U4.cell 1
          have u2 : w4.cell? ⟨wr.heap.size, 2, none⟩ = some (.bool false) := U4.cell 2
          have u3 : w4.cell? ⟨wr.heap.size, 3, none⟩ = some (.bool false) := U4.cell 3
          have u4 : w4.cell? ⟨wr.heap.size, 4, none⟩ = some (.int .i64 y') := U4.cell 4
          go_wp2_with fail
          go_roundw
          case rel => exact ⟨j + 1, k', o', false, false, y', by omega, by go_num, (show Blk _ w2.heap.size 27 #[.int .i64 k', .int .i64 o', .bool false, .bool false, .int .i64 y'] from (((((T4.store 0 (.int .i64 k')).store 1 (.int .i64 o')).store 2 (.bool false)).store 3 (.bool false)).store 4 (.int .i64 y'))), hide HF.out.right, (((((hb4.setCell (p := ⟨w2.heap.size, 0, none⟩) hT (.int .i64 k')).setCell (p := ⟨w2.heap.size, 1, none⟩) hT (.int .i64 o')).setCell (p := ⟨w2.heap.size, 2, none⟩) hT (.bool false)).setCell (p := ⟨w2.heap.size, 3, none⟩) hT (.bool false)).setCell (p := ⟨w2.heap.size, 4, none⟩) hT (.int .i64 y'))⟩
          case measure => simp [intOf]; omega
        · have ho := HF.out.owner
          simp only at ho
          subst ho
          have e4 : (k == 4) = false := by simpa using h4
          have hkk : k ≤ k' := HF.out.kind
          clear h4
          by_cases h3 : k' = 3
          · have e3 : (k' == 3) = true := by simpa using h3
            have H3 := hide h3
            clear h3
            cases a <;> cases b
            · have t0 : w4.cell? ⟨w2.heap.size, 0, none⟩ = some (.int .i64 k) := T4.cell 0
              have g0 : w4.frozen? ⟨w2.heap.size, 0, none⟩ = false := T4.free 0
              have t1 : w4.cell? ⟨w2.heap.size, 1, none⟩ = some (.int .i64 o') := T4.cell 1
              have g1 : w4.frozen? ⟨w2.heap.size, 1, none⟩ = false := T4.free 1
              have t2 : w4.cell? ⟨w2.heap.size, 2, none⟩ = some (.bool false) := T4.cell 2
              have g2 : w4.frozen? ⟨w2.heap.size, 2, none⟩ = false := T4.free 2
              have t3 : w4.cell? ⟨w2.heap.size, 3, none⟩ = some (.bool false) := T4.cell 3
              have g3 : w4.frozen? ⟨w2.heap.size, 3, none⟩ = false := T4.free 3
              have t4 : w4.cell? ⟨w2.heap.size, 4, none⟩ = some (.int .i64 y) := T4.cell 4
              have g4 : w4.frozen? ⟨w2.heap.size, 4, none⟩ = false := T4.free 4
              have u0 : w4.cell? ⟨wr.heap.size, 0, none⟩ = some (.int .i64 k') := U4.cell 0
              have u1 : w4.cell? ⟨wr.heap.size, 1, none⟩ = some (.int .i64 o') := U4.cell 1
              have u2 : w4.cell? ⟨wr.heap.size, 2, none⟩ = some (.bool a') := U4.cell 2
              have u3 : w4.cell? ⟨wr.heap.size, 3, none⟩ = some (.bool b') := U4.cell 3
              have u4 : w4.cell? ⟨wr.heap.size, 4, none⟩ = some (.int .i64 y') := U4.cell 4
              go_wp2_with fail
              go_roundw
              case rel => exact ⟨j + 1, k', o', a', b', y', by omega, by go_num, (show Blk _ w2.heap.size 27 #[.int .i64 k', .int .i64 o', .bool a', .bool b', .int .i64 y'] from (((((T4.store 0 (.int .i64 k')).store 1 (.int .i64 o')).store 2 (.bool a')).store 3 (.bool b')).store 4 (.int .i64 y'))), hide HF.out.right, (((((hb4.setCell (p := ⟨w2.heap.size, 0, none⟩) hT (.int .i64 k')).setCell (p := ⟨w2.heap.size, 1, none⟩) hT (.int .i64 o')).setCell (p := ⟨w2.heap.size, 2, none⟩) hT (.bool a')).setCell (p := ⟨w2.heap.size, 3, none⟩) hT (.bool b')).setCell (p := ⟨w2.heap.size, 4, none⟩) hT (.int .i64 y'))⟩
              case measure => simp [intOf]; omega
            · obtain rfl : b' = true := HF.out.b rfl H3.out
              have t0 : w4.cell? ⟨w2.heap.size, 0, none⟩ = some (.int .i64 k) := T4.cell 0
              have g0 : w4.frozen? ⟨w2.heap.size, 0, none⟩ = false := T4.free 0
              have t1 : w4.cell? ⟨w2.heap.size, 1, none⟩ = some (.int .i64 o') := T4.cell 1
              have g1 : w4.frozen? ⟨w2.heap.size, 1, none⟩ = false := T4.free 1
              have t2 : w4.cell? ⟨w2.heap.size, 2, none⟩ = some (.bool false) := T4.cell 2
              have g2 : w4.frozen? ⟨w2.heap.size, 2, none⟩ = false := T4.free 2
              have t3 : w4.cell? ⟨w2.heap.size, 3, none⟩ = some (.bool true) := T4.cell 3
              have g3 : w4.frozen? ⟨w2.heap.size, 3, none⟩ = false := T4.free 3
              have t4 : w4.cell? ⟨w2.heap.size, 4, none⟩ = some (.int .i64 y) := T4.cell 4
              have g4 : w4.frozen? ⟨w2.heap.size, 4, none⟩ = false := T4.free 4
              have u0 : w4.cell? ⟨wr.heap.size, 0, none⟩ = some (.int .i64 k') := U4.cell 0
              have u1 : w4.cell? ⟨wr.heap.size, 1, none⟩ = some (.int .i64 o') := U4.cell 1
              have u2 : w4.cell? ⟨wr.heap.size, 2, none⟩ = some (.bool a') := U4.cell 2
              have u3 : w4.cell? ⟨wr.heap.size, 3, none⟩ = some (.bool true) := U4.cell 3
              have u4 : w4.cell? ⟨wr.heap.size, 4, none⟩ = some (.int .i64 y') := U4.cell 4
              go_wp2_with fail
              go_roundw
              case rel => exact ⟨j + 1, k', o', a', true, y', by omega, by go_num, (show Blk _ w2.heap.size 27 #[.int .i64 k', .int .i64 o', .bool a', .bool true, .int .i64 y'] from (((((T4.store 0 (.int .i64 k')).store 1 (.int .i64 o')).store 2 (.bool a')).store 3 (.bool true)).store 4 (.int .i64 y'))), hide HF.out.right, (((((hb4.setCell (p := ⟨w2.heap.size, 0, none⟩) hT (.int .i64 k')).setCell (p := ⟨w2.heap.size, 1, none⟩) hT (.int .i64 o')).setCell (p := ⟨w2.heap.size, 2, none⟩) hT (.bool a')).setCell (p := ⟨w2.heap.size, 3, none⟩) hT (.bool true)).setCell (p := ⟨w2.heap.size, 4, none⟩) hT (.int .i64 y'))⟩
              case measure => simp [intOf]; omega
            · obtain rfl : a' = true := HF.out.a rfl H3.out
              have t0 : w4.cell? ⟨w2.heap.size, 0, none⟩ = some (.int .i64 k) := T4.cell 0
              have g0 : w4.frozen? ⟨w2.heap.size, 0, none⟩ = false := T4.free 0
              have t1 : w4.cell? ⟨w2.heap.size, 1, none⟩ = some (.int .i64 o') := T4.cell 1
              have g1 : w4.frozen? ⟨w2.heap.size, 1, none⟩ = false := T4.free 1
              have t2 : w4.cell? ⟨w2.heap.size, 2, none⟩ = some (.bool true) := T4.cell 2
              have g2 : w4.frozen? ⟨w2.heap.size, 2, none⟩ = false := T4.free 2
              have t3 : w4.cell? ⟨w2.heap.size, 3, none⟩ = some (.bool false) := T4.cell 3
              have g3 : w4.frozen? ⟨w2.heap.size, 3, none⟩ = false := T4.free 3
              have t4 : w4.cell? ⟨w2.heap.size, 4, none⟩ = some (.int .i64 y) := T4.cell 4
              have g4 : w4.frozen? ⟨w2.heap.size, 4, none⟩ = false := T4.free 4
              have u0 : w4.cell? ⟨wr.heap.size, 0, none⟩ = some (.int .i64 k') := U4.cell 0
              have u1 : w4.cell? ⟨wr.heap.size, 1, none⟩ = some (.int .i64 o') := U4.cell 1
              have u2 : w4.cell? ⟨wr.heap.size, 2, none⟩ = some (.bool true) := U4.cell 2
              have u3 : w4.cell? ⟨wr.heap.size, 3, none⟩ = some (.bool b') := U4.cell 3
              have u4 : w4.cell? ⟨wr.heap.size, 4, none⟩ = some (.int .i64 y') := U4.cell 4
              go_wp2_with fail
              go_roundw
              case rel => exact ⟨j + 1, k', o', true, b', y', by omega, by go_num, (show Blk _ w2.heap.size 27 #[.int .i64 k', .int .i64 o', .bool true, .bool b', .int .i64 y'] from (((((T4.store 0 (.int .i64 k')).store 1 (.int .i64 o')).store 2 (.bool true)).store 3 (.bool b')).store 4 (.int .i64 y'))), hide HF.out.right, (((((hb4.setCell (p := ⟨w2.heap.size, 0, none⟩) hT (.int .i64 k')).setCell (p := ⟨w2.heap.size, 1, none⟩) hT (.int .i64 o')).setCell (p := ⟨w2.heap.size, 2, none⟩) hT (.bool true)).setCell (p := ⟨w2.heap.size, 3, none⟩) hT (.bool b')).setCell (p := ⟨w2.heap.size, 4, none⟩) hT (.int .i64 y'))⟩
              case measure => simp [intOf]; omega
            · obtain rfl : a' = true := HF.out.a rfl H3.out
              obtain rfl : b' = true := HF.out.b rfl H3.out
              have t0 : w4.cell? ⟨w2.heap.size, 0, none⟩ = some (.int .i64 k) := T4.cell 0
              have g0 : w4.frozen? ⟨w2.heap.size, 0, none⟩ = false := T4.free 0
              have t1 : w4.cell? ⟨w2.heap.size, 1, none⟩ = some (.int .i64 o') := T4.cell 1
              have g1 : w4.frozen? ⟨w2.heap.size, 1, none⟩ = false := T4.free 1
              have t2 : w4.cell? ⟨w2.heap.size, 2, none⟩ = some (.bool true) := T4.cell 2
              have g2 : w4.frozen? ⟨w2.heap.size, 2, none⟩ = false := T4.free 2
              have t3 : w4.cell? ⟨w2.heap.size, 3, none⟩ = some (.bool true) := T4.cell 3
              have g3 : w4.frozen? ⟨w2.heap.size, 3, none⟩ = false := T4.free 3
              have t4 : w4.cell? ⟨w2.heap.size, 4, none⟩ = some (.int .i64 y) := T4.cell 4
              have g4 : w4.frozen? ⟨w2.heap.size, 4, none⟩ = false := T4.free 4
              have u0 : w4.cell? ⟨wr.heap.size, 0, none⟩ = some (.int .i64 k') := U4.cell 0
              have u1 : w4.cell? ⟨wr.heap.size, 1, none⟩ = some (.int .i64 o') := U4.cell 1
              have u2 : w4.cell? ⟨wr.heap.size, 2, none⟩ = some (.bool true) := U4.cell 2
              have u3 : w4.cell? ⟨wr.heap.size, 3, none⟩ = some (.bool true) := U4.cell 3
              have u4 : w4.cell? ⟨wr.heap.size, 4, none⟩ = some (.int .i64 y') := U4.cell 4
              go_wp2_with fail
              go_roundw
              case rel => exact ⟨j + 1, k', o', true, true, y', by omega, by go_num, (show Blk _ w2.heap.size 27 #[.int .i64 k', .int .i64 o', .bool true, .bool true, .int .i64 y'] from (((((T4.store 0 (.int .i64 k')).store 1 (.int .i64 o')).store 2 (.bool true)).store 3 (.bool true)).store 4 (.int .i64 y'))), hide HF.out.right, (((((hb4.setCell (p := ⟨w2.heap.size, 0, none⟩) hT (.int .i64 k')).setCell (p := ⟨w2.heap.size, 1, none⟩) hT (.int .i64 o')).setCell (p := ⟨w2.heap.size, 2, none⟩) hT (.bool true)).setCell (p := ⟨w2.heap.size, 3, none⟩) hT (.bool true)).setCell (p := ⟨w2.heap.size, 4, none⟩) hT (.int .i64 y'))⟩
              case measure => simp [intOf]; omega
          · have e3 : (k' == 3) = false := by simpa using h3
            clear h3
            cases a <;> cases b
            · have t0 : w4.cell? ⟨w2.heap.size, 0, none⟩ = some (.int .i64 k) := T4.cell 0
              have g0 : w4.frozen? ⟨w2.heap.size, 0, none⟩ = false := T4.free 0
              have t1 : w4.cell? ⟨w2.heap.size, 1, none⟩ = some (.int .i64 o') := T4.cell 1
              have g1 : w4.frozen? ⟨w2.heap.size, 1, none⟩ = false := T4.free 1
              have t2 : w4.cell? ⟨w2.heap.size, 2, none⟩ = some (.bool false) := T4.cell 2
              have g2 : w4.frozen? ⟨w2.heap.size, 2, none⟩ = false := T4.free 2
              have t3 : w4.cell? ⟨w2.heap.size, 3, none⟩ = some (.bool false) := T4.cell 3
              have g3 : w4.frozen? ⟨w2.heap.size, 3, none⟩ = false := T4.free 3
              have t4 : w4.cell? ⟨w2.heap.size, 4, none⟩ = some (.int .i64 y) := T4.cell 4
              have g4 : w4.frozen? ⟨w2.heap.size, 4, none⟩ = false := T4.free 4
              have u0 : w4.cell? ⟨wr.heap.size, 0, none⟩ = some (.int .i64 k') := U4.cell 0
              have u1 : w4.cell? ⟨wr.heap.size, 1, none⟩ = some (.int .i64 o') := U4.cell 1
              have u2 : w4.cell? ⟨wr.heap.size, 2, none⟩ = some (.bool a') := U4.cell 2
              have u3 : w4.cell? ⟨wr.heap.size, 3, none⟩ = some (.bool b') := U4.cell 3
              have u4 : w4.cell? ⟨wr.heap.size, 4, none⟩ = some (.int .i64 y') := U4.cell 4
              go_wp2_with fail
              go_roundw
              case rel => exact ⟨j + 1, k', o', a', b', y', by omega, by go_num, (show Blk _ w2.heap.size 27 #[.int .i64 k', .int .i64 o', .bool a', .bool b', .int .i64 y'] from (((((T4.store 0 (.int .i64 k')).store 1 (.int .i64 o')).store 2 (.bool a')).store 3 (.bool b')).store 4 (.int .i64 y'))), hide HF.out.right, (((((hb4.setCell (p := ⟨w2.heap.size, 0, none⟩) hT (.int .i64 k')).setCell (p := ⟨w2.heap.size, 1, none⟩) hT (.int .i64 o')).setCell (p := ⟨w2.heap.size, 2, none⟩) hT (.bool a')).setCell (p := ⟨w2.heap.size, 3, none⟩) hT (.bool b')).setCell (p := ⟨w2.heap.size, 4, none⟩) hT (.int .i64 y'))⟩
              case measure => simp [intOf]; omega
            · have t0 : w4.cell? ⟨w2.heap.size, 0, none⟩ = some (.int .i64 k) := T4.cell 0
              have g0 : w4.frozen? ⟨w2.heap.size, 0, none⟩ = false := T4.free 0
              have t1 : w4.cell? ⟨w2.heap.size, 1, none⟩ = some (.int .i64 o') := T4.cell 1
              have g1 : w4.frozen? ⟨w2.heap.size, 1, none⟩ = false := T4.free 1
              have t2 : w4.cell? ⟨w2.heap.size, 2, none⟩ = some (.bool false) := T4.cell 2
              have g2 : w4.frozen? ⟨w2.heap.size, 2, none⟩ = false := T4.free 2
              have t3 : w4.cell? ⟨w2.heap.size, 3, none⟩ = some (.bool true) := T4.cell 3
              have g3 : w4.frozen? ⟨w2.heap.size, 3, none⟩ = false := T4.free 3
              have t4 : w4.cell? ⟨w2.heap.size, 4, none⟩ = some (.int .i64 y) := T4.cell 4
              have g4 : w4.frozen? ⟨w2.heap.size, 4, none⟩ = false := T4.free 4
              have u0 : w4.cell? ⟨wr.heap.size, 0, none⟩ = some (.int .i64 k') := U4.cell 0
              have u1 : w4.cell? ⟨wr.heap.size, 1, none⟩ = some (.int .i64 o') := U4.cell 1
              have u2 : w4.cell? ⟨wr.heap.size, 2, none⟩ = some (.bool a') := U4.cell 2
              have u3 : w4.cell? ⟨wr.heap.size, 3, none⟩ = some (.bool b') := U4.cell 3
              have u4 : w4.cell? ⟨wr.heap.size, 4, none⟩ = some (.int .i64 y') := U4.cell 4
              go_wp2_with fail
              go_roundw
              case rel => exact ⟨j + 1, k', o', a', b', y', by omega, by go_num, (show Blk _ w2.heap.size 27 #[.int .i64 k', .int .i64 o', .bool a', .bool b', .int .i64 y'] from (((((T4.store 0 (.int .i64 k')).store 1 (.int .i64 o')).store 2 (.bool a')).store 3 (.bool b')).store 4 (.int .i64 y'))), hide HF.out.right, (((((hb4.setCell (p := ⟨w2.heap.size, 0, none⟩) hT (.int .i64 k')).setCell (p := ⟨w2.heap.size, 1, none⟩) hT (.int .i64 o')).setCell (p := ⟨w2.heap.size, 2, none⟩) hT (.bool a')).setCell (p := ⟨w2.heap.size, 3, none⟩) hT (.bool b')).setCell (p := ⟨w2.heap.size, 4, none⟩) hT (.int .i64 y'))⟩
              case measure => simp [intOf]; omega
            · have t0 : w4.cell? ⟨w2.heap.size, 0, none⟩ = some (.int .i64 k) := T4.cell 0
              have g0 : w4.frozen? ⟨w2.heap.size, 0, none⟩ = false := T4.free 0
              have t1 : w4.cell? ⟨w2.heap.size, 1, none⟩ = some (.int .i64 o') := T4.cell 1
              have g1 : w4.frozen? ⟨w2.heap.size, 1, none⟩ = false := T4.free 1
              have t2 : w4.cell? ⟨w2.heap.size, 2, none⟩ = some (.bool true) := T4.cell 2
              have g2 : w4.frozen? ⟨w2.heap.size, 2, none⟩ = false := T4.free 2
              have t3 : w4.cell? ⟨w2.heap.size, 3, none⟩ = some (.bool false) := T4.cell 3
              have g3 : w4.frozen? ⟨w2.heap.size, 3, none⟩ = false := T4.free 3
              have t4 : w4.cell? ⟨w2.heap.size, 4, none⟩ = some (.int .i64 y) := T4.cell 4
              have g4 : w4.frozen? ⟨w2.heap.size, 4, none⟩ = false := T4.free 4
              have u0 : w4.cell? ⟨wr.heap.size, 0, none⟩ = some (.int .i64 k') := U4.cell 0
              have u1 : w4.cell? ⟨wr.heap.size, 1, none⟩ = some (.int .i64 o') := U4.cell 1
              have u2 : w4.cell? ⟨wr.heap.size, 2, none⟩ = some (.bool a') := U4.cell 2
              have u3 : w4.cell? ⟨wr.heap.size, 3, none⟩ = some (.bool b') := U4.cell 3
              have u4 : w4.cell? ⟨wr.heap.size, 4, none⟩ = some (.int .i64 y') := U4.cell 4
              go_wp2_with fail
              go_roundw
              case rel => exact ⟨j + 1, k', o', a', b', y', by omega, by go_num, (show Blk _ w2.heap.size 27 #[.int .i64 k', .int .i64 o', .bool a', .bool b', .int .i64 y'] from (((((T4.store 0 (.int .i64 k')).store 1 (.int .i64 o')).store 2 (.bool a')).store 3 (.bool b')).store 4 (.int .i64 y'))), hide HF.out.right, (((((hb4.setCell (p := ⟨w2.heap.size, 0, none⟩) hT (.int .i64 k')).setCell (p := ⟨w2.heap.size, 1, none⟩) hT (.int .i64 o')).setCell (p := ⟨w2.heap.size, 2, none⟩) hT (.bool a')).setCell (p := ⟨w2.heap.size, 3, none⟩) hT (.bool b')).setCell (p := ⟨w2.heap.size, 4, none⟩) hT (.int .i64 y'))⟩
              case measure => simp [intOf]; omega
            · have t0 : w4.cell? ⟨w2.heap.size, 0, none⟩ = some (.int .i64 k) := T4.cell 0
              have g0 : w4.frozen? ⟨w2.heap.size, 0, none⟩ = false := T4.free 0
              have t1 : w4.cell? ⟨w2.heap.size, 1, none⟩ = some (.int .i64 o') := T4.cell 1
              have g1 : w4.frozen? ⟨w2.heap.size, 1, none⟩ = false := T4.free 1
              have t2 : w4.cell? ⟨w2.heap.size, 2, none⟩ = some (.bool true) := T4.cell 2
              have g2 : w4.frozen? ⟨w2.heap.size, 2, none⟩ = false := T4.free 2
              have t3 : w4.cell? ⟨w2.heap.size, 3, none⟩ = some (.bool true) := T4.cell 3
              have g3 : w4.frozen? ⟨w2.heap.size, 3, none⟩ = false := T4.free 3
              have t4 : w4.cell? ⟨w2.heap.size, 4, none⟩ = some (.int .i64 y) := T4.cell 4
              have g4 : w4.frozen? ⟨w2.heap.size, 4, none⟩ = false := T4.free 4
              have u0 : w4.cell? ⟨wr.heap.size, 0, none⟩ = some (.int .i64 k') := U4.cell 0
              have u1 : w4.cell? ⟨wr.heap.size, 1, none⟩ = some (.int .i64 o') := U4.cell 1
              have u2 : w4.cell? ⟨wr.heap.size, 2, none⟩ = some (.bool a') := U4.cell 2
              have u3 : w4.cell? ⟨wr.heap.size, 3, none⟩ = some (.bool b') := U4.cell 3
              have u4 : w4.cell? ⟨wr.heap.size, 4, none⟩ = some (.int .i64 y') := U4.cell 4
              go_wp2_with fail
              go_roundw
              case rel => exact ⟨j + 1, k', o', a', b', y', by omega, by go_num, (show Blk _ w2.heap.size 27 #[.int .i64 k', .int .i64 o', .bool a', .bool b', .int .i64 y'] from (((((T4.store 0 (.int .i64 k')).store 1 (.int .i64 o')).store 2 (.bool a')).store 3 (.bool b')).store 4 (.int .i64 y'))), hide HF.out.right, (((((hb4.setCell (p := ⟨w2.heap.size, 0, none⟩) hT (.int .i64 k')).setCell (p := ⟨w2.heap.size, 1, none⟩) hT (.int .i64 o')).setCell (p := ⟨w2.heap.size, 2, none⟩) hT (.bool a')).setCell (p := ⟨w2.heap.size, 3, none⟩) hT (.bool b')).setCell (p := ⟨w2.heap.size, 4, none⟩) hT (.int .i64 y'))⟩
              case measure => simp [intOf]; omega
    · go_wp2_with fail
      refine (alive_any _).mono ?_
      rintro e w3 ⟨rfl, hb⟩
      go_wp2_with fail
      go_ret
      exact ⟨rfl, below_next hbel hb⟩
end Go.Proofs.Ytohkholbaidjlaa
