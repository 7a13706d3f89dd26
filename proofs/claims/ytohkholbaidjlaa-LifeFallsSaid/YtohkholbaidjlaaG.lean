/- The chapter's example; the walk of LifeGoes. -/
import Derived.Test.YtohkholbaidjlaaN
namespace Go.Proofs.Ytohkholbaidjlaa
open Go.RowKit

theorem stt_eq (s t : Stt) (w : World) : (binOp .eql 27 s.v t.v).run Try.prog w = .ok (.bool (eqS s.k s.o s.a s.b s.y t.k t.o t.a t.b t.y)) w := st_eq ..
theorem eqS_self (k o y : Int) (a b : Bool) : eqS k o a b y k o a b y = true := by simp [eqS]
theorem stt_self (s : Stt) (w : World) : (binOp .eql 27 s.v s.v).run Try.prog w = .ok (.bool true) w := by rw [stt_eq, eqS_self]
theorem st_self (k o y : Int) (a b : Bool) (w : World) : (binOp .eql 27 (.agg #[.int .i64 k, .int .i64 o, .bool a, .bool b, .int .i64 y]) (.agg #[.int .i64 k, .int .i64 o, .bool a, .bool b, .int .i64 y])).run Try.prog w = .ok (.bool true) w := by rw [st_eq, eqS_self]
theorem own_v (s : Stt) (w : World) : Calls Try.prog 8 #[s.v] w fun e w' => e = .returned s.v ∧ Below w.heap.size w w' := own_any s.k s.o s.a s.b s.y w

theorem alive_any (w : World) : Calls Try.prog 12 #[] w fun e w' => e = .returned (.bool true) ∧ Below w.heap.size w w' := by
  have heq := @st_eq
  go_enter Try.func12, Try.ntmps12
  go_wp2_with fail
  refine (ask_right 3 0 0 0 1 true false false _ (by decide) (by decide)).mono ?_
  rintro e w1 ⟨rfl, hb⟩
  have hb1 := below_base1 hb
  have B1 : Blk w1 w.heap.size 27 #[.int .i64 3, .int .i64 0, .bool true, .bool false, .int .i64 0] := (Blk.born _ _ _).kept hb
  clear hb
  have e1 : (askS 3 0 true false 0 0 1 false).1 = 3 := by decide
  have e2 : (askS 3 0 true false 0 0 1 false).2 = 13 := by decide
  rw [e1, e2]
  clear e1 e2
  have c0 : w1.cell? ⟨w.heap.size, 0, none⟩ = some (.int .i64 3) := B1.cell 0
  have c1 : w1.cell? ⟨w.heap.size, 1, none⟩ = some (.int .i64 0) := B1.cell 1
  have c2 : w1.cell? ⟨w.heap.size, 2, none⟩ = some (.bool true) := B1.cell 2
  have c3 : w1.cell? ⟨w.heap.size, 3, none⟩ = some (.bool false) := B1.cell 3
  have c4 : w1.cell? ⟨w.heap.size, 4, none⟩ = some (.int .i64 0) := B1.cell 4
  go_wp2_with fail
  refine (ask_right 3 0 0 1 1 true false false _ (by decide) (by decide)).mono ?_
  rintro e w2 ⟨rfl, hb⟩
  have hb2 := below_next hb1 hb
  have B2 := B1.kept hb
  clear hb c0 c1 c2 c3 c4
  have e1 : (askS 3 0 true false 0 1 1 false).1 = 1 := by decide
  have e2 : (askS 3 0 true false 0 1 1 false).2 = 0 := by decide
  rw [e1, e2]
  clear e1 e2
  have c0 : w2.cell? ⟨w.heap.size, 0, none⟩ = some (.int .i64 3) := B2.cell 0
  have c1 : w2.cell? ⟨w.heap.size, 1, none⟩ = some (.int .i64 0) := B2.cell 1
  have c2 : w2.cell? ⟨w.heap.size, 2, none⟩ = some (.bool true) := B2.cell 2
  have c3 : w2.cell? ⟨w.heap.size, 3, none⟩ = some (.bool false) := B2.cell 3
  have c4 : w2.cell? ⟨w.heap.size, 4, none⟩ = some (.int .i64 0) := B2.cell 4
  go_wp2_with fail
  refine (ends_any 3 0 true false 0 1 _).mono ?_
  rintro e w3 ⟨rfl, hb⟩
  have hb3 := below_next hb2 hb
  have e3 : (endsS 3 0 true false 0 1).v = .agg #[.int .i64 4, .int .i64 0, .bool false, .bool false, .int .i64 2] := by simp [endsS, sid, Stt.v]
  rw [e3]
  clear e3 hb
  have e4 := eqS_self 4 0 2 false false
  go_wp2_with fail
  go_ret
  exact ⟨rfl, hb3⟩

set_option maxHeartbeats 1000000 in
theorem goes_any (k o : Int) (a b : Bool) (y side : Int) (w : World) :
    Calls Try.prog 5 #[.agg #[.int .i64 k, .int .i64 o, .bool a, .bool b, .int .i64 y], .int .i64 side] w fun e w' => e = .returned (.bool true) ∧ Below w.heap.size w w' := by
  have heq := st_self
  obtain ⟨⟨k1, o1, a1, b1, y1⟩, h1⟩ : ∃ s : Stt, endsS k o a b y side = s := ⟨_, rfl⟩
  obtain ⟨⟨k2, o2, a2, b2, y2⟩, h2⟩ : ∃ s : Stt, resetsS k o a b y side = s := ⟨_, rfl⟩
  have H1 : Hid (∀ w, Calls Try.prog 13 #[.agg #[.int .i64 k, .int .i64 o, .bool a, .bool b, .int .i64 y], .int .i64 side] w fun e w' => e = .returned (.agg #[.int .i64 k1, .int .i64 o1, .bool a1, .bool b1, .int .i64 y1]) ∧ Below w.heap.size w w') := hide fun w => by have h := ends_any k o a b y side w; rw [h1] at h; exact h
  have H2 : Hid (∀ w, Calls Try.prog 14 #[.agg #[.int .i64 k, .int .i64 o, .bool a, .bool b, .int .i64 y], .int .i64 side] w fun e w' => e = .returned (.agg #[.int .i64 k1, .int .i64 o1, .bool a1, .bool b1, .int .i64 y1]) ∧ Below w.heap.size w w') := hide fun w => by have h := rends_any k o a b y side w; rw [h1] at h; exact h
  have H3 : Hid (∀ w, Calls Try.prog 15 #[.agg #[.int .i64 k, .int .i64 o, .bool a, .bool b, .int .i64 y], .int .i64 side] w fun e w' => e = .returned (.agg #[.int .i64 k2, .int .i64 o2, .bool a2, .bool b2, .int .i64 y2]) ∧ Below w.heap.size w w') := hide fun w => by have h := resets_any k o a b y side w; rw [h2] at h; exact h
  have H4 : Hid (∀ w, Calls Try.prog 16 #[.agg #[.int .i64 k, .int .i64 o, .bool a, .bool b, .int .i64 y], .int .i64 side] w fun e w' => e = .returned (.agg #[.int .i64 k2, .int .i64 o2, .bool a2, .bool b2, .int .i64 y2]) ∧ Below w.heap.size w w') := hide fun w => by have h := rresets_any k o a b y side w; rw [h2] at h; exact h
  clear h1 h2
  go_enter Try.func5, Try.ntmps5
  go_wp2_with fail
  have B0 := Blk.born w 24 #[.int .i64 k, .int .i64 o, .bool a, .bool b, .int .i64 y]
  have HC : Hid (∀ wq, Below (w.alloc (.cells #[.int .i64 k, .int .i64 o, .bool a, .bool b, .int .i64 y] 24)).heap.size (w.alloc (.cells #[.int .i64 k, .int .i64 o, .bool a, .bool b, .int .i64 y] 24)) wq →
      wq.cell? ⟨w.heap.size, 0, none⟩ = some (.int .i64 k) ∧ wq.cell? ⟨w.heap.size, 1, none⟩ = some (.int .i64 o) ∧ wq.cell? ⟨w.heap.size, 2, none⟩ = some (.bool a) ∧ wq.cell? ⟨w.heap.size, 3, none⟩ = some (.bool b) ∧ wq.cell? ⟨w.heap.size, 4, none⟩ = some (.int .i64 y)) :=
    hide fun wq hq => ⟨(B0.kept hq).cell 0, (B0.kept hq).cell 1, (B0.kept hq).cell 2, (B0.kept hq).cell 3, (B0.kept hq).cell 4⟩
  refine wp_region_below (by kernel_rfl) (by kernel_rfl) ?_
  iterate 24
    first
      | (refine skipB (by rfl) ?_
         simp only [Act.put, List.setIfInBounds_toArray, List.set_cons_zero, List.set_cons_succ])
      | (refine stepB (by rfl) ?_
         apply Exists.intro
         refine ⟨fun wq hq => ?_, ?_⟩
         · obtain ⟨c0, c1, c2, c3, c4⟩ := HC.out wq hq
           go_simp
           first
             | done
             | rfl
             | (go_at_call 8; ((with_reducible refine (own_any k o a b y _).mono ?_); exact fun e w'' ⟨he, hb⟩ => ⟨he, by have := below_next hq hb; simpa using this⟩))
             | (go_at_call 8; ((with_reducible refine (own_any k1 o1 a1 b1 y1 _).mono ?_); exact fun e w'' ⟨he, hb⟩ => ⟨he, by have := below_next hq hb; simpa using this⟩))
             | (go_at_call 8; ((with_reducible refine (own_any k2 o2 a2 b2 y2 _).mono ?_); exact fun e w'' ⟨he, hb⟩ => ⟨he, by have := below_next hq hb; simpa using this⟩))
             | (go_at_call 13; ((with_reducible refine (H1.out _).mono ?_); exact fun e w'' ⟨he, hb⟩ => ⟨he, by have := below_next hq hb; simpa using this⟩))
             | (go_at_call 14; ((with_reducible refine (H2.out _).mono ?_); exact fun e w'' ⟨he, hb⟩ => ⟨he, by have := below_next hq hb; simpa using this⟩))
             | (go_at_call 15; ((with_reducible refine (H3.out _).mono ?_); exact fun e w'' ⟨he, hb⟩ => ⟨he, by have := below_next hq hb; simpa using this⟩))
             | (go_at_call 16; ((with_reducible refine (H4.out _).mono ?_); exact fun e w'' ⟨he, hb⟩ => ⟨he, by have := below_next hq hb; simpa using this⟩))
             | (go_at_call 12; ((with_reducible refine (alive_any _).mono ?_); exact fun e w'' ⟨he, hb⟩ => ⟨he, by have := below_next hq hb; simpa using this⟩))
         simp only [Act.put, List.setIfInBounds_toArray, List.set_cons_zero, List.set_cons_succ])
  refine wpQuiet_nil ?_
  intro wz hz
  go_wp2_with fail
  go_ret
  exact ⟨rfl, below_base1 hz⟩
end Go.Proofs.Ytohkholbaidjlaa
