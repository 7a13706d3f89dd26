/- The roster's operations, joined. -/
import Derived.Test.YtngligcjcdpnhaaW
namespace Go.Proofs.Ytngligcjcdpnhaa
open Go.RowKit Go.Maps
set_option linter.unusedSimpArgs false
set_option linter.unusedVariables false

theorem Ro.sub {w w' : World} {g : Nat} {M : Int} {l : List Sm} {F : List Nat} (h : Ro w g M l F) (o : Below w.heap.size w w') : ∃ F', Ro w' g M l F' ∧ Only F w w' ∧ ∀ b ∈ F', b ∈ F ∨ w.heap.size ≤ b := ⟨F, h.kept o, Only.of_below o, fun b hb => .inl hb⟩
/-- What Begin does. -/
theorem beg_op {M : Int} {l : List Sm} {F : List Nat} (g : Nat) (m : Sm) (w : World) (hn1 : Hid (l.length ≤ 1000)) (H : Hid (Ro w g M l F)) (hx : Hid ((Lit.int .i64 m.id).wf = true)) :
    Calls Try.prog 11 #[.pointer (some ⟨g, 0, none⟩), .agg #[.int .i64 m.id, .int .i64 m.k, .int .i64 m.o, .bool m.a, .bool m.b, .int .i64 m.y, .complex .f64 m.cx m.cy, .bool false, .string ByteArray.empty, .int .i64 0, .int .i64 0, .int .i64 0, .bool false, .string ByteArray.empty, .int .i64 0, .int .i64 0, .int .i64 0]] w fun e w' => e = .returned (.int .i64 (begE l m M)) ∧ ∃ F', Ro w' g M (begL l m M) F' ∧ Only F w w' ∧ ∀ b ∈ F', b ∈ F ∨ w.heap.size ≤ b := by
  cases hm : mayS m with
  | false =>
    have hc : canB l m = false := by unfold canB; rw [hm]; rfl
    refine (beg_no g m w hn1 H (hide hm)).mono ?_
    rintro e w1 ⟨rfl, hb⟩
    refine ⟨by unfold begE; rw [hc]; rfl, ?_⟩
    rw [show begL l m M = l by unfold begL; rw [hc]; simp]
    exact H.out.sub hb
  | true =>
    have ho := (may_iff hm).2.2.2
    by_cases hle : m.id ≤ lastL l m.o
    · have hc : canB l m = false := by unfold canB; rw [hm, ← ho]; simp; omega
      have hres : ∀ (e : Ending) (w1 : World), (e = .returned (.int .i64 1) ∧ Below w.heap.size w w1) → e = .returned (.int .i64 (begE l m M)) ∧ ∃ F', Ro w1 g M (begL l m M) F' ∧ Only F w w1 ∧ ∀ b ∈ F', b ∈ F ∨ w.heap.size ≤ b := by
        rintro e w1 ⟨rfl, hb⟩
        refine ⟨by unfold begE; rw [hc]; rfl, ?_⟩
        rw [show begL l m M = l by unfold begL; rw [hc]; simp]
        exact H.out.sub hb
      rcases ownO_two m.id with h0 | h0
      · rw [ho, h0] at hle
        exact (beg_old0 g m _ w hn1 H (hide hm) (hide (ho.trans h0)) (hide rfl) hle).mono hres
      · rw [ho, h0] at hle
        exact (beg_old1 g m _ w hn1 H (hide hm) (hide (ho.trans h0)) (hide rfl) hle).mono hres
    · have hc : canB l m = true := by unfold canB; rw [hm, ← ho]; simp; omega
      by_cases hf : (l.length : Int) < M
      · have hres : ∀ (e : Ending) (w1 : World), BPost g M l m F w e w1 → e = .returned (.int .i64 (begE l m M)) ∧ ∃ F', Ro w1 g M (begL l m M) F' ∧ Only F w w1 ∧ ∀ b ∈ F', b ∈ F ∨ w.heap.size ≤ b := by
          rintro e w1 ⟨rfl, h⟩
          refine ⟨by unfold begE; rw [if_pos hc, if_pos hf], ?_⟩
          rw [show begL l m M = l ++ [m] by unfold begL; rw [if_pos ⟨hc, hf⟩]]
          exact h
        rcases ownO_two m.id with h0 | h0
        · rw [ho, h0] at hle
          exact (beg_yes0 g m _ w hn1 H hx (hide hc) (hide hm) (hide (ho.trans h0)) (hide rfl) hle (hide hf)).mono hres
        · rw [ho, h0] at hle
          exact (beg_yes1 g m _ w hn1 H hx (hide hc) (hide hm) (hide (ho.trans h0)) (hide rfl) hle (hide hf)).mono hres
      · have hres : ∀ (e : Ending) (w1 : World), (e = .returned (.int .i64 6) ∧ Below w.heap.size w w1) → e = .returned (.int .i64 (begE l m M)) ∧ ∃ F', Ro w1 g M (begL l m M) F' ∧ Only F w w1 ∧ ∀ b ∈ F', b ∈ F ∨ w.heap.size ≤ b := by
          rintro e w1 ⟨rfl, hb⟩
          refine ⟨by unfold begE; rw [if_pos hc, if_neg hf], ?_⟩
          rw [show begL l m M = l by unfold begL; rw [if_neg (fun h => hf h.2)]]
          exact H.out.sub hb
        rcases ownO_two m.id with h0 | h0
        · rw [ho, h0] at hle
          exact (beg_full0 g m _ w hn1 H (hide hm) (hide (ho.trans h0)) (hide rfl) hle (hide (by omega))).mono hres
        · rw [ho, h0] at hle
          exact (beg_full1 g m _ w hn1 H (hide hm) (hide (ho.trans h0)) (hide rfl) hle (hide (by omega))).mono hres
/-- What Set does. -/
theorem set_op {M : Int} {l : List Sm} {F : List Nat} (g : Nat) (m : Sm) (w : World) (hn1 : Hid (l.length ≤ 1000)) (H : Hid (Ro w g M l F)) (hx : Hid ((Lit.int .i64 m.id).wf = true)) :
    Calls Try.prog 9 #[.pointer (some ⟨g, 0, none⟩), .agg #[.int .i64 m.id, .int .i64 m.k, .int .i64 m.o, .bool m.a, .bool m.b, .int .i64 m.y, .complex .f64 m.cx m.cy, .bool false, .string ByteArray.empty, .int .i64 0, .int .i64 0, .int .i64 0, .bool false, .string ByteArray.empty, .int .i64 0, .int .i64 0, .int .i64 0]] w fun e w' => e = .returned (.bool (setB l m)) ∧ ∃ F', Ro w' g M (setL l m) F' ∧ Only F w w' ∧ ∀ b ∈ F', b ∈ F ∨ w.heap.size ≤ b := by
  cases hp : posI (ids l) m.id with
  | none =>
    refine (set_none g m w H hx (hide hp)).mono ?_
    rintro e w1 ⟨rfl, hb⟩
    refine ⟨by unfold setB; rw [hp]; rfl, ?_⟩
    rw [show setL l m = l by unfold setL; rw [hp]; split <;> rfl]
    exact H.out.sub hb
  | some i =>
    cases hm : mayS m with
    | false =>
      refine (set_no g m i w hn1 H hx (hide hp) (hide hm)).mono ?_
      rintro e w1 ⟨rfl, hb⟩
      refine ⟨by unfold setB; rw [hp, hm]; rfl, ?_⟩
      rw [show setL l m = l by unfold setL; rw [hm]; rfl]
      exact H.out.sub hb
    | true =>
      refine (set_yes g m i w hn1 H hx (hide hp) (hide hm)).mono ?_
      rintro e w1 ⟨rfl, h1, h2⟩
      refine ⟨by unfold setB; rw [hp, hm]; rfl, ?_⟩
      rw [show setL l m = l.set i m by unfold setL; rw [hm, hp]; rfl]
      exact ⟨F, h1, h2, fun b hb => .inl hb⟩
/-- What State says. -/
theorem state_op {M : Int} {l : List Sm} {F : List Nat} (g : Nat) (id : Int) (w : World) (hn1 : Hid (l.length ≤ 1000)) (H : Hid (Ro w g M l F)) (hx : Hid ((Lit.int .i64 id).wf = true)) (s : Stt) (hs : Hid (stateL l id = s)) :
    Calls Try.prog 20 #[.pointer (some ⟨g, 0, none⟩), .int .i64 id] w fun e w' => e = .returned (.agg #[.int .i64 s.k, .int .i64 s.o, .bool s.a, .bool s.b, .int .i64 s.y]) ∧ Below w.heap.size w w' := by
  obtain ⟨A, n, c, am, HI⟩ := H.out
  have hn : n ≤ 1000 := by rw [← HI.num]; exact hn1.out
  cases hp : posI (ids l) id with
  | none => exact state_new g id w hn (hide HI) hx (hide hp) s hs
  | some i =>
    have hil : i < l.length := by rw [← ids_length]; exact posI_lt hp
    obtain ⟨m, hm⟩ : ∃ m, l[i]? = some m := ⟨_, List.getElem?_eq_getElem hil⟩
    have e : m.st = s := by rw [← hs.out]; exact (stateL_some hp hm).symm
    subst e
    exact state_found g id w hn (hide HI) hx i m (hide hp) (hide hm)
theorem last_op {M : Int} {l : List Sm} {F : List Nat} (g : Nat) (side : Int) (w : World) (H : Hid (Ro w g M l F)) : Calls Try.prog 17 #[.pointer (some ⟨g, 0, none⟩), .int .i64 side] w fun e w' => e = .returned (.int .i64 (lastL l side)) ∧ w = w' := by
  obtain ⟨A, n, c, am, HI⟩ := H.out
  exact last_any g side w (hide HI)
theorem active_op {M : Int} {l : List Sm} {F : List Nat} (g : Nat) (side : Int) (w : World) (hn1 : Hid (l.length ≤ 1000)) (H : Hid (Ro w g M l F)) : Calls Try.prog 18 #[.pointer (some ⟨g, 0, none⟩), .int .i64 side] w fun e w' => e = .returned (.int .i64 (activeL l side : Nat)) ∧ Below w.heap.size w w' := by
  obtain ⟨A, n, c, am, HI⟩ := H.out
  exact active_any g side w (by rw [← HI.num]; exact hn1.out) (hide HI)
theorem all_op {M : Int} {l : List Sm} {F : List Nat} (g : Nat) (n : Nat) (w : World) (hn1 : Hid (l.length ≤ 1000)) (H : Hid (Ro w g M l F)) (hn : l.length = n) : Calls Try.prog 19 #[.pointer (some ⟨g, 0, none⟩)] w fun e w' => ∃ B c', e = .returned (.slice B n c') ∧ w'.ownsRow w.heap.size 41 17 (.slice B n c') n (cells17 l) ∧ Below w.heap.size w w' := by
  obtain ⟨A, n', c, am, HI⟩ := H.out
  obtain rfl : n' = n := HI.num.symm.trans hn
  exact rall_any g w (by rw [← HI.num]; exact hn1.out) (hide HI)
theorem wf_may {m : Sm} (h : mayS m = true) : (Lit.int .i64 m.id).wf = true := by
  have := (ownK_iff m.id).1 (may_iff h).1
  exact WalkArith.wf_i64 (by omega)
end Go.Proofs.Ytngligcjcdpnhaa
