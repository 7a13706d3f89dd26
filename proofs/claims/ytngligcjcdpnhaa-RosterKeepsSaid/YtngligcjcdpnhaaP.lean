/- A roster in memory; New, all, find, Last. -/
import Derived.Test.YtngligcjcdpnhaaN
namespace Go.Proofs.Ytngligcjcdpnhaa
open Go.RowKit Go.Maps
set_option linter.unusedSimpArgs false
set_option linter.unusedVariables false

/-- A roster in memory: its block g, its row, its map; F are the blocks that it may write. -/
structure RoI (w : World) (g : Nat) (M : Int) (l : List Sm) (F : List Nat) (A : Option Addr) (n c : Nat) (am : Option Nat) : Prop where
  num : l.length = n
  blk : Blk w g 59 #[.int .i64 M, .slice A n c, .map am, .int .i64 (lastL l 0), .int .i64 (lastL l 1)]
  own : w.ownsRow 0 41 17 (.slice A n c) n (cells17 l)
  row : ∀ b, (Value.slice A n c).ownBlock = some b → b ∈ F ∧ b ≠ g
  mp : (am = none ∧ l = []) ∨ ∃ b, am = some b ∧ b ∈ F ∧ MapI w b n (atI (ids l))
  mem : g ∈ F
  lt : ∀ b ∈ F, b < w.heap.size
def Ro (w : World) (g : Nat) (M : Int) (l : List Sm) (F : List Nat) : Prop := ∃ A n c am, RoI w g M l F A n c am
section
variable {w w' : World} {g : Nat} {M : Int} {l : List Sm} {F F1 : List Nat}
theorem RoI.only {A : Option Addr} {n c : Nat} {am : Option Nat} (h : RoI w g M l F A n c am) (o : Only F1 w w') (hF : ∀ b ∈ F, b ∉ F1) : RoI w' g M l F A n c am :=
  ⟨h.num, h.blk.only o (hF g h.mem), own_only h.own o (fun b hb => hF b (h.row b hb).1), h.row, (by
    rcases h.mp with h1 | ⟨b, h1, h2, h3⟩
    · exact .inl h1
    · exact .inr ⟨b, h1, h2, h3.only o (hF b h2)⟩), h.mem, fun b hb => Nat.lt_of_lt_of_le (h.lt b hb) o.size⟩
theorem RoI.kept {A : Option Addr} {n c : Nat} {am : Option Nat} (h : RoI w g M l F A n c am) (o : Below w.heap.size w w') : RoI w' g M l F A n c am := h.only (F1 := []) (Only.of_below o) (fun _ _ => by simp)
theorem Ro.only (h : Ro w g M l F) (o : Only F1 w w') (hF : ∀ b ∈ F, b ∉ F1) : Ro w' g M l F := by
  obtain ⟨A, n, c, am, h⟩ := h
  exact ⟨A, n, c, am, h.only o hF⟩
theorem Ro.kept (h : Ro w g M l F) (o : Below w.heap.size w w') : Ro w' g M l F := h.only (F1 := []) (Only.of_below o) (fun _ _ => by simp)
theorem Ro.mem (h : Ro w g M l F) : g ∈ F := by obtain ⟨A, n, c, am, h⟩ := h; exact h.mem
theorem Ro.lt (h : Ro w g M l F) : ∀ b ∈ F, b < w.heap.size := by obtain ⟨A, n, c, am, h⟩ := h; exact h.lt
theorem Ro.born (w : World) (M : Int) : Ro (w.alloc (.cells #[.int .i64 M, .slice none 0 0, .map none, .int .i64 0, .int .i64 0] 59)) w.heap.size M [] [w.heap.size] :=
  ⟨none, 0, 0, none, rfl, Blk.born _ _ _, World.ownsRow_nil _ _ _ _, (fun b hb => by cases hb), .inl ⟨rfl, rfl⟩, List.mem_singleton.2 rfl, fun b hb => by rw [List.mem_singleton.1 hb]; simp⟩
/-- What stands at a place of the row. -/
theorem RoI.at {A : Option Addr} {n c : Nat} {am : Option Nat} (h : RoI w g M l F A n c am) {i : Nat} {m : Sm} (hi : l[i]? = some m) : ∃ r, A = some ⟨r, 0, none⟩ ∧ r ∈ F ∧ r ≠ g ∧ ∀ j v, (row17 m)[j]? = some v → w.cell? ⟨r, i * 17 + j, none⟩ = some v := by
  have hl := (List.getElem?_eq_some_iff.1 hi).1
  obtain ⟨r, c', e⟩ := own_some h.own (by have := h.num; omega)
  injection e with e1 e2 e3
  subst e1
  refine ⟨r, rfl, (h.row r rfl).1, (h.row r rfl).2, fun j v hv => ?_⟩
  have hj : j < 17 := (List.getElem?_eq_some_iff.1 hv).1
  exact own_cell h.own ((flat_get row17_len hi j hj).trans hv)
theorem RoI.cap {A : Option Addr} {n c : Nat} {am : Option Nat} (h : RoI w g M l F A n c am) : n ≤ c := (own_nn h.own).2
end

theorem new_any (m M : Int) (w : World) (hM : Hid (M = if m < 0 then 0 else m)) : Calls Try.prog 7 #[.int .i64 m] w fun e w' => e = .returned (.pointer (some ⟨w.heap.size, 0, none⟩)) ∧ Ro w' w.heap.size M [] [w.heap.size] ∧ Below w.heap.size w w' := by
  have HG := hide (Ro.born w M)
  by_cases hm : m < 0
  · obtain rfl : M = 0 := by rw [hM.out, if_pos hm]
    go_enter Try.func7, Try.ntmps7
    go_wp2_with fail
    go_ret
    exact ⟨rfl, HG.out, (Below.refl _ _).alloc (Nat.le_refl _) _⟩
  · obtain rfl : M = m := by rw [hM.out, if_neg hm]
    go_enter Try.func7, Try.ntmps7
    go_wp2_with fail
    go_ret
    exact ⟨rfl, HG.out, (Below.refl _ _).alloc (Nat.le_refl _) _⟩

theorem all_nil (w : World) : Calls Try.prog 29 #[.pointer none] w fun e w' => e = .returned (.slice none 0 0) ∧ w = w' := by
  go_enter Try.func29, Try.ntmps29
  go_wp2_with fail
  go_ret
  exact ⟨rfl, rfl⟩
theorem all_any {M : Int} {l : List Sm} {F : List Nat} {A : Option Addr} {n c : Nat} {am : Option Nat} (g : Nat) (w : World) (H : Hid (RoI w g M l F A n c am)) : Calls Try.prog 29 #[.pointer (some ⟨g, 0, none⟩)] w fun e w' => e = .returned (.slice A n c) ∧ w = w' := by
  have c1 : w.cell? ⟨g, 1, none⟩ = some (.slice A n c) := H.out.blk.cell 1
  go_enter Try.func29, Try.ntmps29
  go_wp2_with fail
  go_ret
  exact ⟨rfl, rfl⟩

theorem find_nil (x : Int) (w : World) : Calls Try.prog 24 #[.pointer none, .int .i64 x] w fun e w' => e = .returned (.tuple #[.int .i64 0, .bool false]) ∧ w = w' := by
  go_enter Try.func24, Try.ntmps24
  go_wp2_with fail
  go_ret2
  exact ⟨rfl, rfl⟩
/-- What find says. -/
def posZ (l : List Sm) (x : Int) : Int := ((posI (ids l) x).getD 0 : Nat)
theorem find_any {M : Int} {l : List Sm} {F : List Nat} {A : Option Addr} {n c : Nat} {am : Option Nat} (g : Nat) (x z : Int) (q : Bool) (w : World) (hx : Hid ((Lit.int .i64 x).wf = true)) (H : Hid (RoI w g M l F A n c am)) (hz : Hid (posZ l x = z)) (hq : Hid ((posI (ids l) x).isSome = q)) :
    Calls Try.prog 24 #[.pointer (some ⟨g, 0, none⟩), .int .i64 x] w fun e w' => e = .returned (.tuple #[.int .i64 z, .bool q]) ∧ w = w' := by
  have c2 : w.cell? ⟨g, 2, none⟩ = some (.map am) := H.out.blk.cell 2
  have h4 := H.out.mp
  rcases h4 with ⟨rfl, h0⟩ | ⟨b, rfl, _, h6⟩
  · have hl := Maps.look_nil (P := Try.prog) (w := w) (t := 56) (k := 3) (e := 3) true kk Try.underlying56 (zeroE w) (keyOf_int_mk Try.underlying3 hx.out)
    have HZ : Hid (z = 0 ∧ q = false) := hide (by
      rw [← hz.out, ← hq.out]; subst h0; exact ⟨rfl, rfl⟩)
    obtain ⟨rfl, rfl⟩ := HZ.out
    clear h0
    go_enter Try.func24, Try.ntmps24
    go_wp2_with fail
    go_ret2
    exact ⟨rfl, rfl⟩
  · have HM := hide h6
    have HN : Hid ((atI (ids l) x).getD 0 = z ∧ (atI (ids l) x).isSome = q) := hide (by
      have h1 := hz.out
      have h2 := hq.out
      unfold posZ at h1
      unfold atI
      cases hp : posI (ids l) x with
      | none => rw [hp] at h1 h2; exact ⟨h1, h2⟩
      | some i => rw [hp] at h1 h2; exact ⟨h1, h2⟩)
    clear h6
    go_enter Try.func24, Try.ntmps24
    go_wp2_with (at_lookup; go_loud (refine wpList_get_ok rfl (.tmp 14) (.tmp 15) rfl HM.out rfl x rfl hx.out z q HN.out.1 HN.out.2 ?_))
    go_wp2_with fail
    go_ret2
    exact ⟨rfl, rfl⟩

theorem last_nil (side : Int) (w : World) : Calls Try.prog 17 #[.pointer none, .int .i64 side] w fun e w' => e = .returned (.int .i64 0) ∧ w = w' := by
  go_enter Try.func17, Try.ntmps17
  go_wp2_with fail
  go_ret
  exact ⟨rfl, rfl⟩
theorem last_any {M : Int} {l : List Sm} {F : List Nat} {A : Option Addr} {n c : Nat} {am : Option Nat} (g : Nat) (side : Int) (w : World) (H : Hid (RoI w g M l F A n c am)) : Calls Try.prog 17 #[.pointer (some ⟨g, 0, none⟩), .int .i64 side] w fun e w' => e = .returned (.int .i64 (lastL l side)) ∧ w = w' := by
  have c3 : w.cell? ⟨g, 3, none⟩ = some (.int .i64 (lastL l 0)) := H.out.blk.cell 3
  have c4 : w.cell? ⟨g, 4, none⟩ = some (.int .i64 (lastL l 1)) := H.out.blk.cell 4
  by_cases h0 : side = 0
  · subst h0
    go_enter Try.func17, Try.ntmps17
    go_wp2_with fail
    go_ret
    exact ⟨rfl, rfl⟩
  · by_cases h1 : side = 1
    · subst h1
      go_enter Try.func17, Try.ntmps17
      go_wp2_with fail
      go_ret
      exact ⟨rfl, rfl⟩
    · have HO := hide (lastL_out l side h0 h1)
      rw [HO.out]
      have b0 : (side != 0) = true := by rw [bne_iff_ne]; exact h0
      have b1 : (side != 1) = true := by rw [bne_iff_ne]; exact h1
      clear h0 h1
      go_enter Try.func17, Try.ntmps17
      go_wp2_with fail
      go_ret
      exact ⟨rfl, rfl⟩
end Go.Proofs.Ytngligcjcdpnhaa
