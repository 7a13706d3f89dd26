/- PrefixBack's walk. -/
import Derived.Test.YtpkdmbdmfokkiaaQ
import Derived.Test.YtpkdmbdmfokkiaaT
import Derived.Deep.RegionHeld
import Derived.BigQuiet
namespace Go.Proofs.Ytpkdmbdmfokkiaa
open Go.ChangeShapes Go.WideShapes Go.ChangeAt Go.RowKit

/-- Nothing is appended: the slice as it was. -/
theorem wp_append_none {P : Program} {w : World} {o : Oper} {a : Act} {K : Act → World → Prop} {Q : Exit → Act → World → Prop} (s x : Operand) (t : TypeId)
    (ho : o.op = .call { callee := .builtin .append, args := #[s, x], argTypes := #[t, t] })
    (base : Nat) (e : TypeId) (i : TypeInfo) (ht : P.underlying t = some (.slice e)) (hi : P.info? e = some i)
    (g n c : Nat) (xs : List Value) (hs : a.eval s = .slice (some ⟨g, 0, none⟩) n c) (hown : w.ownsRow base e 1 (.slice (some ⟨g, 0, none⟩) n c) n xs)
    (c' : Nat) (hx : a.eval x = .slice none 0 c') (h : K (a.put o.dst (.slice (some ⟨g, 0, none⟩) n c)) w) : o.wp P a w K Q := by
  have hr : (Builtin.append_ #[t, t] o.type #[.slice (some ⟨g, 0, none⟩) n c, .slice none 0 c']).run P w = .ok (.slice (some ⟨g, 0, none⟩) n c) w := by
    rcases hown.2 with ⟨h1, _⟩ | ⟨g2, cap, cur, h1, hbg, hg, hnc, hcm, hcs, htake⟩
    · simp at h1
    · simp only [Value.slice.injEq, Option.some.injEq, Addr.mk.injEq, true_and, and_true] at h1
      obtain ⟨rfl, rfl⟩ := h1
      simp [Builtin.append_, run_underlying ht, sizeOf, typeInfo, hi, Builtin.lenOf, Builtin.firstCells, hnc, storeCells]
  unfold Oper.wp execOp
  simp only [ho, resolve, invoke, builtin, Sem.run_bind, Sem.run_pure, Result.andThen_ok, List.map_toArray, List.map_cons, List.map_nil, hs, hx, hr]
  exact h

/-- An append of what is seen (nothing, or cells), to a slice of the call's own. -/
theorem wp_append_seen {P : Program} {w : World} {o : Oper} {a : Act} {K : Act → World → Prop} {Q : Exit → Act → World → Prop} (s x : Operand) (t : TypeId)
    (ho : o.op = .call { callee := .builtin .append, args := #[s, x], argTypes := #[t, t] })
    (base : Nat) (e : TypeId) {z : Value} {bytes : Nat} (hi : (P.info? e).map (fun i => (i.zero, i.size, i.bytes)) = some (some z, 1, bytes)) (hzs : z.cells.size = 1) (ht : P.underlying t = some (.slice e))
    (g n c : Nat) (xs : List Value) (hs : a.eval s = .slice (some ⟨g, 0, none⟩) n c) (hown : w.ownsRow base e 1 (.slice (some ⟨g, 0, none⟩) n c) n xs)
    (A : Option Addr) (m c' : Nat) (news : List Value) (hx : a.eval x = .slice A m c') (hl : Hid (news.length = m)) (hsee : Sees w A news) (h1 : ∀ u ∈ news, u.oneCell' = true)
    (h63 : n + m ≤ maxLen) (hbytes : (n + m) * bytes ≤ 140737488355328) (hbase : base ≤ w.heap.size) (h0 : 0 < n + m)
    (h : ∀ g' d' w', w'.ownsRow base e 1 (.slice (some ⟨g', 0, none⟩) (n + m) d') (n + m) (xs ++ news) → w.grownBy w' (some g) → K (a.put o.dst (.slice (some ⟨g', 0, none⟩) (n + m) d')) w') : o.wp P a w K Q := by
  obtain ⟨i0, hi0, hz0, hz1, hz2⟩ := info_parts hi
  cases A with
  | none =>
    have hn : news = [] := by
      cases news with
      | nil => rfl
      | cons u r => obtain ⟨b, o, h2, _⟩ := hsee 0 u rfl; cases h2
    subst hn
    obtain rfl : m = 0 := by have := hl.out; simpa using this.symm
    refine wp_append_none s x t ho base e i0 ht hi0 g n c xs hs hown c' hx ?_
    exact h g c w (by rw [List.append_nil]; exact hown) ⟨rfl, rfl, rfl, Nat.le_refl _, fun _ _ _ => rfl⟩
  | some ad =>
    refine wp_append_own w s x t ho base e i0 z 1 bytes ht hi0 hz0 hz1 hz2 hzs (by decide) _ n xs hs hown ad m c' news hx (by rw [hl.out, Nat.mul_one]) ?_ h1 h63 hbytes hbase ?_
    · intro j u hu
      obtain ⟨b, o, h2, hc⟩ := hsee j u hu
      injection h2 with h2
      subst h2
      rw [add_zero_spot]; exact hc
    · intro v' w' hown' hg _
      obtain ⟨g', d', rfl⟩ := own_some hown' h0
      exact h g' d' w' hown' hg

set_option maxRecDepth 100000 in
theorem back_far (x y z : Int) (A : Option Addr) (n c : Nat) (w : World) (hm : 300 < n) (_hn : n ≤ maxLen) : Calls Try.prog 5 #[.agg #[.int .i64 x, .int .i64 y, .int .i64 z], .slice A n c] w fun e w' => e = .returned (.bool true) ∧ Below w.heap.size w w' := by
  go_enter Try.func5, Try.ntmps5
  go_wp2_with fail
  refine (alive_any _).mono ?_
  rintro e w4 ⟨rfl, hb4⟩
  go_wp2_with fail
  go_ret
  exact ⟨rfl, below_base1 hb4⟩

set_option maxRecDepth 100000 in
theorem back_err (x y z : Int) (A : Option Addr) (n c k : Nat) (l : List Int) (q : Int) (w : World) (hm : n ≤ 300) (HP : Hid (putS x y z = (l, q))) (HK : Hid (l.length = k)) (hq : (q == 0) = false) :
    Calls Try.prog 5 #[.agg #[.int .i64 x, .int .i64 y, .int .i64 z], .slice A n c] w fun e w' => e = .returned (.bool true) ∧ Below w.heap.size w w' := by
  go_enter Try.func5, Try.ntmps5
  go_wp2_with fail
  refine (put_q x y z _ l k q HP HK).mono ?_
  rintro e w1 ⟨B, d, rfl, hs, hb⟩
  have hb' := below_base1 hb
  clear hs hb
  go_wp2_with fail
  refine (alive_any _).mono ?_
  rintro e w4 ⟨rfl, hb4⟩
  have hb4' := below_next hb' hb4
  clear hb4 hb'
  go_wp2_with fail
  go_ret
  exact ⟨rfl, hb4'⟩


theorem below_drew {B : Nat} {a w : World} (h : Below B a w) : Below B a w.drew := ⟨h.os, h.tape, h.output, h.size, h.block⟩
theorem sees_grown {w w' : World} {A : Option Addr} {xs : List Value} {row : Option Nat} (h : Sees w A xs) (hg : w.grownBy w' row) (hA : ∀ b o, A = some ⟨b, o, none⟩ → xs ≠ [] → some b ≠ row) : Sees w' A xs := by
  by_cases hx : xs = []
  · subst hx; exact Sees.nil _ _
  · exact h.grown hg fun b o e => hA b o e hx
theorem sees_head {w : World} {b o : Nat} {xs : List Value} {u : Value} (h : Sees w (some ⟨b, o, none⟩) xs) (hu : xs[0]? = some u) : w.cell? ⟨b, o, none⟩ = some u := by
  obtain ⟨b', o', h2, hc⟩ := h 0 u hu
  injection h2 with h2
  injection h2 with h3 h4
  subst h3 h4
  exact hc

set_option maxRecDepth 100000 in
set_option maxHeartbeats 1000000 in
theorem back_good (x y z : Int) (AA : Option Addr) (n c k : Nat) (l t : List Int) (v : Int) (w : World) (hm : n ≤ 300) (HN : Hid (t.length = n)) (hs : Sees w AA (t.map (Value.int .u8))) (HW : Hid (∀ x ∈ l ++ t, 0 ≤ x ∧ x ≤ 255)) (HW2 : Hid (∀ x ∈ l.dropLast, 0 ≤ x ∧ x ≤ 255))
    (HP : Hid (putS x y z = (l, 0))) (HK : Hid (l.length = k)) (hk1 : 1 ≤ k) (hk7 : k ≤ 7) (HG : Hid (getS (l ++ t) y = (z, (k : Int), 0))) (HC : Hid (getS l.dropLast y = (0, 0, 3))) (HV : Hid (l[0]? = some v)) (hxv : decide (v < x) = false) (hv0 : 0 ≤ v) (hv255 : v ≤ 255) :
    Calls Try.prog 5 #[.agg #[.int .i64 x, .int .i64 y, .int .i64 z], .slice AA n c] w fun e w' => e = .returned (.bool true) ∧ Below w.heap.size w w' := by
  obtain ⟨i0, hi, hz0, hz1, hz2⟩ := info_parts Try.info5
  have hk0 : ((k : Int) == 0) = false := by rw [beq_eq_false_iff_ne]; omega
  go_enter Try.func5, Try.ntmps5
  go_wp2_with fail
  refine (put_c x y z _ l k 0 HP HK).mono ?_
  rintro e w1 ⟨B, d, rfl, hkd, hsb, hb⟩
  have hs1 := (hs.alloc (.cells #[.int .i64 x, .int .i64 y, .int .i64 z] 33)).kept hb
  have B1 : Blk w1 w.heap.size 33 #[.int .i64 x, .int .i64 y, .int .i64 z] := (Blk.born _ _ _).kept hb
  have hb1 := below_base1 hb
  clear hb hs
  obtain ⟨bb, oo, rfl, hc0⟩ := hsb 0 (.int .u8 v) (by rw [List.getElem?_map, HV.out]; rfl)
  have hbb : bb < w1.heap.size := World.block_lt_of_cell? w1 _ hc0
  have hgl := B1.lt
  have HSB := hide hsb
  have HS1 := hide hs1
  have HB1 := hide hb1
  clear hsb hs1 hc0 hb1
  have c1 : w1.cell? ⟨w.heap.size, 1, none⟩ = some (.int .i64 y) := B1.cell 1
  go_wp2_with fail
  refine wp_region_held_drew (S := fun w' => w'.cell? ⟨w.heap.size, 1, none⟩ = some (.int .i64 y)) (by kernel_rfl) ?_ (fun hHeld => ?_)
  · (first | exact B1.drew.cell 1 | exact (B1.drew.alloc _).cell 1 | exact B2.cell 1 | exact B3.cell 1 | exact B4.cell 1)
  refine takeL (i := 1) (v := ?_) rfl (by kernel_rfl) (by kernel_rfl) (by kernel_rfl) (fun _ _ _ h => h) (Or.inl ⟨by rfl, ?_⟩) (by assumption) ?_
  rotate_left
  · (intro wS hSw; (try dsimp only at hSw); go_simp; try with_reducible rfl)
  try simp only [Act.put, List.setIfInBounds_toArray, List.set_cons_zero, List.set_cons_succ]
  refine takeL (i := 3) (v := ?_) rfl (by kernel_rfl) (by kernel_rfl) (by kernel_rfl) (fun _ _ _ h => h) (Or.inl ⟨by rfl, ?_⟩) (by assumption) ?_
  rotate_left
  · (intro wS hSw; (try dsimp only at hSw); go_simp; try with_reducible rfl)
  try simp only [Act.put, List.setIfInBounds_toArray, List.set_cons_zero, List.set_cons_succ]
  refine takeL (i := 5) (v := ?_) rfl (by kernel_rfl) (by kernel_rfl) (by kernel_rfl) (fun _ _ _ h => h) (Or.inl ⟨by rfl, ?_⟩) (by assumption) ?_
  rotate_left
  · (intro wS hSw; (try dsimp only at hSw); go_simp; try with_reducible rfl)
  try simp only [Act.put, List.setIfInBounds_toArray, List.set_cons_zero, List.set_cons_succ]
  refine takeL (i := 6) (v := ?_) rfl (by kernel_rfl) (by kernel_rfl) (by kernel_rfl) (fun _ _ _ h => h) (Or.inl ⟨by rfl, ?_⟩) (by assumption) ?_
  rotate_left
  · (intro wS hSw; (try dsimp only at hSw); go_simp; try with_reducible rfl)
  try simp only [Act.put, List.setIfInBounds_toArray, List.set_cons_zero, List.set_cons_succ]
  refine wpAnyH_ready (rs := [0]) (by kernel_rfl) (by simp) ?_
  refine readyL rfl (fun K hK => ?_)
  go_simp
  refine hK.out _ _ ?_ (fun hHeld => ?_)
  · (first | exact B1.drew.cell 1 | exact (B1.drew.alloc _).cell 1 | exact B2.cell 1 | exact B3.cell 1 | exact B4.cell 1)
  clear hK K
  try simp only [Act.put, List.setIfInBounds_toArray, List.set_cons_zero, List.set_cons_succ]
  have own0 : (w1.alloc (.cells #[] 5)).drew.ownsRow w1.heap.size 5 1 (.slice (some ⟨w1.heap.size, 0, none⟩) 0 0) 0 [] := own_lit w1 #[] 5 0 (by decide) rfl _ (Nat.le_refl _)
  have hsz1 : w1.heap.size ≤ (w1.alloc (.cells #[] 5)).drew.heap.size := (Below.refl _ w1 |>.alloc (Nat.le_refl _) (.cells #[] 5)).size
  refine wpAnyH_ready (rs := [2]) (by kernel_rfl) (by simp) ?_
  refine readyL rfl (fun K hK => ?_)
  rw [if_pos (by rfl)]
  refine wp_append_seen (.tmp 31) (.tmp 32) 22 rfl w1.heap.size 5 Try.info5 rfl Try.underlying22 w1.heap.size 0 0 [] rfl own0 (some ⟨bb, oo, none⟩) k d (l.map (Value.int .u8)) rfl (by rw [Hid, List.length_map]; exact HK.out) ((HSB.out.alloc (.cells #[] 5)).drew) (ints_oneCell _ _) (by unfold maxLen; omega) (by omega) hsz1 (by omega) ?_
  intro g2 d2 w2 own2 hg2
  rw [Nat.zero_add, List.nil_append] at own2
  simp only [Nat.zero_add]
  have B2 : Blk w2 w.heap.size 33 #[.int .i64 x, .int .i64 y, .int .i64 z] := (B1.alloc (.cells #[] 5)).drew.grown hg2 (by intro h; injection h with h; omega)
  have HB2 : Hid (Below w.heap.size w w2) := (below_drew (HB1.out.alloc (Nat.le_of_lt hgl) (.cells #[] 5))).grown hg2 (Nat.le_trans (Nat.le_of_lt hgl) hsz1) (fun k e => by injection e with e; omega)
  have HSB2 : Hid (Sees w2 (some ⟨bb, oo, none⟩) (l.map (Value.int .u8))) := (HSB.out.alloc (.cells #[] 5)).drew.grown hg2 (fun b o e h => by injection e with e; injection e with e; injection h with h; omega)
  have HS2 : Hid (Sees w2 AA (t.map (Value.int .u8))) := sees_grown (HS1.out.alloc (.cells #[] 5)).drew hg2 (fun b o e hne h => by have := HS1.out.lt e hne; injection h with h; omega)
  have hg2b : w1.heap.size ≤ g2 := own_row_ge own2 g2 rfl
  have hsz2 : w1.heap.size ≤ w2.heap.size := Nat.le_trans hsz1 hg2.size
  clear hg2 own0
  refine hK.out _ _ ?_ (fun hHeld => ?_)
  · (first | exact B1.drew.cell 1 | exact (B1.drew.alloc _).cell 1 | exact B2.cell 1 | exact B3.cell 1 | exact B4.cell 1)
  clear hK K
  try simp only [Act.put, List.setIfInBounds_toArray, List.set_cons_zero, List.set_cons_succ]
  refine wpAnyH_ready (rs := [4]) (by kernel_rfl) (by simp) ?_
  refine readyL rfl (fun K hK => ?_)
  rw [if_pos (by rfl)]
  refine wp_append_seen (.tmp 33) (.tmp 34) 22 rfl w1.heap.size 5 Try.info5 rfl Try.underlying22 g2 k d2 (l.map (Value.int .u8)) rfl own2 AA n c (t.map (Value.int .u8)) rfl (by rw [Hid, List.length_map]; exact HN.out) HS2.out (ints_oneCell _ _) (by unfold maxLen; omega) (by omega) hsz2 (by omega) ?_
  intro g3 d3 w3 own3 hg3
  have B3 : Blk w3 w.heap.size 33 #[.int .i64 x, .int .i64 y, .int .i64 z] := B2.grown hg3 (by intro h; injection h with h; omega)
  have HB3 : Hid (Below w.heap.size w w3) := HB2.out.grown hg3 (Nat.le_trans (Nat.le_of_lt hgl) hsz2) (fun k e => by injection e with e; omega)
  have HSB3 : Hid (Sees w3 (some ⟨bb, oo, none⟩) (l.map (Value.int .u8))) := HSB2.out.grown hg3 (fun b o e h => by injection e with e; injection e with e; injection h with h; omega)
  have HS3 : Hid (Sees w3 (some ⟨g3, 0, none⟩) ((l ++ t).map (Value.int .u8))) := by rw [Hid, List.map_append]; exact Sees.of_own own3
  have hsz3 : w.heap.size ≤ w3.heap.size := HB3.out.size
  clear hg3 own3 own2
  refine hK.out _ _ ?_ (fun hHeld => ?_)
  · (first | exact B1.drew.cell 1 | exact (B1.drew.alloc _).cell 1 | exact B2.cell 1 | exact B3.cell 1 | exact B4.cell 1)
  clear hK K
  try simp only [Act.put, List.setIfInBounds_toArray, List.set_cons_zero, List.set_cons_succ]
  refine wpAnyH_ready (rs := [7]) (by kernel_rfl) (by simp) ?_
  refine readyL rfl (fun K hK => ?_)
  go_simp
  (refine (get_q _ (k + n) _ y (l ++ t) _ (by rw [List.length_append, HK.out, HN.out]) HS3.out (by omega) HW z k 0 HG).mono ?_; rintro e w4 ⟨rfl, hb4⟩; have B4 := B3.kept hb4)
  go_wp2_with fail
  refine hK.out _ _ ?_ (fun hHeld => ?_)
  · (first | exact B1.drew.cell 1 | exact (B1.drew.alloc _).cell 1 | exact B2.cell 1 | exact B3.cell 1 | exact B4.cell 1)
  clear hK K
  try simp only [Act.put, List.setIfInBounds_toArray, List.set_cons_zero, List.set_cons_succ]
  refine takeL (i := 8) (v := ?_) rfl (by kernel_rfl) (by kernel_rfl) (by kernel_rfl) (fun _ _ _ h => h) (Or.inl ⟨by rfl, ?_⟩) (by assumption) ?_
  rotate_left
  · (intro wS hSw; (try dsimp only at hSw); go_simp; try with_reducible rfl)
  try simp only [Act.put, List.setIfInBounds_toArray, List.set_cons_zero, List.set_cons_succ]
  refine takeL (i := 9) (v := ?_) rfl (by kernel_rfl) (by kernel_rfl) (by kernel_rfl) (fun _ _ _ h => h) (Or.inl ⟨by rfl, ?_⟩) (by assumption) ?_
  rotate_left
  · (intro wS hSw; (try dsimp only at hSw); go_simp; try with_reducible rfl)
  try simp only [Act.put, List.setIfInBounds_toArray, List.set_cons_zero, List.set_cons_succ]
  refine takeL (i := 10) (v := ?_) rfl (by kernel_rfl) (by kernel_rfl) (by kernel_rfl) (fun _ _ _ h => h) (Or.inl ⟨by rfl, ?_⟩) (by assumption) ?_
  rotate_left
  · (intro wS hSw; (try dsimp only at hSw); go_simp; try with_reducible rfl)
  try simp only [Act.put, List.setIfInBounds_toArray, List.set_cons_zero, List.set_cons_succ]
  refine takeL (i := 11) (v := ?_) rfl (by kernel_rfl) (by kernel_rfl) (by kernel_rfl) (fun _ _ _ h => h) (Or.inl ⟨by rfl, ?_⟩) (by assumption) ?_
  rotate_left
  · (intro wS hSw; (try dsimp only at hSw); go_simp; try with_reducible rfl)
  try simp only [Act.put, List.setIfInBounds_toArray, List.set_cons_zero, List.set_cons_succ]
  refine takeL (i := 12) (v := ?_) rfl (by kernel_rfl) (by kernel_rfl) (by kernel_rfl) (fun _ _ _ h => h) (Or.inl ⟨by rfl, ?_⟩) (by assumption) ?_
  rotate_left
  · (intro wS hSw; (try dsimp only at hSw); go_simp; try with_reducible rfl)
  try simp only [Act.put, List.setIfInBounds_toArray, List.set_cons_zero, List.set_cons_succ]
  refine takeL (i := 13) (v := ?_) rfl (by kernel_rfl) (by kernel_rfl) (by kernel_rfl) (fun _ _ _ h => h) (Or.inl ⟨by rfl, ?_⟩) (by assumption) ?_
  rotate_left
  · (intro wS hSw; (try dsimp only at hSw); go_simp; try with_reducible rfl)
  try simp only [Act.put, List.setIfInBounds_toArray, List.set_cons_zero, List.set_cons_succ]
  refine takeL (i := 14) (v := ?_) rfl (by kernel_rfl) (by kernel_rfl) (by kernel_rfl) (fun _ _ _ h => h) (Or.inl ⟨by rfl, ?_⟩) (by assumption) ?_
  rotate_left
  · (intro wS hSw; (try dsimp only at hSw); go_simp; try with_reducible rfl)
  try simp only [Act.put, List.setIfInBounds_toArray, List.set_cons_zero, List.set_cons_succ]
  refine wpAnyH_done (by kernel_rfl) ?_ _
  have HB4 : Hid (Below w.heap.size w w4) := below_nextB HB3.out hsz3 hb4
  have HSB4 : Hid (Sees w4 (some ⟨bb, oo, none⟩) (l.map (Value.int .u8))) := HSB3.out.kept hb4
  clear hb4 hHeld HS2 HS3 HSB HS1 HB1 HB2 HSB2 HB3 HSB3 c1
  go_wp2_with fail
  have hkp : 0 < k := hk1
  have hwv : IntKind.i64.wrap v = v := IntWalk.i64_in _ (by omega)
  have HQ : Hid (∀ wq, Below w4.heap.size w4 wq → wq.cell? ⟨w.heap.size, 0, none⟩ = some (.int .i64 x) ∧ wq.cell? ⟨w.heap.size, 2, none⟩ = some (.int .i64 z) ∧ wq.cell? ⟨bb, oo, none⟩ = some (.int .u8 v)) := hide fun wq hq => ⟨(B4.kept hq).cell 0, (B4.kept hq).cell 2, sees_head (HSB4.out.kept hq) (by rw [List.getElem?_map, HV.out]; rfl)⟩
  refine wp_region_below (by kernel_rfl) (by kernel_rfl) ?_
  iterate 28
    first
      | (refine skipB (by rfl) ?_
         simp only [Act.put, List.setIfInBounds_toArray, List.set_cons_zero, List.set_cons_succ])
      | (refine stepB (by rfl) ?_
         apply Exists.intro
         refine ⟨fun wq hq => ?_, ?_⟩
         · obtain ⟨c0, c1, c2⟩ := HQ.out wq hq
           go_simp
           first
             | done
             | rfl
         simp only [Act.put, List.setIfInBounds_toArray, List.set_cons_zero, List.set_cons_succ])
  refine wpQuiet_nil ?_
  intro wz hz
  have HZ : Hid (Below w4.heap.size w4 wz) := hz
  clear hz
  have hkm : (1 : Int) ≤ (k : Int) := by omega
  have hkn : ((k : Int) - 1).toNat = k - 1 := by omega
  have hkw : IntKind.i64.wrap ((k : Int) - 1) = (k : Int) - 1 := IntWalk.i64_in _ (by omega)
  have hkc : (k : Int) - 1 ≤ (d : Int) := by omega
  have hkc2 : k - 1 ≤ d := by omega
  have hkm6 : k - 1 ≤ 1000000 := by omega
  go_wp2_with fail
  have HQ2 : Hid (∀ wq, Below wz.heap.size wz wq → wq.cell? ⟨w.heap.size, 1, none⟩ = some (.int .i64 y)) := hide fun wq hq => ((B4.kept HZ.out).kept hq).cell 1
  have HQ3 : Hid (∀ wq, Below wz.heap.size wz wq → Sees wq (some ⟨bb, oo, none⟩) (l.dropLast.map (Value.int .u8))) := hide fun wq hq => by
    have := ((HSB4.out.kept HZ.out).kept hq).take (k - 1)
    rw [← List.map_take, ← HK.out, ← List.dropLast_eq_take] at this
    exact this
  have HL2 : Hid (l.dropLast.length = k - 1) := by rw [Hid, List.length_dropLast, HK.out]
  refine wp_region_below (by kernel_rfl) (by kernel_rfl) ?_
  iterate 15
    first
      | (refine skipB (by rfl) ?_
         simp only [Act.put, List.setIfInBounds_toArray, List.set_cons_zero, List.set_cons_succ])
      | (refine stepB (by rfl) ?_
         apply Exists.intro
         refine ⟨fun wq hq => ?_, ?_⟩
         · have c0 := HQ2.out wq hq
           go_simp
           first
             | done
             | rfl
             | (go_at_call 10; ((with_reducible refine (get_q _ (k - 1) _ y l.dropLast _ HL2.out (HQ3.out _ hq) hkm6 HW2 0 0 3 HC).mono ?_); exact fun e w'' ⟨he, hb⟩ => ⟨he, by have := below_next hq hb; simpa using this⟩))
         simp only [Act.put, List.setIfInBounds_toArray, List.set_cons_zero, List.set_cons_succ])
  refine wpQuiet_nil ?_
  intro wy hy
  have HY : Hid (Below w.heap.size w wy) := below_next (below_next HB4.out HZ.out) hy
  clear hy HQ HQ2 HQ3
  go_wp2_with fail
  refine (alive_any _).mono ?_
  rintro e w5 ⟨rfl, hb5⟩
  have HF : Hid (Below w.heap.size w w5) := below_next HY.out hb5
  clear hb5
  go_wp2_with fail
  go_ret
  exact ⟨rfl, HF.out⟩
end Go.Proofs.Ytpkdmbdmfokkiaa
