/- Contracts: large, the example. -/
import Derived.Test.YtpjibdnoiioaoaaX
namespace Go.Proofs.Ytpjibdnoiioaoaa
open Go.RowKit
set_option linter.unusedSimpArgs false
set_option linter.unusedVariables false

def LgPost (n : Nat) (l : List FV) (w : World) (e : Ending) (w' : World) : Prop := ∃ q : Bool, e = .returned (.bool q) ∧ (q = false → n ≤ 40 ∧ ∀ x ∈ l, x.dn ≤ 2000 ∧ x.sn ≤ 100) ∧ Below w.heap.size w w'
set_option maxRecDepth 100000 in
theorem large_any (A : Option Addr) (n c : Nat) (l : List FV) (w : World) (hn : n ≤ maxLen) (hl : RowF w (fun b => b < w.heap.size) A n c l) (hin : ∀ x ∈ l, FIn w x) : Calls Try.prog 6 #[.slice A n c] w (LgPost n l w) := by
  have HL := hide hl
  have HIN := hide hin
  have HNM := hide hl.num
  have hn63 : (n : Int) ≤ 9223372036854775807 := by unfold maxLen at hn; omega
  clear hl hin
  by_cases h40 : n > 40
  · have h1 : (n : Int) > 40 := by omega
    go_enter Try.func6, Try.ntmps6
    go_wp2_with fail
    go_ret
    exact ⟨true, rfl, (fun h => by cases h), Below.refl _ _⟩
  · have h1 : ¬ (n : Int) > 40 := by omega
    go_enter Try.func6, Try.ntmps6
    go_wp2_with fail
    go_loopw [3] (fun iv wr => ∃ i : Nat, iv = .int .i64 (i : Nat) ∧ i ≤ n ∧ Hid (∀ x ∈ l.take i, x.dn ≤ 2000 ∧ x.sn ≤ 100) ∧ Hid (Below w.heap.size w wr)) (fun iv _ => n - (intOf iv).toNat)
    case atStart => exact ⟨0, rfl, Nat.zero_le _, hide (fun x hx => by simp at hx), hide (Below.refl _ _)⟩
    case round =>
      obtain ⟨i, rfl, hi, HM, HW⟩ := hrel
      by_cases hlt : i < n
      · have hil : i < l.length := by have := HNM.out; omega
        obtain ⟨x, hx⟩ : ∃ x, l[i]? = some x := ⟨_, List.getElem?_eq_getElem hil⟩
        have HX := hide hx
        obtain ⟨gm, om, rfl, _, hcs⟩ := (HL.out.kept HW.out).at hx
        have hfi := HIN.out x (List.mem_of_getElem? hx)
        have k0 : wr.cell? ⟨gm, om + i * 13, none⟩ = some (.int .i64 x.f.ty) := by have := hcs 0 _ rfl; simpa using this
        have k1 : wr.cell? ⟨gm, om + i * 13 + 1, none⟩ = some (.int .i64 x.f.fl) := by rw [Nat.add_assoc]; exact hcs 1 _ rfl
        have k2 : wr.cell? ⟨gm, om + i * 13 + 2, none⟩ = some (.int .i64 x.f.st) := by rw [Nat.add_assoc]; exact hcs 2 _ rfl
        have k3 : wr.cell? ⟨gm, om + i * 13 + 3, none⟩ = some (.int .i64 x.f.pad) := by rw [Nat.add_assoc]; exact hcs 3 _ rfl
        have k4 : wr.cell? ⟨gm, om + i * 13 + 4, none⟩ = some (.slice x.D x.dn x.dc) := by rw [Nat.add_assoc]; exact hcs 4 _ rfl
        have k5 : wr.cell? ⟨gm, om + i * 13 + 5, none⟩ = some (.slice x.S x.sn x.sc) := by rw [Nat.add_assoc]; exact hcs 5 _ rfl
        have k6 : wr.cell? ⟨gm, om + i * 13 + 6, none⟩ = some (.int .i64 x.f.wt) := by rw [Nat.add_assoc]; exact hcs 6 _ rfl
        have k7 : wr.cell? ⟨gm, om + i * 13 + 7, none⟩ = some (.int .i64 x.f.par) := by rw [Nat.add_assoc]; exact hcs 7 _ rfl
        have k8 : wr.cell? ⟨gm, om + i * 13 + 8, none⟩ = some (.bool x.f.alone) := by rw [Nat.add_assoc]; exact hcs 8 _ rfl
        have k9 : wr.cell? ⟨gm, om + i * 13 + 9, none⟩ = some (.int .i64 x.f.prom) := by rw [Nat.add_assoc]; exact hcs 9 _ rfl
        have k10 : wr.cell? ⟨gm, om + i * 13 + 10, none⟩ = some (.int .i64 x.f.last) := by rw [Nat.add_assoc]; exact hcs 10 _ rfl
        have k11 : wr.cell? ⟨gm, om + i * 13 + 11, none⟩ = some (.int .i64 x.f.code) := by rw [Nat.add_assoc]; exact hcs 11 _ rfl
        have k12 : wr.cell? ⟨gm, om + i * 13 + 12, none⟩ = some (.int .i64 x.f.step) := by rw [Nat.add_assoc]; exact hcs 12 _ rfl
        have i1 : (i : Int) < (n : Int) := by omega
        have i3 : (0 : Int) ≤ (i : Int) := by omega
        have hc := fun w => hide (large15 x.f x.D x.S x.dn x.dc x.sn x.sc w hfi.dm hfi.sm)
        clear hcs hx hil hfi
        cases hq : (decide (2000 < x.dn) || decide (100 < x.sn))
        · have HD : Hid (x.dn ≤ 2000 ∧ x.sn ≤ 100) := hide (by simpa using hq)
          simp only [hq] at hc
          clear hq
          go_wp2_with fail
          refine (hc _).out.mono ?_
          rintro e w1 ⟨rfl, hb⟩
          have HW1 := hide (below_nextB HW.out HW.out.size hb)
          clear hb hc
          go_wp2_with fail
          go_roundw
          case rel => exact ⟨i + 1, by go_num, by omega, hide (fun z hz => by
            obtain ⟨hk, e⟩ := List.getElem?_eq_some_iff.1 HX.out
            rw [List.take_succ_eq_append_getElem hk, e, List.mem_append, List.mem_singleton] at hz
            rcases hz with hz | rfl
            · exact HM.out z hz
            · exact HD.out), HW1⟩
          case measure => simp [intOf]; omega
        · simp only [hq] at hc
          clear hq
          go_wp2_with fail
          refine (hc _).out.mono ?_
          rintro e w1 ⟨rfl, hb⟩
          have HW1 := hide (below_nextB HW.out HW.out.size hb)
          clear hb hc
          go_wp2_with fail
          go_ret
          exact ⟨true, rfl, (fun h => by cases h), HW1.out⟩
      · have HE : Hid (∀ x ∈ l, x.dn ≤ 2000 ∧ x.sn ≤ 100) := hide (by have := HM.out; rwa [List.take_of_length_le (by have := HNM.out; omega)] at this)
        go_wp2_with fail
        go_ret
        exact ⟨false, rfl, fun _ => ⟨by omega, HE.out⟩, HW.out⟩

def f1 : Fr := ⟨1, 0, 1, 0, [1, 2], [], 0, 0, false, 0, 0, 0, 0⟩
def f2 : Fr := ⟨6, 0, 0, 0, [], [], 0, 0, false, 0, 0, 0, 0⟩
def f3 : Fr := ⟨9, 4, 1, 0, [3], [], 0, 0, false, 0, 0, 0, 0⟩
def f4 : Fr := ⟨1, 0, 1, 0, [1, 2, 3], [], 0, 0, false, 0, 0, 0, 0⟩
theorem st1 : stepL 100 [] f1 = ([f1], Fr.zero, false, 0) := rfl
theorem st2 : stepL 100 [f1] f2 = ([f1], Fr.zero, false, 4) := rfl
theorem st3 : stepL 100 [f1] f3 = ([], f4, true, 0) := rfl
set_option maxRecDepth 100000 in
set_option maxHeartbeats 4000000 in
theorem alive_any (w : World) : Calls Try.prog 7 #[] w fun e w' => e = .returned (.bool true) ∧ Below w.heap.size w w' := by
  go_enter Try.func7, Try.ntmps7
  go_wp2_with fail
  refine (new_any 100 100 w rfl).mono ?_
  rintro e w0 ⟨rfl, hN, hb⟩
  obtain ⟨g, hg⟩ : ∃ g, w.heap.size = g := ⟨_, rfl⟩
  rw [hg] at hN ⊢
  have HG := hide hg
  have HB0 : Hid (Below w.heap.size w w0 ∧ ∀ b ∈ [g], w.heap.size ≤ b) := hide ⟨hb, fun b hb => by rw [List.mem_singleton.1 hb]; omega⟩
  have HA0 : Hid (AsmL w0 g 100 [] [g] NoG) := hide (AsmL.fresh hN)
  obtain ⟨F0, hF0⟩ : ∃ F0, [g] = F0 := ⟨_, rfl⟩
  rw [hF0] at HB0 HA0
  clear hN hb hg hF0
  obtain ⟨b1, hb1⟩ : ∃ b1, w0.heap.size = b1 := ⟨_, rfl⟩
  obtain ⟨v1, hv1⟩ : ∃ v1, w0.alloc (.cells #[.int .u8 1, .int .u8 2] 5) = v1 := ⟨_, rfl⟩
  have hbel : Below w0.heap.size w0 v1 := by rw [← hv1]; exact (Below.refl _ _).alloc (Nat.le_refl _) _
  have HA1' := hide (HA0.out.kept hbel)
  have HS1 : Hid (FS v1 (fun b => b ∉ F0) f1 (some ⟨b1, 0, none⟩) 2 2 none 0 0) := hide (by
    have h1 : Sees v1 (some ⟨b1, 0, none⟩) (u8s f1.data) := by rw [← hv1, ← hb1]; exact Sees.born w0 5 #[.int .u8 1, .int .u8 2] (0, 0)
    have hlt := HA0.out.lt
    refine ⟨rfl, rfl, ⟨(fun h => by cases h), Nat.le_refl _, fun i u hi => ?_⟩, Sl.nil _ _⟩
    obtain ⟨b, o, e, hc⟩ := h1 i u hi
    injection e with e; injection e with e1 e2
    exact ⟨b, o, by rw [e1, e2], fun hm => by have := hlt b hm; omega, hc⟩)
  have HV1 : Hid (Below w.heap.size w v1) := hide (below_nextB HB0.out.1 HB0.out.1.size hbel)
  clear hbel
  have hop : Calls Try.prog 11 #[.pointer (some ⟨g, 0, none⟩), .agg #[.int .i64 f1.ty, .int .i64 f1.fl, .int .i64 f1.st, .int .i64 f1.pad, .slice (some ⟨b1, 0, none⟩) 2 2, .slice none 0 0, .int .i64 f1.wt, .int .i64 f1.par, .bool f1.alone, .int .i64 f1.prom, .int .i64 f1.last, .int .i64 f1.code, .int .i64 f1.step]] v1 fun e w' => ∃ (F' : List Nat) (D S : Option Addr) (dn dc sn sc : Nat), e = .returned (.tuple #[.agg #[.int .i64 0, .int .i64 0, .int .i64 0, .int .i64 0, .slice D dn dc, .slice S sn sc, .int .i64 0, .int .i64 0, .bool false, .int .i64 0, .int .i64 0, .int .i64 0, .int .i64 0], .bool false, .int .i64 0]) ∧ AsmL w' g 100 [f1] F' NoG ∧ Only F0 v1 w' ∧ (∀ b ∈ F', b ∈ F0 ∨ v1.heap.size ≤ b) ∧ FS w' (fun b => b ∉ F') Fr.zero D dn dc S sn sc := by
    have := add_op g 100 F0 NoG [] f1 (some ⟨b1, 0, none⟩) none 2 2 0 0 v1 (fun _ h => h.elim) HA1'.out (by decide) (by decide) (by decide) (by decide) (by decide) (by decide) HS1.out
    rw [st1] at this
    exact this
  go_wp2_with fail
  refine hop.mono ?_
  rintro e x1 ⟨F1, D1, S1, dn1, dc1, sn1, sc1, rfl, hA, hO, hF, hf⟩
  have HX1 : Hid (Below w.heap.size w x1 ∧ ∀ b ∈ F1, w.heap.size ≤ b) := hide ⟨HV1.out.trans (hO.below HV1.out.size HB0.out.2), fun b hb => by
    rcases hF b hb with h1 | h1
    · exact HB0.out.2 b h1
    · have := HV1.out.size; omega⟩
  obtain ⟨t1, ht1⟩ : ∃ t1, x1.heap.size = t1 := ⟨_, rfl⟩
  obtain ⟨z1, hz1⟩ : ∃ z1, x1.alloc (.cells #[.int .i64 0, .int .i64 0, .int .i64 0, .int .i64 0, .slice none 0 0, .slice none 0 0, .int .i64 0, .int .i64 0, .bool false, .int .i64 0, .int .i64 0, .int .i64 0, .int .i64 0] 30) = z1 := ⟨_, rfl⟩
  have HZ1 : Hid (Blk z1 t1 30 #[.int .i64 0, .int .i64 0, .int .i64 0, .int .i64 0, .slice none 0 0, .slice none 0 0, .int .i64 0, .int .i64 0, .bool false, .int .i64 0, .int .i64 0, .int .i64 0, .int .i64 0]) := hide (by rw [← hz1, ← ht1]; exact Blk.born _ _ _)
  obtain ⟨w1, hw1⟩ : ∃ w1, z1.setRow t1 #[.int .i64 0, .int .i64 0, .int .i64 0, .int .i64 0, .slice D1 dn1 dc1, .slice S1 sn1 sc1, .int .i64 0, .int .i64 0, .bool false, .int .i64 0, .int .i64 0, .int .i64 0, .int .i64 0] = w1 := ⟨_, rfl⟩
  have hbw : Below x1.heap.size x1 w1 := by
    have h1 : Below x1.heap.size x1 z1 := by rw [← hz1]; exact (Below.refl _ _).alloc (Nat.le_refl _) _
    have h2 : Only [t1] z1 w1 := by rw [← hw1]; exact Only.setRow _ _ _ (List.mem_singleton.2 rfl)
    exact h1.trans (h2.below h1.size (fun b hb => by rw [List.mem_singleton.1 hb]; omega))
  have HA1 := hide (hA.kept hbw)
  have HR1 := hide (hf.kept hbw)
  have HB1 : Hid (Below w.heap.size w w1 ∧ ∀ b ∈ F1, w.heap.size ≤ b) := hide ⟨below_nextB HX1.out.1 HX1.out.1.size hbw, HX1.out.2⟩
  have HT1 : Hid (Blk w1 t1 30 #[.int .i64 0, .int .i64 0, .int .i64 0, .int .i64 0, .slice D1 dn1 dc1, .slice S1 sn1 sc1, .int .i64 0, .int .i64 0, .bool false, .int .i64 0, .int .i64 0, .int .i64 0, .int .i64 0]) := hide (by rw [← hw1]; exact HZ1.out.setRow _)
  clear hA hO hF hf hbw hop HV1 HS1 HA1' HA0 HX1
  have HA2' := HA1
  have HS2 : Hid (FS w1 (fun b => b ∉ F1) f2 none 0 0 none 0 0) := hide ⟨rfl, rfl, Sl.nil _ _, Sl.nil _ _⟩
  have HV2 : Hid (Below w.heap.size w w1) := hide HB1.out.1
  have hop : Calls Try.prog 11 #[.pointer (some ⟨g, 0, none⟩), .agg #[.int .i64 f2.ty, .int .i64 f2.fl, .int .i64 f2.st, .int .i64 f2.pad, .slice none 0 0, .slice none 0 0, .int .i64 f2.wt, .int .i64 f2.par, .bool f2.alone, .int .i64 f2.prom, .int .i64 f2.last, .int .i64 f2.code, .int .i64 f2.step]] w1 fun e w' => ∃ (F' : List Nat) (D S : Option Addr) (dn dc sn sc : Nat), e = .returned (.tuple #[.agg #[.int .i64 0, .int .i64 0, .int .i64 0, .int .i64 0, .slice D dn dc, .slice S sn sc, .int .i64 0, .int .i64 0, .bool false, .int .i64 0, .int .i64 0, .int .i64 0, .int .i64 0], .bool false, .int .i64 4]) ∧ AsmL w' g 100 [f1] F' NoG ∧ Only F1 w1 w' ∧ (∀ b ∈ F', b ∈ F1 ∨ w1.heap.size ≤ b) ∧ FS w' (fun b => b ∉ F') Fr.zero D dn dc S sn sc := by
    have := add_op g 100 F1 NoG [f1] f2 none none 0 0 0 0 w1 (fun _ h => h.elim) HA2'.out (by decide) (by decide) (by decide) (by decide) (by decide) (by decide) HS2.out
    rw [st2] at this
    exact this
  go_wp2_with (((with_reducible refine wpList_store_row (o := { dst := none, op := .store 30 (.tmp 2) (.tmp 17), type := _, pos := _, after := _, guard := none }) rfl 30 (.tmp 2) (.tmp 17) rfl t1 #[.int .i64 0, .int .i64 0, .int .i64 0, .int .i64 0, .slice D1 dn1 dc1, .slice S1 sn1 sc1, .int .i64 0, .int .i64 0, .bool false, .int .i64 0, .int .i64 0, .int .i64 0, .int .i64 0] ?_ ?_ 30 #[.int .i64 0, .int .i64 0, .int .i64 0, .int .i64 0, .slice none 0 0, .slice none 0 0, .int .i64 0, .int .i64 0, .bool false, .int .i64 0, .int .i64 0, .int .i64 0, .int .i64 0] ?_ ?_ ?_ ?_ ?_); rfl; rfl; exact HZ1.out; kernel_rfl; rfl; simp [Value.oneCell']))
  refine hop.mono ?_
  rintro e x2 ⟨F2, D2, S2, dn2, dc2, sn2, sc2, rfl, hA, hO, hF, hf⟩
  have HX2 : Hid (Below w.heap.size w x2 ∧ ∀ b ∈ F2, w.heap.size ≤ b) := hide ⟨HV2.out.trans (hO.below HV2.out.size HB1.out.2), fun b hb => by
    rcases hF b hb with h1 | h1
    · exact HB1.out.2 b h1
    · have := HV2.out.size; omega⟩
  obtain ⟨t2, ht2⟩ : ∃ t2, x2.heap.size = t2 := ⟨_, rfl⟩
  obtain ⟨z2, hz2⟩ : ∃ z2, x2.alloc (.cells #[.int .i64 0, .int .i64 0, .int .i64 0, .int .i64 0, .slice none 0 0, .slice none 0 0, .int .i64 0, .int .i64 0, .bool false, .int .i64 0, .int .i64 0, .int .i64 0, .int .i64 0] 30) = z2 := ⟨_, rfl⟩
  have HZ2 : Hid (Blk z2 t2 30 #[.int .i64 0, .int .i64 0, .int .i64 0, .int .i64 0, .slice none 0 0, .slice none 0 0, .int .i64 0, .int .i64 0, .bool false, .int .i64 0, .int .i64 0, .int .i64 0, .int .i64 0]) := hide (by rw [← hz2, ← ht2]; exact Blk.born _ _ _)
  obtain ⟨w2, hw2⟩ : ∃ w2, z2.setRow t2 #[.int .i64 0, .int .i64 0, .int .i64 0, .int .i64 0, .slice D2 dn2 dc2, .slice S2 sn2 sc2, .int .i64 0, .int .i64 0, .bool false, .int .i64 0, .int .i64 0, .int .i64 0, .int .i64 0] = w2 := ⟨_, rfl⟩
  have hbw : Below x2.heap.size x2 w2 := by
    have h1 : Below x2.heap.size x2 z2 := by rw [← hz2]; exact (Below.refl _ _).alloc (Nat.le_refl _) _
    have h2 : Only [t2] z2 w2 := by rw [← hw2]; exact Only.setRow _ _ _ (List.mem_singleton.2 rfl)
    exact h1.trans (h2.below h1.size (fun b hb => by rw [List.mem_singleton.1 hb]; omega))
  have HA2 := hide (hA.kept hbw)
  have HR2 := hide (hf.kept hbw)
  have HB2 : Hid (Below w.heap.size w w2 ∧ ∀ b ∈ F2, w.heap.size ≤ b) := hide ⟨below_nextB HX2.out.1 HX2.out.1.size hbw, HX2.out.2⟩
  have HT2 : Hid (Blk w2 t2 30 #[.int .i64 0, .int .i64 0, .int .i64 0, .int .i64 0, .slice D2 dn2 dc2, .slice S2 sn2 sc2, .int .i64 0, .int .i64 0, .bool false, .int .i64 0, .int .i64 0, .int .i64 0, .int .i64 0]) := hide (by rw [← hw2]; exact HZ2.out.setRow _)
  clear hA hO hF hf hbw hop HV2 HS2 HA2' HA1 HX2
  obtain ⟨b3, hb3⟩ : ∃ b3, w2.heap.size = b3 := ⟨_, rfl⟩
  obtain ⟨v3, hv3⟩ : ∃ v3, w2.alloc (.cells #[.int .u8 3] 5) = v3 := ⟨_, rfl⟩
  have hbel : Below w2.heap.size w2 v3 := by rw [← hv3]; exact (Below.refl _ _).alloc (Nat.le_refl _) _
  have HA3' := hide (HA2.out.kept hbel)
  have HS3 : Hid (FS v3 (fun b => b ∉ F2) f3 (some ⟨b3, 0, none⟩) 1 1 none 0 0) := hide (by
    have h1 : Sees v3 (some ⟨b3, 0, none⟩) (u8s f3.data) := by rw [← hv3, ← hb3]; exact Sees.born w2 5 #[.int .u8 3] (0, 0)
    have hlt := HA2.out.lt
    refine ⟨rfl, rfl, ⟨(fun h => by cases h), Nat.le_refl _, fun i u hi => ?_⟩, Sl.nil _ _⟩
    obtain ⟨b, o, e, hc⟩ := h1 i u hi
    injection e with e; injection e with e1 e2
    exact ⟨b, o, by rw [e1, e2], fun hm => by have := hlt b hm; omega, hc⟩)
  have HV3 : Hid (Below w.heap.size w v3) := hide (below_nextB HB2.out.1 HB2.out.1.size hbel)
  clear hbel
  have hop : Calls Try.prog 11 #[.pointer (some ⟨g, 0, none⟩), .agg #[.int .i64 f3.ty, .int .i64 f3.fl, .int .i64 f3.st, .int .i64 f3.pad, .slice (some ⟨b3, 0, none⟩) 1 1, .slice none 0 0, .int .i64 f3.wt, .int .i64 f3.par, .bool f3.alone, .int .i64 f3.prom, .int .i64 f3.last, .int .i64 f3.code, .int .i64 f3.step]] v3 fun e w' => ∃ (F' : List Nat) (D S : Option Addr) (dn dc sn sc : Nat), e = .returned (.tuple #[.agg #[.int .i64 1, .int .i64 0, .int .i64 1, .int .i64 0, .slice D dn dc, .slice S sn sc, .int .i64 0, .int .i64 0, .bool false, .int .i64 0, .int .i64 0, .int .i64 0, .int .i64 0], .bool true, .int .i64 0]) ∧ AsmL w' g 100 [] F' NoG ∧ Only F2 v3 w' ∧ (∀ b ∈ F', b ∈ F2 ∨ v3.heap.size ≤ b) ∧ FS w' (fun b => b ∉ F') f4 D dn dc S sn sc := by
    have := add_op g 100 F2 NoG [f1] f3 (some ⟨b3, 0, none⟩) none 1 1 0 0 v3 (fun _ h => h.elim) HA3'.out (by decide) (by decide) (by decide) (by decide) (by decide) (by decide) HS3.out
    rw [st3] at this
    exact this
  go_wp2_with (((with_reducible refine wpList_store_row (o := { dst := none, op := .store 30 (.tmp 5) (.tmp 24), type := _, pos := _, after := _, guard := none }) rfl 30 (.tmp 5) (.tmp 24) rfl t2 #[.int .i64 0, .int .i64 0, .int .i64 0, .int .i64 0, .slice D2 dn2 dc2, .slice S2 sn2 sc2, .int .i64 0, .int .i64 0, .bool false, .int .i64 0, .int .i64 0, .int .i64 0, .int .i64 0] ?_ ?_ 30 #[.int .i64 0, .int .i64 0, .int .i64 0, .int .i64 0, .slice none 0 0, .slice none 0 0, .int .i64 0, .int .i64 0, .bool false, .int .i64 0, .int .i64 0, .int .i64 0, .int .i64 0] ?_ ?_ ?_ ?_ ?_); rfl; rfl; exact HZ2.out; kernel_rfl; rfl; simp [Value.oneCell']))
  refine hop.mono ?_
  rintro e x3 ⟨F3, D3, S3, dn3, dc3, sn3, sc3, rfl, hA, hO, hF, hf⟩
  have HX3 : Hid (Below w.heap.size w x3 ∧ ∀ b ∈ F3, w.heap.size ≤ b) := hide ⟨HV3.out.trans (hO.below HV3.out.size HB2.out.2), fun b hb => by
    rcases hF b hb with h1 | h1
    · exact HB2.out.2 b h1
    · have := HV3.out.size; omega⟩
  obtain ⟨t3, ht3⟩ : ∃ t3, x3.heap.size = t3 := ⟨_, rfl⟩
  obtain ⟨z3, hz3⟩ : ∃ z3, x3.alloc (.cells #[.int .i64 0, .int .i64 0, .int .i64 0, .int .i64 0, .slice none 0 0, .slice none 0 0, .int .i64 0, .int .i64 0, .bool false, .int .i64 0, .int .i64 0, .int .i64 0, .int .i64 0] 30) = z3 := ⟨_, rfl⟩
  have HZ3 : Hid (Blk z3 t3 30 #[.int .i64 0, .int .i64 0, .int .i64 0, .int .i64 0, .slice none 0 0, .slice none 0 0, .int .i64 0, .int .i64 0, .bool false, .int .i64 0, .int .i64 0, .int .i64 0, .int .i64 0]) := hide (by rw [← hz3, ← ht3]; exact Blk.born _ _ _)
  obtain ⟨w3, hw3⟩ : ∃ w3, z3.setRow t3 #[.int .i64 1, .int .i64 0, .int .i64 1, .int .i64 0, .slice D3 dn3 dc3, .slice S3 sn3 sc3, .int .i64 0, .int .i64 0, .bool false, .int .i64 0, .int .i64 0, .int .i64 0, .int .i64 0] = w3 := ⟨_, rfl⟩
  have hbw : Below x3.heap.size x3 w3 := by
    have h1 : Below x3.heap.size x3 z3 := by rw [← hz3]; exact (Below.refl _ _).alloc (Nat.le_refl _) _
    have h2 : Only [t3] z3 w3 := by rw [← hw3]; exact Only.setRow _ _ _ (List.mem_singleton.2 rfl)
    exact h1.trans (h2.below h1.size (fun b hb => by rw [List.mem_singleton.1 hb]; omega))
  have HA3 := hide (hA.kept hbw)
  have HR3 := hide (hf.kept hbw)
  have HB3 : Hid (Below w.heap.size w w3 ∧ ∀ b ∈ F3, w.heap.size ≤ b) := hide ⟨below_nextB HX3.out.1 HX3.out.1.size hbw, HX3.out.2⟩
  have HT3 : Hid (Blk w3 t3 30 #[.int .i64 1, .int .i64 0, .int .i64 1, .int .i64 0, .slice D3 dn3 dc3, .slice S3 sn3 sc3, .int .i64 0, .int .i64 0, .bool false, .int .i64 0, .int .i64 0, .int .i64 0, .int .i64 0]) := hide (by rw [← hw3]; exact HZ3.out.setRow _)
  clear hA hO hF hf hbw hop HV3 HS3 HA3' HA2 HX3
  obtain rfl : dn3 = 3 := HR3.out.dl.symm
  have y0 : w3.cell? ⟨t3, 0, none⟩ = some (.int .i64 1) := HT3.out.cell 0
  have y4 : w3.cell? ⟨t3, 4, none⟩ = some (.slice D3 3 dc3) := HT3.out.cell 4
  go_wp2_with (((with_reducible refine wpList_store_row (o := { dst := none, op := .store 30 (.tmp 8) (.tmp 32), type := _, pos := _, after := _, guard := none }) rfl 30 (.tmp 8) (.tmp 32) rfl t3 #[.int .i64 1, .int .i64 0, .int .i64 1, .int .i64 0, .slice D3 3 dc3, .slice S3 sn3 sc3, .int .i64 0, .int .i64 0, .bool false, .int .i64 0, .int .i64 0, .int .i64 0, .int .i64 0] ?_ ?_ 30 #[.int .i64 0, .int .i64 0, .int .i64 0, .int .i64 0, .slice none 0 0, .slice none 0 0, .int .i64 0, .int .i64 0, .bool false, .int .i64 0, .int .i64 0, .int .i64 0, .int .i64 0] ?_ ?_ ?_ ?_ ?_); rfl; rfl; exact HZ3.out; kernel_rfl; rfl; simp [Value.oneCell']))
  refine (same16 D3 (some ⟨w3.heap.size, 0, none⟩) 3 dc3 3 [1, 2, 3] _ rfl (by decide) (HR3.out.d.sees.sees.alloc _) (Sees.born w3 5 #[.int .u8 1, .int .u8 2, .int .u8 3] (0, 0))).mono ?_
  rintro e w4 ⟨rfl, hb⟩
  have HB4 := hide (below_nextB HB3.out.1 HB3.out.1.size (below_base1 hb))
  have HT4 := hide (HT3.out.kept (below_base1 hb))
  have z0 : w4.cell? ⟨t3, 0, none⟩ = some (.int .i64 1) := HT4.out.cell 0
  clear hb
  go_wp2_with fail
  go_ret
  exact ⟨rfl, HB4.out⟩
end Go.Proofs.Ytpjibdnoiioaoaa
