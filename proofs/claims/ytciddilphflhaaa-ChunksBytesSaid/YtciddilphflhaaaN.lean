/- Contracts: Large, and Same of lists of chunks. -/
import Derived.Test.YtciddilphflhaaaM
namespace Go.Proofs.Ytciddilphflhaaa
open Go.RowKit

/-- What Large says. -/
def LPost (l : CL) (n most : Nat) (w : World) (e : Ending) (w' : World) : Prop :=
  ∃ q : Bool, e = .returned (.bool q) ∧ (q = false → n ≤ 200 ∧ tot l ≤ most) ∧ Below w.heap.size w w'

set_option maxRecDepth 10000 in
theorem large_any (A : Option Addr) (n c most : Nat) (l : CL) (w : World) (hl : l.length = n) (hn : n ≤ maxLen) (hm : most ≤ 100000) (hs : Chunks w A l) :
    Calls Try.prog 6 #[.slice A n c, .int .i64 (most : Nat)] w (LPost l n most w) := by
  have HL := hide hl
  have HC := hide hs
  clear hl hs
  by_cases h2 : 200 < n
  · go_enter Try.func6, Try.ntmps6
    go_wp2_with fail
    go_ret
    exact ⟨true, rfl, (fun h => by cases h), Below.refl _ _⟩
  · have hn2 : n ≤ 200 := by omega
    go_enter Try.func6, Try.ntmps6
    go_wp2_with fail
    go_loopw [5, 6] (fun left i wr => ∃ k t : Nat, k ≤ n ∧ i = .int .i64 (k : Nat) ∧ left = .int .i64 (t : Nat) ∧ t ≤ most ∧ Hid (t + tot (l.take k) = most) ∧ Hid (w = wr)) (fun _ i _ => n - (intOf i).toNat)
    case atStart => exact ⟨0, most, Nat.zero_le _, rfl, rfl, Nat.le_refl _, hide rfl, rfl⟩
    case round =>
      obtain ⟨k, t, hk, rfl, rfl, ht, HT, HW⟩ := hrel
      obtain rfl := HW.out
      by_cases hlt : k < n
      · have hkl : k < l.length := by have := HL.out; omega
        obtain ⟨f, b, hd⟩ : ∃ f b, l[k] = (f, b) := ⟨_, _, rfl⟩
        have hg : l[k]? = some (f, b) := by rw [List.getElem?_eq_getElem hkl, hd]
        obtain ⟨g, oo, B, cb, rfl, c0, c1, hB, hcb, hsb⟩ := HC.out k f b hg
        have HN := hide (tot_take hg)
        have i1 : (k : Int) < (n : Int) := by omega
        have i3 : (0 : Int) ≤ (k : Int) := by omega
        obtain ⟨m, hm'⟩ : ∃ m, b.length = m := ⟨_, rfl⟩
        have hmx : m ≤ maxLen ∨ ¬ m ≤ maxLen := by omega
        rw [hm'] at c1
        have HM := hide hm'
        clear hd hg hB hcb hsb hkl hm' hmx
        by_cases hgt : t < m
        · have i4 : (t : Int) < (m : Int) := by omega
          go_wp2_with fail
          go_ret
          exact ⟨true, rfl, (fun h => by cases h), Below.refl _ _⟩
        · have i4 : ¬ (t : Int) < (m : Int) := by omega
          go_wp2_with fail
          go_roundw
          case rel => exact ⟨k + 1, t - m, by omega, by go_num, by go_num, by omega, hide (by have h1 := HN.out; have h2 := HT.out; have h3 := HM.out; simp at h1; omega), trivial⟩
          case measure => simp [intOf]; omega
      · go_wp2_with fail
        go_ret
        refine ⟨false, rfl, fun _ => ⟨hn2, ?_⟩, Below.refl _ _⟩
        have h1 := HT.out
        rw [List.take_of_length_le (by have := HL.out; omega)] at h1
        omega

set_option maxRecDepth 10000 in
theorem same_any (A B : Option Addr) (n c d : Nat) (l : CL) (w : World) (hl : l.length = n) (hn : n ≤ 100000) (ht : tot l ≤ 100000) (hs : Chunks w A l) (hs' : Chunks w B l) :
    Calls Try.prog 9 #[.slice A n c, .slice B n d] w fun e w' => e = .returned (.bool true) ∧ Below w.heap.size w w' := by
  have HL := hide hl
  have HT := hide ht
  have HA := hide hs
  have HB := hide hs'
  clear hl hs hs' ht
  go_enter Try.func9, Try.ntmps9
  go_wp2_with fail
  go_loopw [5] (fun i wr => ∃ k : Nat, k ≤ n ∧ i = .int .i64 (k : Nat) ∧ Hid (Below w.heap.size w wr)) (fun i _ => n - (intOf i).toNat)
  case atStart => exact ⟨0, Nat.zero_le _, rfl, hide (Below.refl _ _)⟩
  case round =>
    obtain ⟨k, hk, rfl, HW⟩ := hrel
    by_cases hlt : k < n
    · have hkl : k < l.length := by have := HL.out; omega
      obtain ⟨f, b, hd⟩ : ∃ f b, l[k] = (f, b) := ⟨_, _, rfl⟩
      have hg : l[k]? = some (f, b) := by rw [List.getElem?_eq_getElem hkl, hd]
      obtain ⟨m, hm⟩ : ∃ m, b.length = m := ⟨_, rfl⟩
      have HM := hide hm
      have HMT : Hid (m ≤ 1000000) := hide (by have h1 := tot_at hg; have := HT.out; simp at h1; omega)
      obtain ⟨g, oo, D, cd, rfl, c0, c1, _, _, hsb⟩ := (HA.out.kept HW.out) k f b hg
      obtain ⟨g', oo', D', cd', rfl, c0', c1', _, _, hsb'⟩ := (HB.out.kept HW.out) k f b hg
      rw [hm] at c1 c1'
      have HS := hide hsb
      have HS' := hide hsb'
      have i1 : (k : Int) < (n : Int) := by omega
      have i3 : (0 : Int) ≤ (k : Int) := by omega
      have k0 := fun wq (hb : Below _ _ wq) => And.intro ((hb.cell (World.block_lt_of_cell? _ _ c0)).trans c0) (And.intro ((hb.cell (World.block_lt_of_cell? _ _ c1)).trans c1) (And.intro ((hb.cell (World.block_lt_of_cell? _ _ c0')).trans c0') ((hb.cell (World.block_lt_of_cell? _ _ c1')).trans c1')))
      have HC := hide k0
      clear hd hg hkl hm hsb hsb' k0
      go_wp2_with fail
      refine wp_region_below (by kernel_rfl) (by kernel_rfl) ?_
      iterate 25
        first
          | (refine skipB (by rfl) ?_
             simp only [Act.put, List.setIfInBounds_toArray, List.set_cons_zero, List.set_cons_succ])
          | (refine stepB (by rfl) ?_
             apply Exists.intro
             refine ⟨fun wq hq => ?_, ?_⟩
             · obtain ⟨c0, c1, c2, c3⟩ := HC.out wq hq
               go_simp
               first
                 | done
                 | rfl
                 | (go_at_call 15; ((with_reducible refine (same01 D D' m cd cd' b _ HM.out HMT.out (HS.out.kept hq) (HS'.out.kept hq)).mono ?_); exact fun e w'' ⟨he, hb⟩ => ⟨he, by have := below_next hq hb; simpa using this⟩))
             simp only [Act.put, List.setIfInBounds_toArray, List.set_cons_zero, List.set_cons_succ])
      refine wpQuiet_nil ?_
      intro wz hz
      have HW' := hide (below_nextB HW.out HW.out.size hz)
      go_wp2_with fail
      go_roundw
      case rel => exact ⟨k + 1, by omega, by go_num, HW'⟩
      case measure => simp [intOf]; omega
    · go_wp2_with fail
      go_ret
      exact ⟨rfl, HW.out⟩
end Go.Proofs.Ytciddilphflhaaa
