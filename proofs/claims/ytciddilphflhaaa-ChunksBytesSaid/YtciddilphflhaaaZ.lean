/- Law ChunksBytes. -/
import Derived.Test.YtciddilphflhaaaU
namespace Go.Proofs.Ytciddilphflhaaa
open Go.RowKit

set_option maxRecDepth 10000 in
theorem bytes_any (A : Option Addr) (n c : Nat) (s : Int) (l : CL) (w : World) (hl : l.length = n) (hn : n ≤ maxLen) (hs : Chunks w A l) : Calls Try.prog 5 #[.slice A n c, .int .i64 s] w fun e w' => e = .returned (.bool true) ∧ Below w.heap.size w w' := by
  have HLN := hide hl
  have HC := hide hs
  clear hl hs
  go_enter Try.func5, Try.ntmps5
  go_wp2_with fail
  refine (large_any A n c 3000 l w HLN.out hn (by decide) HC.out).mono ?_
  rintro e w1 ⟨q, rfl, hq, hb⟩
  have HQ := hide hq
  have HB1 := hide hb
  clear hq hb
  cases q
  · obtain ⟨hn2, ht2⟩ := HQ.out rfl
    have HT2 := hide ht2
    clear ht2
    go_wp2_with fail
    go_loopw [5, 13] (fun tv iv wr => ∃ (i t : Nat), tv = .int .i64 (t : Nat) ∧ iv = .int .i64 (i : Nat) ∧ i ≤ n ∧ Hid (tot (l.take i) = t) ∧ Hid (Below w.heap.size w wr)) (fun _ iv _ => n - (intOf iv).toNat)
    case atStart => exact ⟨0, 0, rfl, rfl, Nat.zero_le _, hide rfl, HB1⟩
    case round =>
      obtain ⟨i, t, rfl, rfl, hi, HM, HW⟩ := hrel
      by_cases hlt : i < n
      · have hil : i < l.length := by have := HLN.out; omega
        obtain ⟨f, b, hd⟩ : ∃ f b, l[i] = (f, b) := ⟨_, _, rfl⟩
        have hg : l[i]? = some (f, b) := by rw [List.getElem?_eq_getElem hil, hd]
        obtain ⟨ga, oa, D, cd, rfl, s0, s1, _, _, _⟩ := (HC.out.kept HW.out) i f b hg
        obtain ⟨k, hk⟩ : ∃ k, b.length = k := ⟨_, rfl⟩
        rw [hk] at s1
        have HK := hide hk
        have HJ := hide (tot_take hg)
        have hkm : t + k ≤ 5000 := by
          have h2 := tot_take hg
          have h3 := tot_le l (i + 1)
          have h4 := HT2.out
          have h5 := HM.out
          simp at h2
          omega
        obtain ⟨W1, hW1⟩ : ∃ W1, wr.alloc (.cells #[.int .i64 f, .slice D k cd] 33) = W1 := ⟨_, rfl⟩
        obtain ⟨wb, hwb⟩ : ∃ wb, wr.heap.size = wb := ⟨_, rfl⟩
        have hb1 : Below wr.heap.size wr W1 := by rw [← hW1]; exact (Below.refl _ _).alloc (Nat.le_refl _) _
        have HX1 : Hid (Blk W1 wb 33 #[.int .i64 f, .slice D k cd]) := hide (by rw [← hW1, ← hwb]; exact Blk.born wr 33 _)
        have d1 : W1.cell? ⟨wb, 1, none⟩ = some (.slice D k cd) := HX1.out.cell 1
        have HW1 := hide (below_nextB HW.out HW.out.size hb1)
        have i1 : (i : Int) < (n : Int) := by omega
        have i3 : (0 : Int) ≤ (i : Int) := by omega
        clear hd hg hil hk hb1
        go_wp2_with fail
        go_roundw
        case rel => exact ⟨i + 1, t + k, by go_num, by go_num, by omega, hide (by rw [HJ.out, HM.out]; dsimp only; rw [HK.out]), HW1⟩
        case measure => simp [intOf]; omega
      · have HE : Hid (l.take i = l) := hide (List.take_of_length_le (by have := HLN.out; omega))
        have HM2 : Hid (tot l = t) := hide (by have := HM.out; rwa [HE.out] at this)
        go_wp2_with fail
        refine (right_any A n c l wr HLN.out (by omega) (HC.out.kept HW.out)).mono ?_
        rintro e w2 ⟨rfl, hb⟩
        have HB2 := hide (below_nextB HW.out HW.out.size hb)
        clear hb
        go_wp2_with fail
        refine (rright_any A n c l w2 HLN.out (by omega) (HC.out.kept HB2.out)).mono ?_
        rintro e w3 ⟨rfl, hb⟩
        have HB3 := hide (below_nextB HB2.out HB2.out.size hb)
        clear hb
        have hqq : (rightL l == rightL l) = true := beq_self_eq_true _
        go_wp2_with fail
        refine (bytes16_any A n c s l w3 HLN.out (by omega) (by have := HT2.out; omega) (HC.out.kept HB3.out)).mono ?_
        rintro e w4 ⟨A4, n4, c4, rfl, hn4, ho, hb⟩
        have HN4 := hide hn4
        have HS4 := hide (Sees.of_own ho)
        have HB4 := hide (below_nextB HB3.out HB3.out.size hb)
        have hle4 : n4 ≤ 3000 := by have h1 := byt_len l s; have h2 := HT2.out; omega
        clear ho hb hn4
        go_wp2_with fail
        refine (rbytes_any A n c s l w4 HLN.out (by omega) (by have := HT2.out; omega) (HC.out.kept HB4.out)).mono ?_
        rintro e w5 ⟨A5, n5, c5, rfl, hn5, ho, hb⟩
        obtain rfl : n5 = n4 := by have := HN4.out; omega
        have HS5 := hide (Sees.of_own ho)
        have HS4' := hide (HS4.out.kept hb)
        have HB5 := hide (below_nextB HB4.out HB4.out.size hb)
        clear ho hb hn5
        go_wp2_with fail
        refine (same01 A4 A5 n5 c4 c5 (byt l s) w5 HN4.out (by omega) HS4'.out HS5.out).mono ?_
        rintro e w6 ⟨rfl, hb⟩
        have HB6 := hide (below_nextB HB5.out HB5.out.size hb)
        clear hb
        go_wp2_with fail
        have hto := total_any A n c l w6 HLN.out (by omega) (by have := HT2.out; omega) (HC.out.kept HB6.out)
        rw [HM2.out] at hto
        refine hto.mono ?_
        rintro e w7 ⟨rfl, hb⟩
        have HB7 := hide (below_nextB HB6.out HB6.out.size hb)
        clear hb hto
        go_wp2_with fail
        refine (alive_any _).mono ?_
        rintro e w8 ⟨rfl, hb⟩
        have HB8 := hide (below_nextB HB7.out HB7.out.size hb)
        clear hb
        go_wp2_with fail
        go_ret
        exact ⟨rfl, HB8.out⟩
  · go_wp2_with fail
    refine (alive_any _).mono ?_
    rintro e w7 ⟨rfl, hb⟩
    have HB7 := hide (below_nextB HB1.out HB1.out.size hb)
    clear hb
    go_wp2_with fail
    go_ret
    exact ⟨rfl, HB7.out⟩
end Go.Proofs.Ytciddilphflhaaa
