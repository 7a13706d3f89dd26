/- ChunksCuts's walk. -/
import Derived.Test.YtciddilphflhaaaW
namespace Go.Proofs.Ytciddilphflhaaa
open Go.RowKit

/-- What both cuts make. -/
def cutAll (zs : List Int) (l : CL) : CL := if zs = [] then joinC l else cutC zs l
theorem cutAll_join (zs : List Int) (l : CL) : joinC (cutAll zs l) = joinC l := by
  unfold cutAll
  split
  · exact joinC_joinC l
  · exact (cut_all zs l).2.2.1
theorem cutAll_bd {zs : List Int} {l : CL} {n : Nat} (hn : l.length ≤ n) (h : tot l ≤ n) : (cutAll zs l).length ≤ n ∧ tot (cutAll zs l) ≤ n := by
  unfold cutAll
  split
  · have := joinC_len l; rw [joinC_tot]; omega
  · have := cut_all zs l; omega
theorem cut_any (A Z : Option Addr) (n c nz cz : Nat) (l : CL) (zs : List Int) (w : World) (hl : l.length = n) (hn : n ≤ 5000) (ht : tot l ≤ 5000) (hs : Chunks w A l) (hlz : zs.length = nz) (hnz2 : nz ≤ 5000) (hz : Sees w Z (zs.map (Value.int .i64))) (hzw : ∀ z ∈ zs, -9223372036854775808 ≤ z ∧ z ≤ 9223372036854775807) :
    Calls Try.prog 11 #[.slice A n c, .slice Z nz cz] w (JPost (cutAll zs l) w) := by
  unfold cutAll
  by_cases h0 : nz = 0
  · subst h0
    rw [if_pos (List.eq_nil_of_length_eq_zero hlz)]
    exact cut_none A Z n c cz l w hl hn ht hs
  · rw [if_neg (by intro h; rw [h] at hlz; simp at hlz; omega)]
    exact cut_some A Z n c nz cz l zs w hl hn ht hs hlz (by omega) hnz2 hz hzw
theorem rcut_any (A Z : Option Addr) (n c nz cz : Nat) (l : CL) (zs : List Int) (w : World) (hl : l.length = n) (hn : n ≤ 5000) (ht : tot l ≤ 5000) (hs : Chunks w A l) (hlz : zs.length = nz) (hnz2 : nz ≤ 5000) (hz : Sees w Z (zs.map (Value.int .i64))) (hzw : ∀ z ∈ zs, -9223372036854775808 ≤ z ∧ z ≤ 9223372036854775807) :
    Calls Try.prog 12 #[.slice A n c, .slice Z nz cz] w (JPost (cutAll zs l) w) := by
  unfold cutAll
  by_cases h0 : nz = 0
  · subst h0
    rw [if_pos (List.eq_nil_of_length_eq_zero hlz)]
    exact rcut_none A Z n c cz l w hl hn ht hs
  · rw [if_neg (by intro h; rw [h] at hlz; simp at hlz; omega)]
    exact rcut_some A Z n c nz cz l zs w hl hn ht hs hlz (by omega) hnz2 hz (fun z h => (hzw z h).2)

set_option maxRecDepth 100000 in
set_option maxHeartbeats 1000000 in
theorem cuts_any (A Z : Option Addr) (n c nz cz : Nat) (l : CL) (zs : List Int) (w : World) (hl : l.length = n) (hn : n ≤ maxLen) (hs : Chunks w A l) (hlz : zs.length = nz) (hnz : nz ≤ maxLen) (hz : Sees w Z (zs.map (Value.int .i64))) (hzw : ∀ z ∈ zs, -9223372036854775808 ≤ z ∧ z ≤ 9223372036854775807) :
    Calls Try.prog 4 #[.slice A n c, .slice Z nz cz] w fun e w' => e = .returned (.bool true) ∧ Below w.heap.size w w' := by
  have HLN := hide hl
  have HC := hide hs
  have HLZ := hide hlz
  have HZ := hide hz
  have HZW := hide hzw
  clear hl hs hlz hz hzw
  by_cases hz100 : 100 < nz
  · go_enter Try.func4, Try.ntmps4
    go_wp2_with fail
    refine (large_any A n c 3000 l w HLN.out hn (by decide) HC.out).mono ?_
    rintro e w1 ⟨q, rfl, hq, hb⟩
    have HB1 := hide hb
    clear hq hb
    cases q
    all_goals
      go_wp2_with fail
      refine (alive_any _).mono ?_
      rintro e w7 ⟨rfl, hb⟩
      have HB7 := hide (below_nextB HB1.out HB1.out.size hb)
      clear hb
      go_wp2_with fail
      go_ret
      exact ⟨rfl, HB7.out⟩
  · have hz1 : nz ≤ 100 := by omega
    go_enter Try.func4, Try.ntmps4
    go_wp2_with fail
    refine (large_any A n c 3000 l w HLN.out hn (by decide) HC.out).mono ?_
    rintro e w1 ⟨q, rfl, hq, hb⟩
    have HQ := hide hq
    have HB1 := hide hb
    clear hq hb
    cases q
    · obtain ⟨hn2, ht2⟩ := HQ.out rfl
      go_wp2_with fail
      refine (cut_any A Z n c nz cz l zs w1 HLN.out (by omega) (by omega) (HC.out.kept HB1.out) HLZ.out (by omega) (HZ.out.kept HB1.out) HZW.out).mono ?_
      rintro e w2 ⟨A2, n2, c2, hs2, rfl, ho, hb⟩
      have HN2 := hide ho.num
      have HC2 := hide ho.chunks
      have HB2 := hide (below_nextB HB1.out HB1.out.size hb)
      clear ho hb
      have HJ : Hid (n2 ≤ 3000 ∧ tot (cutAll zs l) ≤ 3000) := hide (by have h1 := cutAll_bd (zs := zs) (l := l) (n := 3000) (by have := HLN.out; omega) ht2; have h2 := HN2.out; omega)
      obtain ⟨hj1, hj2⟩ := HJ.out
      go_wp2_with fail
      refine (rcut_any A Z n c nz cz l zs w2 HLN.out (by omega) (by omega) (HC.out.kept HB2.out) HLZ.out (by omega) (HZ.out.kept HB2.out) HZW.out).mono ?_
      rintro e w3 ⟨A3, n3, c3, hs3, rfl, ho, hb⟩
      obtain rfl : n3 = n2 := by have h1 := ho.num; have h2 := HN2.out; omega
      have HC3 := hide ho.chunks
      have HC2' := hide (HC2.out.kept hb)
      have HB3 := hide (below_nextB HB2.out HB2.out.size hb)
      clear ho hb HC2
      go_wp2_with fail
      refine (same_any A2 A3 n3 c2 c3 (cutAll zs l) w3 HN2.out (by omega) (by omega) HC2'.out HC3.out).mono ?_
      rintro e w4 ⟨rfl, hb⟩
      have HC4 := hide (HC2'.out.kept hb)
      have HB4 := hide (below_nextB HB3.out HB3.out.size hb)
      clear hb HC2' HC3
      go_wp2_with fail
      refine (join_any A2 n3 c2 (cutAll zs l) w4 HN2.out (by omega) (by omega) HC4.out).mono ?_
      rintro e w5 ⟨A5, n5, c5, hs5, rfl, ho, hb⟩
      rw [cutAll_join] at ho
      have HN5 := hide ho.num
      have HC5 := hide ho.chunks
      have HB5 := hide (below_nextB HB4.out HB4.out.size hb)
      clear ho hb HC4
      have hj5 : n5 ≤ 3000 := by have h1 := joinC_len l; have h2 := HN5.out; have h3 := HLN.out; omega
      have HT5 : Hid (tot (joinC l) ≤ 3000) := hide (by rw [joinC_tot]; exact ht2)
      go_wp2_with fail
      refine (rjoin_any A n c l w5 HLN.out (by omega) (by omega) (HC.out.kept HB5.out)).mono ?_
      rintro e w6 ⟨A6, n6, c6, hs6, rfl, ho, hb⟩
      obtain rfl : n6 = n5 := by have h1 := ho.num; have h2 := HN5.out; omega
      have HC6 := hide ho.chunks
      have HC5' := hide (HC5.out.kept hb)
      have HB6 := hide (below_nextB HB5.out HB5.out.size hb)
      clear ho hb HC5
      go_wp2_with fail
      refine (same_any A5 A6 n6 c5 c6 (joinC l) w6 HN5.out (by omega) (by have := HT5.out; omega) HC5'.out HC6.out).mono ?_
      rintro e w7 ⟨rfl, hb⟩
      have HB7 := hide (below_nextB HB6.out HB6.out.size hb)
      clear hb
      go_wp2_with fail
      refine (alive_any _).mono ?_
      rintro e w8 ⟨rfl, hb⟩
      have HB8 := hide (below_nextB HB7.out HB7.out.size hb)
      clear hb
      go_wp2_with fail
      go_ret
      exact ⟨rfl, HB8.out⟩
    · go_wp2_with fail
      refine (alive_any _).mono ?_
      rintro e w7 ⟨rfl, hb⟩
      have HB7 := hide (below_nextB HB1.out HB1.out.size hb)
      clear hb
      go_wp2_with fail
      go_ret
      exact ⟨rfl, HB7.out⟩
end Go.Proofs.Ytciddilphflhaaa
