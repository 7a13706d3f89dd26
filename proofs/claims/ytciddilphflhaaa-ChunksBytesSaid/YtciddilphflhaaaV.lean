/- The chapter's example; ChunksJoins's and ChunksCuts's walks. -/
import Derived.Test.YtciddilphflhaaaR
import Derived.Test.YtciddilphflhaaaN
namespace Go.Proofs.Ytciddilphflhaaa
open Go.RowKit

/-- Chunks laid out in one block. -/
theorem chunks_blk {w : World} {g : Nat} {cs : Array Value} (ds : List (Int × List Int × Nat)) (hc : cs = (ds.flatMap fun d => [Value.int .i64 d.1, .slice (some ⟨d.2.2, 0, none⟩) d.2.1.length d.2.1.length]).toArray) (h : Blk w g 33 cs) (hb : ∀ d ∈ ds, Sees w (some ⟨d.2.2, 0, none⟩) (d.2.1.map (Value.int .u8))) :
    Chunks w (some ⟨g, 0, none⟩) (ds.map fun d => (d.1, d.2.1)) := fun i f b hi => by
  subst hc
  rw [List.getElem?_map] at hi
  cases hd : ds[i]? with
  | none => rw [hd] at hi; cases hi
  | some d =>
    rw [hd] at hi
    injection hi with hi
    injection hi with h1 h2
    subst h1 h2
    have e : (ds.flatMap fun d => [Value.int .i64 d.1, .slice (some ⟨d.2.2, 0, none⟩) d.2.1.length d.2.1.length]) = cellsC (ds.map fun d => (d.1, Value.slice (some ⟨d.2.2, 0, none⟩) d.2.1.length d.2.1.length)) := by
      unfold cellsC; rw [List.flatMap_map]
    rw [e] at h
    obtain ⟨c0, c1⟩ := cellsC_get (hs := ds.map fun d => (d.1, Value.slice (some ⟨d.2.2, 0, none⟩) d.2.1.length d.2.1.length)) (i := i) (by rw [List.getElem?_map, hd]; rfl)
    refine ⟨g, 0, some ⟨d.2.2, 0, none⟩, d.2.1.length, rfl, ?_, ?_, (fun h => by cases h), Nat.le_refl _, hb d (List.mem_of_getElem? hd)⟩
    · rw [Nat.zero_add, h.cell]; simpa using c0
    · rw [Nat.zero_add, h.cell]; simpa using c1

def exIn : CL := [(0, [97, 98, 99]), (1, [100])]
def exOut : CL := [(0, [97, 98]), (0, [99]), (1, [100])]
theorem exCut : cutC [2, 1] exIn = exOut := by decide

theorem born_big {W : World} {g : Nat} {t : TypeId} {cs : Array Value} {fr : Nat × Nat} (h : W.heap.size = g) : Sees (W.alloc (.cells cs t fr)) (some ⟨g, 0, none⟩) cs.toList := by
  subst h
  exact Sees.born W t cs fr
theorem blk_big {W : World} {g : Nat} {t : TypeId} {cs : Array Value} (h : W.heap.size = g) : Blk (W.alloc (.cells cs t)) g t cs := by
  subst h
  exact Blk.born W t cs
/-- The example's chunks, as they are laid. -/
theorem ex_in (w : World) : Chunks ((((w.alloc (.cells #[.int .u8 97, .int .u8 98, .int .u8 99] 5 (3, 4))).alloc (.cells #[.int .u8 100] 5 (1, 2))).alloc (.cells #[.int .i64 0, .slice (some ⟨w.heap.size, 0, none⟩) 3 3, .int .i64 1, .slice (some ⟨w.heap.size + 1, 0, none⟩) 1 1] 33)).alloc (.cells #[.int .i64 2, .int .i64 1] 3)) (some ⟨w.heap.size + 1 + 1, 0, none⟩) exIn := by
  refine chunks_blk [(0, [97, 98, 99], w.heap.size), (1, [100], w.heap.size + 1)] rfl ((blk_big (by simp)).alloc _) (fun d hd => ?_)
  simp at hd
  rcases hd with rfl | rfl
  · exact (((born_big (W := w) (cs := #[.int .u8 97, .int .u8 98, .int .u8 99]) rfl).alloc _).alloc _).alloc _
  · exact ((born_big (cs := #[.int .u8 100]) (by simp)).alloc _).alloc _
theorem ex_out (w : World) : Chunks ((((w.alloc (.cells #[.int .u8 97, .int .u8 98] 5 (2, 3))).alloc (.cells #[.int .u8 99] 5 (1, 2))).alloc (.cells #[.int .u8 100] 5 (1, 2))).alloc (.cells #[.int .i64 0, .slice (some ⟨w.heap.size, 0, none⟩) 2 2, .int .i64 0, .slice (some ⟨w.heap.size + 1, 0, none⟩) 1 1, .int .i64 1, .slice (some ⟨w.heap.size + 1 + 1, 0, none⟩) 1 1] 33)) (some ⟨w.heap.size + 1 + 1 + 1, 0, none⟩) exOut := by
  refine chunks_blk [(0, [97, 98], w.heap.size), (0, [99], w.heap.size + 1), (1, [100], w.heap.size + 1 + 1)] rfl (blk_big (by simp)) (fun d hd => ?_)
  simp at hd
  rcases hd with rfl | rfl | rfl
  · exact (((born_big (W := w) (cs := #[.int .u8 97, .int .u8 98]) rfl).alloc _).alloc _).alloc _
  · exact ((born_big (cs := #[.int .u8 99]) (by simp)).alloc _).alloc _
  · exact (born_big (cs := #[.int .u8 100]) (by simp)).alloc _
theorem alloc4 {w w' : World} {o1 o2 o3 o4 : Obj} (h : Below ((((w.alloc o1).alloc o2).alloc o3).alloc o4).heap.size ((((w.alloc o1).alloc o2).alloc o3).alloc o4) w') : Below w.heap.size w w' :=
  below_nextB (((((Below.refl _ w).alloc (Nat.le_refl _) _).alloc (by simp) _).alloc (by simp; omega) _).alloc (by simp; omega) _) (by simp; omega) h

set_option maxRecDepth 100000 in
theorem alive_any (w : World) : Calls Try.prog 7 #[] w fun e w' => e = .returned (.bool true) ∧ Below w.heap.size w w' := by
  have kc : ∀ (W : World) (C : Array Value) (n c g : Nat), W.heap.size = g → (convert 31 31 (.slice (some ⟨g, 0, none⟩) n c)).run Try.prog (W.alloc (.cells C 5)) = .ok (.slice (some ⟨g, 0, none⟩) n c) (W.alloc (.cells C 5 (C.size, C.size + 1))) := fun W C n c g h => by
    subst h
    exact Lib.run_convert_bytes_const (P := Try.prog) W 31 5 C n c Try.underlying31 Try.underlying5
  go_enter Try.func7, Try.ntmps7
  go_wp2_with fail
  refine (cut_some _ (some ⟨w.heap.size + 1 + 1 + 1, 0, none⟩) 2 2 2 2 exIn [2, 1] _ rfl (by decide) (by decide) (ex_in w) rfl (by decide) (by decide) (born_big (cs := #[.int .i64 2, .int .i64 1]) (by simp)) (fun z hz => by simp at hz; omega)).mono ?_
  rintro e w2 ⟨A2, n2, c2, hs2, rfl, ho, hb⟩
  rw [exCut] at ho
  obtain rfl : 3 = n2 := ho.num
  have HB := hide (alloc4 hb)
  have HC := hide ho.chunks
  clear ho hb
  go_wp2_with fail
  refine (same_any A2 (some ⟨w2.heap.size + 1 + 1 + 1, 0, none⟩) 3 c2 3 exOut _ rfl (by decide) (by decide) ((((HC.out.kept ((Below.refl _ _).alloc (Nat.le_refl _) _)).kept ((Below.refl _ _).alloc (Nat.le_refl _) _)).kept ((Below.refl _ _).alloc (Nat.le_refl _) _)).kept ((Below.refl _ _).alloc (Nat.le_refl _) _)) (ex_out w2)).mono ?_
  rintro e w3 ⟨rfl, hb⟩
  have HB3 := hide (below_nextB HB.out HB.out.size (alloc4 hb))
  clear hb
  go_wp2_with fail
  go_ret
  exact ⟨rfl, HB3.out⟩

/-! ### The laws' walks -/
set_option maxRecDepth 100000 in
set_option maxHeartbeats 1000000 in
theorem joins_any (A : Option Addr) (n c : Nat) (l : CL) (w : World) (hl : l.length = n) (hn : n ≤ maxLen) (hs : Chunks w A l) : Calls Try.prog 3 #[.slice A n c] w fun e w' => e = .returned (.bool true) ∧ Below w.heap.size w w' := by
  have HLN := hide hl
  have HC := hide hs
  clear hl hs
  go_enter Try.func3, Try.ntmps3
  go_wp2_with fail
  refine (large_any A n c 3000 l w HLN.out hn (by decide) HC.out).mono ?_
  rintro e w1 ⟨q, rfl, hq, hb⟩
  have HQ := hide hq
  have HB1 := hide hb
  clear hq hb
  cases q
  · obtain ⟨hn2, ht2⟩ := HQ.out rfl
    go_wp2_with fail
    refine (join_any A n c l w1 HLN.out (by omega) (by omega) (HC.out.kept HB1.out)).mono ?_
    rintro e w2 ⟨A2, n2, c2, hs2, rfl, ho, hb⟩
    have HN2 := hide ho.num
    have HC2 := hide ho.chunks
    have HB2 := hide (below_nextB HB1.out HB1.out.size hb)
    clear ho hb
    have HJ : Hid (n2 ≤ 200 ∧ tot (joinC l) ≤ 3000) := hide ⟨by have h1 := joinC_len l; have h2 := HN2.out; have h3 := HLN.out; omega, by rw [joinC_tot]; exact ht2⟩
    obtain ⟨hj1, hj2⟩ := HJ.out
    go_wp2_with fail
    refine (rjoin_any A n c l w2 HLN.out (by omega) (by omega) (HC.out.kept HB2.out)).mono ?_
    rintro e w3 ⟨A3, n3, c3, hs3, rfl, ho, hb⟩
    obtain rfl : n3 = n2 := by have h1 := ho.num; have h2 := HN2.out; omega
    have HC3 := hide ho.chunks
    have HC2' := hide (HC2.out.kept hb)
    have HB3 := hide (below_nextB HB2.out HB2.out.size hb)
    clear ho hb HC2
    go_wp2_with fail
    refine (same_any A2 A3 n3 c2 c3 (joinC l) w3 HN2.out (by omega) (by omega) HC2'.out HC3.out).mono ?_
    rintro e w4 ⟨rfl, hb⟩
    have HC4 := hide (HC2'.out.kept hb)
    have HB4 := hide (below_nextB HB3.out HB3.out.size hb)
    clear hb HC2' HC3
    go_wp2_with fail
    refine (join_any A2 n3 c2 (joinC l) w4 HN2.out (by omega) (by omega) HC4.out).mono ?_
    rintro e w5 ⟨A5, n5, c5, hs5, rfl, ho, hb⟩
    rw [joinC_joinC] at ho
    obtain rfl : n5 = n3 := by have h1 := ho.num; have h2 := HN2.out; omega
    have HC5 := hide ho.chunks
    have HC4' := hide (HC4.out.kept hb)
    have HB5 := hide (below_nextB HB4.out HB4.out.size hb)
    clear ho hb HC4
    go_wp2_with fail
    refine (same_any A5 A2 n5 c5 c2 (joinC l) w5 HN2.out (by omega) (by omega) HC5.out HC4'.out).mono ?_
    rintro e w6 ⟨rfl, hb⟩
    have HB6 := hide (below_nextB HB5.out HB5.out.size hb)
    clear hb
    go_wp2_with fail
    refine (alive_any _).mono ?_
    rintro e w7 ⟨rfl, hb⟩
    have HB7 := hide (below_nextB HB6.out HB6.out.size hb)
    clear hb
    go_wp2_with fail
    go_ret
    exact ⟨rfl, HB7.out⟩
  · go_wp2_with fail
    refine (alive_any _).mono ?_
    rintro e w7 ⟨rfl, hb⟩
    have HB7 := hide (below_nextB HB1.out HB1.out.size hb)
    clear hb
    go_wp2_with fail
    go_ret
    exact ⟨rfl, HB7.out⟩
end Go.Proofs.Ytciddilphflhaaa
