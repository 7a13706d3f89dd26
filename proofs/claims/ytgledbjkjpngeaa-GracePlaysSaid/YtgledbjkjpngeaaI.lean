/- The reference's New; its Close of a number that was closed. -/
import Derived.Test.YtgledbjkjpngeaaH
namespace Go.Proofs.Ytgledbjkjpngeaa
open Go.RowKit Go.Maps

set_option maxRecDepth 10000 in
set_option maxHeartbeats 1000000 in
theorem rnew_any (M : Int) (w : World) : Calls Try.prog 9 #[.int .i64 M] w fun e w' => ∃ A, e = .returned (.agg #[.int .i64 M, .slice none 0 0, .slice A 1 1]) ∧ Ref w' (fun g => w.heap.size ≤ g) [] [[]] [.slice none 0 0] none 0 0 A 1 ∧ Below w.heap.size w w' := by
  go_enter Try.func9, Try.ntmps9
  go_wp2_with fail
  have RR := (Blk.born w 30 #[.int .i64 M, .slice none 0 0, .slice (some ⟨w.heap.size + 1, 0, none⟩) 1 1]).alloc (.cells #[.slice none 0 0] 48)
  have d0 := RR.cell 0
  have d1 := RR.cell 1
  have d2 := RR.cell 2
  refine bodyPost_ret (v := .agg #[.int .i64 M, .slice none 0 0, .slice (some ⟨w.heap.size + 1, 0, none⟩) 1 1]) (by simp [results, Try.results9, go_sem, d0, d1, d2]) rfl ?_
  obtain ⟨W, hW⟩ : ∃ W, w.alloc (.cells #[.int .i64 M, .slice none 0 0, .slice (some ⟨w.heap.size + 1, 0, none⟩) 1 1] 30) = W := ⟨_, rfl⟩
  have hz : W.heap.size = w.heap.size + 1 := by rw [← hW]; simp
  have hbw : Below w.heap.size w W := by rw [← hW]; exact (Below.refl _ _).alloc (Nat.le_refl _) _
  have S0 := Sees.born W 48 #[.slice none 0 0] (0, 0)
  rw [hz] at S0
  refine ⟨_, rfl, ?_, ?_⟩
  · show Ref ((w.alloc (.cells #[.int .i64 M, .slice none 0 0, .slice (some ⟨w.heap.size + 1, 0, none⟩) 1 1] 30)).alloc (.cells #[.slice none 0 0] 48)) _ _ _ _ _ _ _ _ _
    rw [hW]
    refine ⟨rfl, rfl, fun _ => ⟨rfl, rfl⟩, (fun j u hj => by simp at hj), (fun j u hj => ?_), (Sets.nil _ _).snoc (inn_nil _ _), fun b hb => by rw [List.mem_singleton.1 hb]; rfl⟩
    obtain ⟨b, o, e, h⟩ := S0 j u hj
    have e2 := Option.some.inj e
    have e3 : b = w.heap.size + 1 := by injection e2 with e2; exact e2.symm
    exact ⟨b, o, e, by omega, h⟩
  · show Below _ _ ((w.alloc (.cells #[.int .i64 M, .slice none 0 0, .slice (some ⟨w.heap.size + 1, 0, none⟩) 1 1] 30)).alloc (.cells #[.slice none 0 0] 48))
    rw [hW]
    exact hbw.alloc hbw.size _

set_option maxRecDepth 10000 in
set_option maxHeartbeats 2000000 in
theorem rclose_old (M x : Int) (K : Nat → Prop) (A1 A2 : Option Addr) (n1 c1 n2 c2 i : Nat) (ids : List Int) (bs : List (List Bool)) (vs : List Value) (w : World) (hn1 : n1 ≤ 100) (hr : Ref w K ids bs vs A1 n1 c1 A2 n2) (hp : posI ids x = some i) :
    Calls Try.prog 15 #[.agg #[.int .i64 M, .slice A1 n1 c1, .slice A2 n2 c2], .int .i64 x] w fun e w' => e = .returned (.tuple #[.agg #[.int .i64 M, .slice A1 n1 c1, .slice A2 n2 c2], .bool false]) ∧ Below w.heap.size w w' := by
  have HR := hide hr
  have HP := hide hp
  have hi0 : (0 : Int) ≤ (i : Int) := by omega
  clear hr hp
  go_enter Try.func15, Try.ntmps15
  go_wp2_with fail
  refine (at_any M x A1 A2 n1 c1 n2 c2 ids _ (by omega) HR.out.l1 ((HR.out.s1.sees.alloc _).alloc _)).mono ?_
  rintro e w1 ⟨rfl, hb⟩
  have HB0 : Hid (Blk w1 w.heap.size 30 #[.int .i64 M, .slice A1 n1 c1, .slice A2 n2 c2]) := hide (((Blk.born w 30 _).alloc _).kept hb)
  have HB1 : Hid (Blk w1 (w.heap.size + 1) 30 #[.int .i64 0, .slice none 0 0, .slice none 0 0]) := hide (by
    have := (Blk.born (w.alloc (.cells #[.int .i64 M, .slice A1 n1 c1, .slice A2 n2 c2] 30)) 30 #[.int .i64 0, .slice none 0 0, .slice none 0 0]).kept hb
    simpa using this)
  have HW0 : Hid (Below w.heap.size w w1) := hide (below_base2 hb)
  rw [show atZ ids x = (i : Nat) from by unfold atZ; rw [HP.out]]
  clear hb
  obtain ⟨t0, t1, t2⟩ := blk_cells HB0.out
  obtain ⟨z0, z1, z2⟩ := blk_cells HB1.out
  obtain ⟨f0, f1, f2⟩ := blk_free HB1.out
  go_wp2_with fail
  have RR := ((HB1.out.store 0 (.int .i64 M)).store 1 (.slice A1 n1 c1)).store 2 (.slice A2 n2 c2)
  have d0 := RR.cell 0
  have d1 := RR.cell 1
  have d2 := RR.cell 2
  refine bodyPost_ret (v := .tuple #[.agg #[.int .i64 M, .slice A1 n1 c1, .slice A2 n2 c2], .bool false]) (by simp [results, Try.results15, go_sem, d0, d1, d2]) rfl ⟨rfl, ?_⟩
  exact (((HW0.out.setCell (by simp) _).setCell (by simp) _).setCell (by simp) _)
end Go.Proofs.Ytgledbjkjpngeaa
