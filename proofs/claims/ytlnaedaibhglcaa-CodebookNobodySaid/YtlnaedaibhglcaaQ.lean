/- Contracts: Clone, Order; row, Lengths, Length of the reference. -/
import Derived.Test.YtlnaedaibhglcaaP
import Derived.Lib.LazyBuf
namespace Go.Proofs.Ytlnaedaibhglcaa
open Go.RowKit

theorem sees_add {w : World} {g : Nat} {xs : List Value} (h : Sees w (some ⟨g, 0, none⟩) xs) : ∀ j u, xs[j]? = some u → w.cell? ((⟨g, 0, none⟩ : Addr).add j) = some u := fun j u hu => by
  obtain ⟨b, o, e, hc⟩ := h j u hu
  have e1 := Option.some.inj e
  injection e1 with h1 h2
  subst h1
  rw [Addr.add_lit]
  rw [← h2] at hc
  exact hc
theorem sees_addr {w : World} {a : Addr} {xs : List Value} (h : Sees w (some a) xs) : ∀ j u, xs[j]? = some u → w.cell? (a.add j) = some u := fun j u hu => by
  obtain ⟨b, o, e, hc⟩ := h j u hu
  have e1 := Option.some.inj e
  subst e1
  rw [Addr.add_lit]
  exact hc
theorem ints_one (l : List Nat) : ∀ u ∈ ints l, u.oneCell' = true := by
  intro u hu
  unfold ints at hu
  rw [List.mem_map] at hu
  obtain ⟨x, _, rfl⟩ := hu
  rfl
theorem ints_at (l : List Nat) {j x : Nat} (h : l[j]? = some x) : (ints l)[j]? = some (.int .i64 (x : Nat)) := by
  unfold ints; rw [List.getElem?_map, h]; rfl

/-- What a call says that hands numbers back. -/
def NPost (l : List Nat) (w : World) (e : Ending) (w' : World) : Prop := ∃ A c, e = .returned (.slice A l.length c) ∧ Sees w' A (ints l) ∧ Below w.heap.size w w'
theorem clone_nil (w : World) : Calls Try.prog 23 #[.slice none 0 0] w fun e w' => e = .returned (.slice none 0 0) ∧ w = w' := by
  have hn := Lib.run_eql_slice_nil (P := Try.prog) w 35 3 none 0 0 0 0 Try.underlying35
  go_enter Try.func23, Try.ntmps23
  go_wp2_with fail
  go_ret
  exact ⟨rfl, rfl⟩
theorem clone_some (a : Addr) (n c : Nat) (l : List Nat) (w : World) (hn : n ≤ 1000000) (HL : Hid (l.length = n)) (HS : Hid (Sees w (some a) (ints l))) : Calls Try.prog 23 #[.slice (some a) n c] w (NPost l w) := by
  have hnn := Lib.run_eql_slice_nil (P := Try.prog) w 35 3 (some a) n c 0 0 Try.underlying35
  obtain ⟨i0, hi, hz0, hz1, hz2⟩ := info_parts Try.info3
  have own0 : (w.alloc (.cells #[] 3)).ownsRow w.heap.size 3 1 (.slice (some ⟨w.heap.size, 0, none⟩) 0 0) 0 [] := World.ownsRow_lit w #[] 0 (Nat.le_refl _) (by decide) rfl
  have HC := hide (sees_addr (HS.out.alloc (.cells #[] 3)))
  go_enter Try.func23, Try.ntmps23
  go_wp2_with (at_builtin; go_loud (refine wpList_append_own _ rfl (.tmp 5) (.tmp 6) 35 rfl w.heap.size 3 i0 (.int .i64 0) 1 8 Try.underlying35 hi hz0 hz1 hz2 rfl (by decide) _ 0 _ rfl own0 a n c (ints l) rfl (by simp [ints]; exact HL.out) HC.out (ints_one l) (by unfold maxLen; omega) (by omega) (by simp) ?_))
  intro v' w1 hown1 hg1 _
  (try simp only [Nat.zero_add, List.nil_append] at hown1)
  obtain ⟨A, C, rfl⟩ := own_form hown1
  have HB := hide (((Below.refl _ w).alloc (Nat.le_refl _) (.cells #[] 3)).grown hg1 (by simp) (fun k e => by simp [Value.ownBlock] at e; omega))
  have HS1 := hide (Sees.of_own hown1)
  clear own0 hown1 hg1
  go_wp2_with fail
  go_ret
  exact ⟨A, C, by rw [HL.out]; rfl, HS1.out, HB.out⟩
def ordl : List Nat := (List.range 257).map od
theorem ordl_len : ordl.length = 257 := by unfold ordl; simp
theorem order_any (g : Nat) (w : World) (HB : Hid (Book w g)) : Calls Try.prog 16 #[.pointer (some ⟨g, 0, none⟩)] w (NPost ordl w) := by
  obtain ⟨A, C, hbk, hs⟩ := HB.out
  have c3 : w.cell? ⟨g, 258, none⟩ = some (.slice A 257 C) := hbk.cell (by omega)
  have HS : Hid (Sees w A (ints ordl)) := hide (by unfold ints ordl; rw [List.map_map]; exact hs)
  obtain ⟨a, rfl⟩ : ∃ a, A = some a := by
    obtain ⟨b, o, e, _⟩ := HS.out 0 _ (ints_at _ (j := 0) (x := od 0) (by rfl))
    exact ⟨_, e⟩
  have HK := hide (clone_some a 257 C ordl w (by decide) (hide ordl_len) HS)
  clear hbk hs
  go_enter Try.func16, Try.ntmps16
  go_wp2_with fail
  refine HK.out.mono ?_
  rintro e w1 ⟨A', C', rfl, h1, h2⟩
  have H1 := hide h1
  have H2 := hide h2
  clear h1 h2
  go_wp2_with fail
  go_ret
  exact ⟨A', C', rfl, H1.out, H2.out⟩

/-! ### The reference's sizes -/
def rowl (n : Nat) : List Nat := (List.range (if n < 16 then 16 else 1)).map fun j => sz (16 * n + j)

theorem row_0 (w : World) : Calls Try.prog 22 #[.int .i64 0] w (NPost (rowl 0) w) := by
  have HS : Hid (Sees (w.alloc (.cells #[.int .i64 13, .int .i64 23, .int .i64 28, .int .i64 28, .int .i64 28, .int .i64 28, .int .i64 28, .int .i64 28, .int .i64 28, .int .i64 24, .int .i64 30, .int .i64 28, .int .i64 28, .int .i64 30, .int .i64 28, .int .i64 28] 3)) (some ⟨w.heap.size, 0, none⟩) (ints (rowl 0))) := hide (by
    rw [show ints (rowl 0) = (#[Value.int .i64 13, Value.int .i64 23, Value.int .i64 28, Value.int .i64 28, Value.int .i64 28, Value.int .i64 28, Value.int .i64 28, Value.int .i64 28, Value.int .i64 28, Value.int .i64 24, Value.int .i64 30, Value.int .i64 28, Value.int .i64 28, Value.int .i64 30, Value.int .i64 28, Value.int .i64 28] : Array Value).toList from by kernel_rfl]
    exact Sees.born _ _ _ _)
  have HL : Hid ((rowl 0).length = 16) := hide (by decide +kernel)
  go_enter Try.func22, Try.ntmps22
  go_wp2_with fail
  go_ret
  exact ⟨some ⟨w.heap.size, 0, none⟩, 16, by rw [HL.out]; rfl, HS.out, (Below.refl _ _).alloc (Nat.le_refl _) _⟩
theorem row_1 (w : World) : Calls Try.prog 22 #[.int .i64 1] w (NPost (rowl 1) w) := by
  have HS : Hid (Sees (w.alloc (.cells #[.int .i64 28, .int .i64 28, .int .i64 28, .int .i64 28, .int .i64 28, .int .i64 28, .int .i64 30, .int .i64 28, .int .i64 28, .int .i64 28, .int .i64 28, .int .i64 28, .int .i64 28, .int .i64 28, .int .i64 28, .int .i64 28] 3)) (some ⟨w.heap.size, 0, none⟩) (ints (rowl 1))) := hide (by
    rw [show ints (rowl 1) = (#[Value.int .i64 28, Value.int .i64 28, Value.int .i64 28, Value.int .i64 28, Value.int .i64 28, Value.int .i64 28, Value.int .i64 30, Value.int .i64 28, Value.int .i64 28, Value.int .i64 28, Value.int .i64 28, Value.int .i64 28, Value.int .i64 28, Value.int .i64 28, Value.int .i64 28, Value.int .i64 28] : Array Value).toList from by kernel_rfl]
    exact Sees.born _ _ _ _)
  have HL : Hid ((rowl 1).length = 16) := hide (by decide +kernel)
  go_enter Try.func22, Try.ntmps22
  go_wp2_with fail
  go_ret
  exact ⟨some ⟨w.heap.size, 0, none⟩, 16, by rw [HL.out]; rfl, HS.out, (Below.refl _ _).alloc (Nat.le_refl _) _⟩
theorem row_2 (w : World) : Calls Try.prog 22 #[.int .i64 2] w (NPost (rowl 2) w) := by
  have HS : Hid (Sees (w.alloc (.cells #[.int .i64 6, .int .i64 10, .int .i64 10, .int .i64 12, .int .i64 13, .int .i64 6, .int .i64 8, .int .i64 11, .int .i64 10, .int .i64 10, .int .i64 8, .int .i64 11, .int .i64 8, .int .i64 6, .int .i64 6, .int .i64 6] 3)) (some ⟨w.heap.size, 0, none⟩) (ints (rowl 2))) := hide (by
    rw [show ints (rowl 2) = (#[Value.int .i64 6, Value.int .i64 10, Value.int .i64 10, Value.int .i64 12, Value.int .i64 13, Value.int .i64 6, Value.int .i64 8, Value.int .i64 11, Value.int .i64 10, Value.int .i64 10, Value.int .i64 8, Value.int .i64 11, Value.int .i64 8, Value.int .i64 6, Value.int .i64 6, Value.int .i64 6] : Array Value).toList from by kernel_rfl]
    exact Sees.born _ _ _ _)
  have HL : Hid ((rowl 2).length = 16) := hide (by decide +kernel)
  go_enter Try.func22, Try.ntmps22
  go_wp2_with fail
  go_ret
  exact ⟨some ⟨w.heap.size, 0, none⟩, 16, by rw [HL.out]; rfl, HS.out, (Below.refl _ _).alloc (Nat.le_refl _) _⟩
theorem row_3 (w : World) : Calls Try.prog 22 #[.int .i64 3] w (NPost (rowl 3) w) := by
  have HS : Hid (Sees (w.alloc (.cells #[.int .i64 5, .int .i64 5, .int .i64 5, .int .i64 6, .int .i64 6, .int .i64 6, .int .i64 6, .int .i64 6, .int .i64 6, .int .i64 6, .int .i64 7, .int .i64 8, .int .i64 15, .int .i64 6, .int .i64 12, .int .i64 10] 3)) (some ⟨w.heap.size, 0, none⟩) (ints (rowl 3))) := hide (by
    rw [show ints (rowl 3) = (#[Value.int .i64 5, Value.int .i64 5, Value.int .i64 5, Value.int .i64 6, Value.int .i64 6, Value.int .i64 6, Value.int .i64 6, Value.int .i64 6, Value.int .i64 6, Value.int .i64 6, Value.int .i64 7, Value.int .i64 8, Value.int .i64 15, Value.int .i64 6, Value.int .i64 12, Value.int .i64 10] : Array Value).toList from by kernel_rfl]
    exact Sees.born _ _ _ _)
  have HL : Hid ((rowl 3).length = 16) := hide (by decide +kernel)
  go_enter Try.func22, Try.ntmps22
  go_wp2_with fail
  go_ret
  exact ⟨some ⟨w.heap.size, 0, none⟩, 16, by rw [HL.out]; rfl, HS.out, (Below.refl _ _).alloc (Nat.le_refl _) _⟩
theorem row_4 (w : World) : Calls Try.prog 22 #[.int .i64 4] w (NPost (rowl 4) w) := by
  have HS : Hid (Sees (w.alloc (.cells #[.int .i64 13, .int .i64 6, .int .i64 7, .int .i64 7, .int .i64 7, .int .i64 7, .int .i64 7, .int .i64 7, .int .i64 7, .int .i64 7, .int .i64 7, .int .i64 7, .int .i64 7, .int .i64 7, .int .i64 7, .int .i64 7] 3)) (some ⟨w.heap.size, 0, none⟩) (ints (rowl 4))) := hide (by
    rw [show ints (rowl 4) = (#[Value.int .i64 13, Value.int .i64 6, Value.int .i64 7, Value.int .i64 7, Value.int .i64 7, Value.int .i64 7, Value.int .i64 7, Value.int .i64 7, Value.int .i64 7, Value.int .i64 7, Value.int .i64 7, Value.int .i64 7, Value.int .i64 7, Value.int .i64 7, Value.int .i64 7, Value.int .i64 7] : Array Value).toList from by kernel_rfl]
    exact Sees.born _ _ _ _)
  have HL : Hid ((rowl 4).length = 16) := hide (by decide +kernel)
  go_enter Try.func22, Try.ntmps22
  go_wp2_with fail
  go_ret
  exact ⟨some ⟨w.heap.size, 0, none⟩, 16, by rw [HL.out]; rfl, HS.out, (Below.refl _ _).alloc (Nat.le_refl _) _⟩
theorem row_5 (w : World) : Calls Try.prog 22 #[.int .i64 5] w (NPost (rowl 5) w) := by
  have HS : Hid (Sees (w.alloc (.cells #[.int .i64 7, .int .i64 7, .int .i64 7, .int .i64 7, .int .i64 7, .int .i64 7, .int .i64 7, .int .i64 7, .int .i64 8, .int .i64 7, .int .i64 8, .int .i64 13, .int .i64 19, .int .i64 13, .int .i64 14, .int .i64 6] 3)) (some ⟨w.heap.size, 0, none⟩) (ints (rowl 5))) := hide (by
    rw [show ints (rowl 5) = (#[Value.int .i64 7, Value.int .i64 7, Value.int .i64 7, Value.int .i64 7, Value.int .i64 7, Value.int .i64 7, Value.int .i64 7, Value.int .i64 7, Value.int .i64 8, Value.int .i64 7, Value.int .i64 8, Value.int .i64 13, Value.int .i64 19, Value.int .i64 13, Value.int .i64 14, Value.int .i64 6] : Array Value).toList from by kernel_rfl]
    exact Sees.born _ _ _ _)
  have HL : Hid ((rowl 5).length = 16) := hide (by decide +kernel)
  go_enter Try.func22, Try.ntmps22
  go_wp2_with fail
  go_ret
  exact ⟨some ⟨w.heap.size, 0, none⟩, 16, by rw [HL.out]; rfl, HS.out, (Below.refl _ _).alloc (Nat.le_refl _) _⟩
theorem row_6 (w : World) : Calls Try.prog 22 #[.int .i64 6] w (NPost (rowl 6) w) := by
  have HS : Hid (Sees (w.alloc (.cells #[.int .i64 15, .int .i64 5, .int .i64 6, .int .i64 5, .int .i64 6, .int .i64 5, .int .i64 6, .int .i64 6, .int .i64 6, .int .i64 5, .int .i64 7, .int .i64 7, .int .i64 6, .int .i64 6, .int .i64 6, .int .i64 5] 3)) (some ⟨w.heap.size, 0, none⟩) (ints (rowl 6))) := hide (by
    rw [show ints (rowl 6) = (#[Value.int .i64 15, Value.int .i64 5, Value.int .i64 6, Value.int .i64 5, Value.int .i64 6, Value.int .i64 5, Value.int .i64 6, Value.int .i64 6, Value.int .i64 6, Value.int .i64 5, Value.int .i64 7, Value.int .i64 7, Value.int .i64 6, Value.int .i64 6, Value.int .i64 6, Value.int .i64 5] : Array Value).toList from by kernel_rfl]
    exact Sees.born _ _ _ _)
  have HL : Hid ((rowl 6).length = 16) := hide (by decide +kernel)
  go_enter Try.func22, Try.ntmps22
  go_wp2_with fail
  go_ret
  exact ⟨some ⟨w.heap.size, 0, none⟩, 16, by rw [HL.out]; rfl, HS.out, (Below.refl _ _).alloc (Nat.le_refl _) _⟩
theorem row_7 (w : World) : Calls Try.prog 22 #[.int .i64 7] w (NPost (rowl 7) w) := by
  have HS : Hid (Sees (w.alloc (.cells #[.int .i64 6, .int .i64 7, .int .i64 6, .int .i64 5, .int .i64 5, .int .i64 6, .int .i64 7, .int .i64 7, .int .i64 7, .int .i64 7, .int .i64 7, .int .i64 15, .int .i64 11, .int .i64 14, .int .i64 13, .int .i64 28] 3)) (some ⟨w.heap.size, 0, none⟩) (ints (rowl 7))) := hide (by
    rw [show ints (rowl 7) = (#[Value.int .i64 6, Value.int .i64 7, Value.int .i64 6, Value.int .i64 5, Value.int .i64 5, Value.int .i64 6, Value.int .i64 7, Value.int .i64 7, Value.int .i64 7, Value.int .i64 7, Value.int .i64 7, Value.int .i64 15, Value.int .i64 11, Value.int .i64 14, Value.int .i64 13, Value.int .i64 28] : Array Value).toList from by kernel_rfl]
    exact Sees.born _ _ _ _)
  have HL : Hid ((rowl 7).length = 16) := hide (by decide +kernel)
  go_enter Try.func22, Try.ntmps22
  go_wp2_with fail
  go_ret
  exact ⟨some ⟨w.heap.size, 0, none⟩, 16, by rw [HL.out]; rfl, HS.out, (Below.refl _ _).alloc (Nat.le_refl _) _⟩
theorem row_8 (w : World) : Calls Try.prog 22 #[.int .i64 8] w (NPost (rowl 8) w) := by
  have HS : Hid (Sees (w.alloc (.cells #[.int .i64 20, .int .i64 22, .int .i64 20, .int .i64 20, .int .i64 22, .int .i64 22, .int .i64 22, .int .i64 23, .int .i64 22, .int .i64 23, .int .i64 23, .int .i64 23, .int .i64 23, .int .i64 23, .int .i64 24, .int .i64 23] 3)) (some ⟨w.heap.size, 0, none⟩) (ints (rowl 8))) := hide (by
    rw [show ints (rowl 8) = (#[Value.int .i64 20, Value.int .i64 22, Value.int .i64 20, Value.int .i64 20, Value.int .i64 22, Value.int .i64 22, Value.int .i64 22, Value.int .i64 23, Value.int .i64 22, Value.int .i64 23, Value.int .i64 23, Value.int .i64 23, Value.int .i64 23, Value.int .i64 23, Value.int .i64 24, Value.int .i64 23] : Array Value).toList from by kernel_rfl]
    exact Sees.born _ _ _ _)
  have HL : Hid ((rowl 8).length = 16) := hide (by decide +kernel)
  go_enter Try.func22, Try.ntmps22
  go_wp2_with fail
  go_ret
  exact ⟨some ⟨w.heap.size, 0, none⟩, 16, by rw [HL.out]; rfl, HS.out, (Below.refl _ _).alloc (Nat.le_refl _) _⟩
theorem row_9 (w : World) : Calls Try.prog 22 #[.int .i64 9] w (NPost (rowl 9) w) := by
  have HS : Hid (Sees (w.alloc (.cells #[.int .i64 24, .int .i64 24, .int .i64 22, .int .i64 23, .int .i64 24, .int .i64 23, .int .i64 23, .int .i64 23, .int .i64 23, .int .i64 21, .int .i64 22, .int .i64 23, .int .i64 22, .int .i64 23, .int .i64 23, .int .i64 24] 3)) (some ⟨w.heap.size, 0, none⟩) (ints (rowl 9))) := hide (by
    rw [show ints (rowl 9) = (#[Value.int .i64 24, Value.int .i64 24, Value.int .i64 22, Value.int .i64 23, Value.int .i64 24, Value.int .i64 23, Value.int .i64 23, Value.int .i64 23, Value.int .i64 23, Value.int .i64 21, Value.int .i64 22, Value.int .i64 23, Value.int .i64 22, Value.int .i64 23, Value.int .i64 23, Value.int .i64 24] : Array Value).toList from by kernel_rfl]
    exact Sees.born _ _ _ _)
  have HL : Hid ((rowl 9).length = 16) := hide (by decide +kernel)
  go_enter Try.func22, Try.ntmps22
  go_wp2_with fail
  go_ret
  exact ⟨some ⟨w.heap.size, 0, none⟩, 16, by rw [HL.out]; rfl, HS.out, (Below.refl _ _).alloc (Nat.le_refl _) _⟩
theorem row_10 (w : World) : Calls Try.prog 22 #[.int .i64 10] w (NPost (rowl 10) w) := by
  have HS : Hid (Sees (w.alloc (.cells #[.int .i64 22, .int .i64 21, .int .i64 20, .int .i64 22, .int .i64 22, .int .i64 23, .int .i64 23, .int .i64 21, .int .i64 23, .int .i64 22, .int .i64 22, .int .i64 24, .int .i64 21, .int .i64 22, .int .i64 23, .int .i64 23] 3)) (some ⟨w.heap.size, 0, none⟩) (ints (rowl 10))) := hide (by
    rw [show ints (rowl 10) = (#[Value.int .i64 22, Value.int .i64 21, Value.int .i64 20, Value.int .i64 22, Value.int .i64 22, Value.int .i64 23, Value.int .i64 23, Value.int .i64 21, Value.int .i64 23, Value.int .i64 22, Value.int .i64 22, Value.int .i64 24, Value.int .i64 21, Value.int .i64 22, Value.int .i64 23, Value.int .i64 23] : Array Value).toList from by kernel_rfl]
    exact Sees.born _ _ _ _)
  have HL : Hid ((rowl 10).length = 16) := hide (by decide +kernel)
  go_enter Try.func22, Try.ntmps22
  go_wp2_with fail
  go_ret
  exact ⟨some ⟨w.heap.size, 0, none⟩, 16, by rw [HL.out]; rfl, HS.out, (Below.refl _ _).alloc (Nat.le_refl _) _⟩
theorem row_11 (w : World) : Calls Try.prog 22 #[.int .i64 11] w (NPost (rowl 11) w) := by
  have HS : Hid (Sees (w.alloc (.cells #[.int .i64 21, .int .i64 21, .int .i64 22, .int .i64 21, .int .i64 23, .int .i64 22, .int .i64 23, .int .i64 23, .int .i64 20, .int .i64 22, .int .i64 22, .int .i64 22, .int .i64 23, .int .i64 22, .int .i64 22, .int .i64 23] 3)) (some ⟨w.heap.size, 0, none⟩) (ints (rowl 11))) := hide (by
    rw [show ints (rowl 11) = (#[Value.int .i64 21, Value.int .i64 21, Value.int .i64 22, Value.int .i64 21, Value.int .i64 23, Value.int .i64 22, Value.int .i64 23, Value.int .i64 23, Value.int .i64 20, Value.int .i64 22, Value.int .i64 22, Value.int .i64 22, Value.int .i64 23, Value.int .i64 22, Value.int .i64 22, Value.int .i64 23] : Array Value).toList from by kernel_rfl]
    exact Sees.born _ _ _ _)
  have HL : Hid ((rowl 11).length = 16) := hide (by decide +kernel)
  go_enter Try.func22, Try.ntmps22
  go_wp2_with fail
  go_ret
  exact ⟨some ⟨w.heap.size, 0, none⟩, 16, by rw [HL.out]; rfl, HS.out, (Below.refl _ _).alloc (Nat.le_refl _) _⟩
theorem row_12 (w : World) : Calls Try.prog 22 #[.int .i64 12] w (NPost (rowl 12) w) := by
  have HS : Hid (Sees (w.alloc (.cells #[.int .i64 26, .int .i64 26, .int .i64 20, .int .i64 19, .int .i64 22, .int .i64 23, .int .i64 22, .int .i64 25, .int .i64 26, .int .i64 26, .int .i64 26, .int .i64 27, .int .i64 27, .int .i64 26, .int .i64 24, .int .i64 25] 3)) (some ⟨w.heap.size, 0, none⟩) (ints (rowl 12))) := hide (by
    rw [show ints (rowl 12) = (#[Value.int .i64 26, Value.int .i64 26, Value.int .i64 20, Value.int .i64 19, Value.int .i64 22, Value.int .i64 23, Value.int .i64 22, Value.int .i64 25, Value.int .i64 26, Value.int .i64 26, Value.int .i64 26, Value.int .i64 27, Value.int .i64 27, Value.int .i64 26, Value.int .i64 24, Value.int .i64 25] : Array Value).toList from by kernel_rfl]
    exact Sees.born _ _ _ _)
  have HL : Hid ((rowl 12).length = 16) := hide (by decide +kernel)
  go_enter Try.func22, Try.ntmps22
  go_wp2_with fail
  go_ret
  exact ⟨some ⟨w.heap.size, 0, none⟩, 16, by rw [HL.out]; rfl, HS.out, (Below.refl _ _).alloc (Nat.le_refl _) _⟩
theorem row_13 (w : World) : Calls Try.prog 22 #[.int .i64 13] w (NPost (rowl 13) w) := by
  have HS : Hid (Sees (w.alloc (.cells #[.int .i64 19, .int .i64 21, .int .i64 26, .int .i64 27, .int .i64 27, .int .i64 26, .int .i64 27, .int .i64 24, .int .i64 21, .int .i64 21, .int .i64 26, .int .i64 26, .int .i64 28, .int .i64 27, .int .i64 27, .int .i64 27] 3)) (some ⟨w.heap.size, 0, none⟩) (ints (rowl 13))) := hide (by
    rw [show ints (rowl 13) = (#[Value.int .i64 19, Value.int .i64 21, Value.int .i64 26, Value.int .i64 27, Value.int .i64 27, Value.int .i64 26, Value.int .i64 27, Value.int .i64 24, Value.int .i64 21, Value.int .i64 21, Value.int .i64 26, Value.int .i64 26, Value.int .i64 28, Value.int .i64 27, Value.int .i64 27, Value.int .i64 27] : Array Value).toList from by kernel_rfl]
    exact Sees.born _ _ _ _)
  have HL : Hid ((rowl 13).length = 16) := hide (by decide +kernel)
  go_enter Try.func22, Try.ntmps22
  go_wp2_with fail
  go_ret
  exact ⟨some ⟨w.heap.size, 0, none⟩, 16, by rw [HL.out]; rfl, HS.out, (Below.refl _ _).alloc (Nat.le_refl _) _⟩
theorem row_14 (w : World) : Calls Try.prog 22 #[.int .i64 14] w (NPost (rowl 14) w) := by
  have HS : Hid (Sees (w.alloc (.cells #[.int .i64 20, .int .i64 24, .int .i64 20, .int .i64 21, .int .i64 22, .int .i64 21, .int .i64 21, .int .i64 23, .int .i64 22, .int .i64 22, .int .i64 25, .int .i64 25, .int .i64 24, .int .i64 24, .int .i64 26, .int .i64 23] 3)) (some ⟨w.heap.size, 0, none⟩) (ints (rowl 14))) := hide (by
    rw [show ints (rowl 14) = (#[Value.int .i64 20, Value.int .i64 24, Value.int .i64 20, Value.int .i64 21, Value.int .i64 22, Value.int .i64 21, Value.int .i64 21, Value.int .i64 23, Value.int .i64 22, Value.int .i64 22, Value.int .i64 25, Value.int .i64 25, Value.int .i64 24, Value.int .i64 24, Value.int .i64 26, Value.int .i64 23] : Array Value).toList from by kernel_rfl]
    exact Sees.born _ _ _ _)
  have HL : Hid ((rowl 14).length = 16) := hide (by decide +kernel)
  go_enter Try.func22, Try.ntmps22
  go_wp2_with fail
  go_ret
  exact ⟨some ⟨w.heap.size, 0, none⟩, 16, by rw [HL.out]; rfl, HS.out, (Below.refl _ _).alloc (Nat.le_refl _) _⟩
theorem row_15 (w : World) : Calls Try.prog 22 #[.int .i64 15] w (NPost (rowl 15) w) := by
  have HS : Hid (Sees (w.alloc (.cells #[.int .i64 26, .int .i64 27, .int .i64 26, .int .i64 26, .int .i64 27, .int .i64 27, .int .i64 27, .int .i64 27, .int .i64 27, .int .i64 28, .int .i64 27, .int .i64 27, .int .i64 27, .int .i64 27, .int .i64 27, .int .i64 26] 3)) (some ⟨w.heap.size, 0, none⟩) (ints (rowl 15))) := hide (by
    rw [show ints (rowl 15) = (#[Value.int .i64 26, Value.int .i64 27, Value.int .i64 26, Value.int .i64 26, Value.int .i64 27, Value.int .i64 27, Value.int .i64 27, Value.int .i64 27, Value.int .i64 27, Value.int .i64 28, Value.int .i64 27, Value.int .i64 27, Value.int .i64 27, Value.int .i64 27, Value.int .i64 27, Value.int .i64 26] : Array Value).toList from by kernel_rfl]
    exact Sees.born _ _ _ _)
  have HL : Hid ((rowl 15).length = 16) := hide (by decide +kernel)
  go_enter Try.func22, Try.ntmps22
  go_wp2_with fail
  go_ret
  exact ⟨some ⟨w.heap.size, 0, none⟩, 16, by rw [HL.out]; rfl, HS.out, (Below.refl _ _).alloc (Nat.le_refl _) _⟩
theorem row_16 (w : World) : Calls Try.prog 22 #[.int .i64 16] w (NPost (rowl 16) w) := by
  have HS : Hid (Sees (w.alloc (.cells #[.int .i64 30] 3)) (some ⟨w.heap.size, 0, none⟩) (ints (rowl 16))) := hide (by
    rw [show ints (rowl 16) = (#[Value.int .i64 30] : Array Value).toList from by kernel_rfl]
    exact Sees.born _ _ _ _)
  have HL : Hid ((rowl 16).length = 1) := hide (by decide +kernel)
  go_enter Try.func22, Try.ntmps22
  go_wp2_with fail
  go_ret
  exact ⟨some ⟨w.heap.size, 0, none⟩, 1, by rw [HL.out]; rfl, HS.out, (Below.refl _ _).alloc (Nat.le_refl _) _⟩
theorem row_any (m : Int) (n : Nat) (w : World) (hn : n < 17) (hm : m = (n : Nat)) : Calls Try.prog 22 #[.int .i64 m] w (NPost (rowl n) w) := by
  subst hm
  have h : n = 0 ∨ n = 1 ∨ n = 2 ∨ n = 3 ∨ n = 4 ∨ n = 5 ∨ n = 6 ∨ n = 7 ∨ n = 8 ∨ n = 9 ∨ n = 10 ∨ n = 11 ∨ n = 12 ∨ n = 13 ∨ n = 14 ∨ n = 15 ∨ n = 16 := by omega
  rcases h with rfl | rfl | rfl | rfl | rfl | rfl | rfl | rfl | rfl | rfl | rfl | rfl | rfl | rfl | rfl | rfl | rfl
  · exact row_0 w
  · exact row_1 w
  · exact row_2 w
  · exact row_3 w
  · exact row_4 w
  · exact row_5 w
  · exact row_6 w
  · exact row_7 w
  · exact row_8 w
  · exact row_9 w
  · exact row_10 w
  · exact row_11 w
  · exact row_12 w
  · exact row_13 w
  · exact row_14 w
  · exact row_15 w
  · exact row_16 w

def lens : List Nat := (List.range 257).map sz
def pre (k : Nat) : Nat := if 16 * k < 257 then 16 * k else 257
theorem lens_step : ∀ k, k < 17 → lens.take (pre k) ++ rowl k = lens.take (pre (k + 1)) ∧ pre k + (rowl k).length = pre (k + 1) := by decide +kernel
theorem lens_len : lens.length = 257 := by decide +kernel
theorem lens_at {s : Nat} (h : s < 257) : lens[s]? = some (sz s) := by unfold lens; rw [List.getElem?_map, List.getElem?_range h]; rfl
theorem pre_le (k : Nat) : pre k ≤ 257 := by unfold pre; split <;> omega

theorem lens_any (w : World) : Calls Try.prog 20 #[] w (NPost lens w) := by
  obtain ⟨i0, hi, hz0, hz1, hz2⟩ := info_parts Try.info3
  have HI := hide (And.intro hi (And.intro hz0 (And.intro hz1 hz2)))
  clear hi hz0 hz1 hz2
  go_enter Try.func20, Try.ntmps20
  go_wp2_with fail
  go_loopw [1, 2] (fun vv ii wr => ∃ (k : Nat) (D : Option Addr) (C : Nat), vv = .slice D (pre k) C ∧ ii = .int .i64 k ∧ k ≤ 17 ∧ Hid (wr.ownsRow w.heap.size 3 1 (.slice D (pre k) C) (pre k) (ints (lens.take (pre k)))) ∧ Hid (Below w.heap.size w wr)) (fun _ ii _ => 17 - (intOf ii).toNat)
  case atStart => exact ⟨0, none, 0, rfl, rfl, Nat.zero_le _, hide (World.ownsRow_nil _ _ _ _), hide (Below.refl _ _)⟩
  case round =>
    obtain ⟨k, D, C, rfl, rfl, hk, HO, HW⟩ := hrel
    have hpk := pre_le k
    by_cases hlt : k < 17
    · have hki : (k : Int) < 17 := by omega
      have hpk1 := pre_le (k + 1)
      obtain ⟨hst, hlen⟩ := lens_step k hlt
      obtain ⟨R, hR⟩ : ∃ R, (rowl k).length = R := ⟨_, rfl⟩
      rw [hR] at hlen
      have HR := hide hR
      have HST := hide hst
      have HLEN := hide hlen
      have hRb : R ≤ 257 := by omega
      clear hst hR hlen
      go_wp2_with fail
      refine (row_any k k _ hlt rfl).mono ?_
      rintro e w1 ⟨A, c, rfl, hs1, hb1⟩
      rw [HR.out]
      obtain ⟨g, hA⟩ : ∃ a, A = some a := by
        have h0 : (rowl k)[0]? = some (sz (16 * k + 0)) := by unfold rowl; rw [List.getElem?_map, List.getElem?_range (by split <;> omega)]; rfl
        obtain ⟨b, o, e, _⟩ := hs1 0 _ (ints_at _ h0)
        exact ⟨_, e⟩
      subst hA
      have HC := hide (sees_addr hs1)
      have HO1 := hide (own_kept HO.out hb1)
      have HW1 : Hid (Below w.heap.size w w1) := hide (below_nextB HW.out HW.out.size hb1)
      have HSZ := hide HW1.out.size
      clear hs1 hb1
      go_wp2_with (at_builtin; go_loud (refine wpList_append_own _ rfl (.tmp 7) (.tmp 9) 35 rfl w.heap.size 3 i0 (.int .i64 0) 1 8 Try.underlying35 HI.out.1 HI.out.2.1 HI.out.2.2.1 HI.out.2.2.2 rfl (by decide) _ (pre k) _ rfl HO1.out g R c (ints (rowl k)) rfl (by simp [ints]; exact HR.out) HC.out (ints_one _) (by unfold maxLen; omega) (by omega) HSZ.out ?_))
      intro v' w2 hown2 hg2 _
      obtain ⟨A2, C2, rfl⟩ := own_form hown2
      have HO2 : Hid (w2.ownsRow w.heap.size 3 1 (.slice A2 (pre (k + 1)) C2) (pre (k + 1)) (ints (lens.take (pre (k + 1))))) := hide (by
        have h := hown2
        unfold ints at h ⊢
        rw [← List.map_append, HST.out, HLEN.out] at h
        exact h)
      have HW2 : Hid (Below w.heap.size w w2) := hide (HW1.out.grown hg2 HSZ.out (fun j hj => own_row_ge HO1.out j hj))
      rw [HLEN.out]
      clear hown2 hg2
      go_wp2_with fail
      go_roundw
      case rel => exact ⟨k + 1, A2, C2, rfl, by go_num, by omega, HO2, HW2⟩
      case measure => simp [intOf]; omega
    · obtain rfl : k = 17 := by omega
      have HS : Hid (Sees wr D (ints lens)) := hide (by
        have := Sees.of_own HO.out
        rw [List.take_of_length_le (by rw [lens_len]; decide)] at this
        exact this)
      go_wp2_with fail
      go_ret
      exact ⟨D, C, by rw [lens_len]; rfl, HS.out, HW.out⟩
end Go.Proofs.Ytlnaedaibhglcaa
