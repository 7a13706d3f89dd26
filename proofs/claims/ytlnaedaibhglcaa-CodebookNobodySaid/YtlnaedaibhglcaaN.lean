/- Contract: Make. -/
import Derived.Test.YtlnaedaibhglcaaM
import Derived.WalkMore
import Derived.Deep.RegionWith
namespace Go.Proofs.Ytlnaedaibhglcaa
open Go.RowKit

theorem Try.info3 : (Try.prog.info? 3).map (fun i => (i.zero, i.size, i.bytes)) = some (some (.int .i64 0), 1, 8) := by kernel_rfl
theorem bv_count (m : Bool) (C F N P : Nat → Nat) (o : Value) (n : Nat) (h : n < 31) : bv m C o F N P (290 + n) = .int .i64 (N n : Nat) := by
  unfold bv
  rw [if_neg (by omega), if_neg (by omega), if_neg (by omega), if_neg (by omega), if_pos (by omega), show 290 + n - 290 = n from by omega]
theorem bv_first (m : Bool) (C F N P : Nat → Nat) (o : Value) (n : Nat) (h : n < 31) : bv m C o F N P (259 + n) = .int .i64 (F n : Nat) := by
  unfold bv
  rw [if_neg (by omega), if_neg (by omega), if_neg (by omega), if_pos (by omega), show 259 + n - 259 = n from by omega]
theorem bv_base (m : Bool) (C F N P : Nat → Nat) (o : Value) (n : Nat) (h : n < 31) : bv m C o F N P (321 + n) = .int .i64 (P n : Nat) := by
  unfold bv
  rw [if_neg (by omega), if_neg (by omega), if_neg (by omega), if_neg (by omega), if_neg (by omega), show 321 + n - 321 = n from by omega]
theorem bv_code (m : Bool) (C F N P : Nat → Nat) (o : Value) (n : Nat) (h : n < 257) : bv m C o F N P (1 + n) = .int .i64 (C n : Nat) := by
  unfold bv
  rw [if_neg (by omega), if_pos (by omega), show 1 + n - 1 = n from by omega]
theorem bv_order (m : Bool) (C F N P : Nat → Nat) (o : Value) : bv m C o F N P 258 = o := rfl
theorem bv_made (m : Bool) (C F N P : Nat → Nat) (o : Value) : bv m C o F N P 0 = .bool m := rfl
section
variable {w : World} {g : Nat} {m : Bool} {C F N P : Nat → Nat} {o : Value}
theorem Bk.set_count (h : Bk w g (bv m C o F N P)) (n v : Nat) (hn : n < 31) : Bk (w.setCell ⟨g, 290 + n, none⟩ (.int .i64 (v : Nat))) g (bv m C o F (fun i => if i = n then v else N i) P) :=
  (h.store _ _).congr fun i hi => by
    by_cases hin : i = 290 + n
    · subst hin; rw [if_pos rfl, bv_count _ _ _ _ _ _ _ hn, if_pos rfl]
    · rw [if_neg hin]
      unfold bv
      (try dsimp only)
      repeat' split
      all_goals first | (exfalso; omega) | rfl
theorem Bk.set_first (h : Bk w g (bv m C o F N P)) (n v : Nat) (hn : n < 31) : Bk (w.setCell ⟨g, 259 + n, none⟩ (.int .i64 (v : Nat))) g (bv m C o (fun i => if i = n then v else F i) N P) :=
  (h.store _ _).congr fun i hi => by
    by_cases hin : i = 259 + n
    · subst hin; rw [if_pos rfl, bv_first _ _ _ _ _ _ _ hn, if_pos rfl]
    · rw [if_neg hin]
      unfold bv
      (try dsimp only)
      repeat' split
      all_goals first | (exfalso; omega) | rfl
theorem Bk.set_base (h : Bk w g (bv m C o F N P)) (n v : Nat) (hn : n < 31) : Bk (w.setCell ⟨g, 321 + n, none⟩ (.int .i64 (v : Nat))) g (bv m C o F N (fun i => if i = n then v else P i)) :=
  (h.store _ _).congr fun i hi => by
    by_cases hin : i = 321 + n
    · subst hin; rw [if_pos rfl, bv_base _ _ _ _ _ _ _ hn, if_pos rfl]
    · rw [if_neg hin]
      unfold bv
      (try dsimp only)
      repeat' split
      all_goals first | (exfalso; omega) | rfl
theorem Bk.set_code (h : Bk w g (bv m C o F N P)) (n v : Nat) (hn : n < 257) : Bk (w.setCell ⟨g, 1 + n, none⟩ (.int .i64 (v : Nat))) g (bv m (fun i => if i = n then v else C i) o F N P) :=
  (h.store _ _).congr fun i hi => by
    by_cases hin : i = 1 + n
    · subst hin; rw [if_pos rfl, bv_code _ _ _ _ _ _ _ hn, if_pos rfl]
    · rw [if_neg hin]
      unfold bv
      (try dsimp only)
      repeat' split
      all_goals first | (exfalso; omega) | rfl
theorem Bk.set_order (h : Bk w g (bv m C o F N P)) (v : Value) : Bk (w.setCell ⟨g, 258, none⟩ v) g (bv m C v F N P) :=
  (h.store _ _).congr fun i hi => by
    by_cases hin : i = 258
    · subst hin; rfl
    · rw [if_neg hin]
      unfold bv
      (try dsimp only)
      repeat' split
      all_goals first | (exfalso; omega) | rfl
end

/-- What a book shows that is made: its block, and its order. -/
def Book (w : World) (g : Nat) : Prop := ∃ A c, Bk w g (bv true cod (.slice A 257 c) fs (fun n => cnt n 257) (fun n => (ordTo (n - 1)).length)) ∧ Sees w A ((List.range 257).map fun i => .int .i64 (od i : Nat))
theorem Book.kept {w w' : World} {g : Nat} (h : Book w g) (hb : Below w.heap.size w w') : Book w' g := by
  obtain ⟨A, c, h1, h2⟩ := h
  exact ⟨A, c, h1.kept hb, h2.kept hb⟩
theorem Book.alloc {w : World} {g : Nat} (h : Book w g) (o : Obj) : Book (w.alloc o) g := by
  obtain ⟨A, c, h1, h2⟩ := h
  exact ⟨A, c, h1.alloc o, h2.alloc o⟩

def ints (l : List Nat) : List Value := l.map fun i => .int .i64 (i : Nat)
/-- The codes that are known when the symbols of fewer than n bits are done, and of n bits the first k. -/
def codTo (n k s : Nat) : Nat := if sz s < n ∨ sz s = n ∧ s < k then cod s else 0
def fsTo (n i : Nat) : Nat := if i < n then fs i else 0
def bsTo (n i : Nat) : Nat := if i < n then (ordTo (i - 1)).length else 0
/-- The state of the outer loop ahead of the symbols of m + 1 bits. -/
def Out (wr : World) (b g m : Nat) : Prop := ∃ A c, wr.ownsRow b 3 1 (.slice A (ordTo m).length c) (ordTo m).length (ints (ordTo m)) ∧ Bk wr g (bv true (codTo (m + 1) 0) (.slice A (ordTo m).length c) (fsTo (m + 1)) (fun n => cnt n 257) (bsTo (m + 1)))
/-- The state of the inner loop. -/
def Inn (wr : World) (b g m k : Nat) : Prop := ∃ A c, wr.ownsRow b 3 1 (.slice A ((ordTo m).length + cnt (m + 1) k) c) ((ordTo m).length + cnt (m + 1) k) (ints (ordTo m ++ flt (m + 1) k)) ∧ Bk wr g (bv true (codTo (m + 1) k) (.slice A ((ordTo m).length + cnt (m + 1) k) c) (fsTo (m + 2)) (fun n => cnt n 257) (bsTo (m + 2)))
theorem flt_mem (n : Nat) (k x : Nat) (h : x ∈ flt n k) : sz x = n ∧ x < k := by
  obtain ⟨i, hi⟩ := List.getElem?_of_mem h
  exact (flt_at n k i x hi).2
theorem inn_end {wr : World} {b g m : Nat} (h : Inn wr b g m 257) : Out wr b g (m + 1) := by
  obtain ⟨A, c, h1, h2⟩ := h
  have e : (ordTo (m + 1)).length = (ordTo m).length + cnt (m + 1) 257 := by rw [show ordTo (m + 1) = ordTo m ++ flt (m + 1) 257 from rfl, List.length_append, flt_length]
  refine ⟨A, c, ?_, ?_⟩
  · rw [e]; exact h1
  · rw [e]
    refine h2.congr fun i hi => ?_
    unfold bv
    split
    · rfl
    · split
      · rename_i h3 h4
        have hs : sz (i - 1) < m + 1 ∨ sz (i - 1) = m + 1 ∧ i - 1 < 257 ↔ sz (i - 1) < m + 1 + 1 ∨ sz (i - 1) = m + 1 + 1 ∧ i - 1 < 0 := by omega
        unfold codTo
        simp only [hs]
      · rfl

theorem inn_start {wr : World} {b g m C : Nat} {A : Option Addr} (hb : g < b) (hm : m < 30) (h1 : wr.ownsRow b 3 1 (.slice A (ordTo m).length C) (ordTo m).length (ints (ordTo m)))
    (h2 : Bk wr g (bv true (codTo (m + 1) 0) (.slice A (ordTo m).length C) (fsTo (m + 1)) (fun n => cnt n 257) (bsTo (m + 1)))) :
    Inn (((wr.setCell ⟨g, 259 + (m + 1), none⟩ (.int .i64 (fs (m + 1) : Nat))).setCell ⟨g, 321 + (m + 1), none⟩ (.int .i64 ((ordTo m).length : Nat))).drew) b g m 0 := by
  refine ⟨A, C, ?_, ?_⟩
  · have := ownsRow_setCell_below (ownsRow_setCell_below h1 (a := ⟨g, 259 + (m + 1), none⟩) hb (.int .i64 (fs (m + 1) : Nat))) (a := ⟨g, 321 + (m + 1), none⟩) hb (.int .i64 ((ordTo m).length : Nat))
    have h' : (((wr.setCell ⟨g, 259 + (m + 1), none⟩ (.int .i64 (fs (m + 1) : Nat))).setCell ⟨g, 321 + (m + 1), none⟩ (.int .i64 ((ordTo m).length : Nat))).drew).ownsRow b 3 1 (.slice A (ordTo m).length C) (ordTo m).length (ints (ordTo m)) := this
    simpa [cnt, flt] using h'
  · refine Bk.drew (((h2.set_first (m + 1) (fs (m + 1)) (by omega)).set_base (m + 1) (ordTo m).length (by omega)).congr fun i hi => ?_)
    unfold bv fsTo bsTo
    dsimp only
    split
    · rfl
    · split
      · rfl
      · split
        · rfl
        · split
          · by_cases h : i - 259 = m + 1
            · rw [if_pos h, if_pos (by omega), h]
            · rw [if_neg h]
              by_cases h2 : i - 259 < m + 1
              · rw [if_pos h2, if_pos (by omega)]
              · rw [if_neg h2, if_neg (by omega)]
          · split
            · rfl
            · by_cases h : i - 321 = m + 1
              · rw [if_pos h, if_pos (by omega), h]; rfl
              · rw [if_neg h]
                by_cases h2 : i - 321 < m + 1
                · rw [if_pos h2, if_pos (by omega)]
                · rw [if_neg h2, if_neg (by omega)]
theorem inn_skip {wr : World} {b g m k : Nat} (hz : ¬ sz k = m + 1) (h : Inn wr b g m k) : Inn wr b g m (k + 1) := by
  obtain ⟨A, c, h1, h2⟩ := h
  have e1 : cnt (m + 1) (k + 1) = cnt (m + 1) k := by show cnt (m + 1) k + _ = _; rw [if_neg hz]; rfl
  have e2 : flt (m + 1) (k + 1) = flt (m + 1) k := by show (if _ then _ else _) = _; rw [if_neg hz]
  refine ⟨A, c, ?_, ?_⟩
  · rw [e1, e2]; exact h1
  · rw [e1]
    refine h2.congr fun i hi => ?_
    unfold bv
    split
    · rfl
    · split
      · unfold codTo
        have hs : (sz (i - 1) < m + 1 ∨ sz (i - 1) = m + 1 ∧ i - 1 < k) ↔ (sz (i - 1) < m + 1 ∨ sz (i - 1) = m + 1 ∧ i - 1 < k + 1) := by
          constructor
          · rintro (h | h)
            · exact .inl h
            · exact .inr ⟨h.1, by omega⟩
          · rintro (h | h)
            · exact .inl h
            · refine .inr ⟨h.1, ?_⟩
              by_cases e : i - 1 = k
              · rw [e] at h; exact absurd h.1 hz
              · omega
        simp only [hs]
      · rfl
theorem inn_step {w1 : World} {b g m k N g' c' : Nat} {o : Value} (hb : g < b) (hk : k < 257) (hz : sz k = m + 1) (hN : N = (ordTo m).length + cnt (m + 1) k)
    (h1 : w1.ownsRow b 3 1 (.slice (some ⟨g', 0, none⟩) (N + 1) c') (N + 1) (ints (ordTo m ++ flt (m + 1) k) ++ [.int .i64 (k : Nat)]))
    (h2 : Bk w1 g (bv true (codTo (m + 1) k) o (fsTo (m + 2)) (fun n => cnt n 257) (bsTo (m + 2)))) :
    Inn ((w1.setCell ⟨g, 258, none⟩ (.slice (some ⟨g', 0, none⟩) (N + 1) c')).setCell ⟨g, 1 + k, none⟩ (.int .i64 (cod k : Nat))) b g m (k + 1) := by
  have e1 : cnt (m + 1) (k + 1) = cnt (m + 1) k + 1 := by show cnt (m + 1) k + _ = _; rw [if_pos hz]
  have e2 : flt (m + 1) (k + 1) = flt (m + 1) k ++ [k] := by show (if _ then _ else _) = _; rw [if_pos hz]
  subst hN
  refine ⟨some ⟨g', 0, none⟩, c', ?_, ?_⟩
  · have := ownsRow_setCell_below (ownsRow_setCell_below h1 (a := ⟨g, 258, none⟩) hb (.slice (some ⟨g', 0, none⟩) ((ordTo m).length + cnt (m + 1) k + 1) c')) (a := ⟨g, 1 + k, none⟩) hb (.int .i64 (cod k : Nat))
    rw [e1, e2, ← List.append_assoc]
    unfold ints at this ⊢
    rw [List.map_append (l₂ := [k])]
    exact this
  · rw [e1]
    refine ((h2.set_order _).set_code k (cod k) hk).congr fun i hi => ?_
    unfold bv
    dsimp only
    split
    · rfl
    · split
      · unfold codTo
        by_cases h : i - 1 = k
        · rw [if_pos h, if_pos (.inr ⟨by rw [h]; exact hz, by omega⟩), h]
        · rw [if_neg h]
          have hs : (sz (i - 1) < m + 1 ∨ sz (i - 1) = m + 1 ∧ i - 1 < k) ↔ (sz (i - 1) < m + 1 ∨ sz (i - 1) = m + 1 ∧ i - 1 < k + 1) := by
            constructor
            · rintro (h | h)
              · exact .inl h
              · exact .inr ⟨h.1, by omega⟩
            · rintro (h | h)
              · exact .inl h
              · exact .inr ⟨h.1, by omega⟩
          simp only [hs]
      · rfl

set_option maxRecDepth 10000 in
set_option maxHeartbeats 4000000 in
theorem make_any (w : World) : Calls Try.prog 7 #[] w fun e w' => ∃ g, e = .returned (.pointer (some ⟨g, 0, none⟩)) ∧ w.heap.size ≤ g ∧ Book w' g ∧ Below w.heap.size w w' := by
  go_enter Try.func7, Try.ntmps7
  go_wp2_with (first | (refine wpList_book rfl rfl ?_) | (refine wpList_bookbox rfl rfl rfl ?_))
  go_loopw [8] (fun ii wr => ∃ k : Nat, ii = .int .i64 k ∧ k ≤ 257 ∧ Hid (Bk wr w.heap.size (bv true zr (.slice none 0 0) zr (fun n => cnt n k) zr)) ∧ Hid (Below w.heap.size w wr)) (fun ii _ => 257 - (intOf ii).toNat)
  case atStart => exact ⟨0, rfl, Nat.zero_le _, hide (Bk.born w true), hide ((Below.refl _ _).alloc (Nat.le_refl _) _)⟩
  case round =>
    obtain ⟨k, rfl, hk, HB, HW⟩ := hrel
    by_cases hlt : k < 257
    · have hki : (k : Int) < 257 := by omega
      obtain ⟨z1, z2⟩ := sz_all k hlt
      have c0 : wr.cell? ⟨w.heap.size, 290 + sz k, none⟩ = some (.int .i64 (cnt (sz k) k : Nat)) := by rw [HB.out.cell (by omega), bv_count _ _ _ _ _ _ _ (by omega)]
      have f0 : wr.frozen? ⟨w.heap.size, 290 + sz k, none⟩ = false := HB.out.free _
      have hcb := cnt_le (sz k) k
      have hcw : IntKind.i64.wrap ((cnt (sz k) k : Nat) + 1) = ((cnt (sz k) k + 1 : Nat) : Int) := by rw [IntWalk.i64_in _ (by omega)]; omega
      go_wp2_with fail
      go_region_with (go_at_call 18; refine (size_q k _ hlt).mono ?_; rintro e w1 ⟨rfl, rfl⟩)
      have HB1 : Hid (Bk ((wr.setCell ⟨w.heap.size, 290 + sz k, none⟩ (.int .i64 ((cnt (sz k) k + 1 : Nat) : Int))).drew) w.heap.size (bv true zr (.slice none 0 0) zr (fun n => cnt n (k + 1)) zr)) := hide ((HB.out.set_count (sz k) (cnt (sz k) k + 1) (by omega)).congr fun i hi => by
        have e : ∀ n, (if n = sz k then cnt (sz k) k + 1 else cnt n k) = cnt n (k + 1) := by
          intro n
          show _ = cnt n k + if sz k = n then 1 else 0
          by_cases h : n = sz k
          · subst h; simp
          · rw [if_neg h, if_neg (fun h2 => h h2.symm)]; rfl
        simp only [e])
      have HW1 : Hid (Below w.heap.size w ((wr.setCell ⟨w.heap.size, 290 + sz k, none⟩ (.int .i64 ((cnt (sz k) k + 1 : Nat) : Int))).drew)) := hide (HW.out.setCell (Nat.le_refl _) _).drew
      clear c0 f0 hcw
      go_wp2_with fail
      go_roundw
      case rel => exact ⟨k + 1, by go_num, by omega, HB1, HW1⟩
      case measure => simp [intOf]; omega
    · have HK : Hid (k = 257) := hide (by omega)
      have HO : Hid (Out wr (w.heap.size + 1) w.heap.size 0) := hide (by
        have e257 := HK.out
        subst e257
        refine ⟨none, 0, World.ownsRow_nil _ _ _ _, HB.out.congr fun i hi => ?_⟩
        unfold bv zr codTo fsTo bsTo
        split
        · rfl
        · split
          · rename_i h3 h4
            have := sz_all (i - 1) (by omega)
            rw [if_neg (by omega)]
          · split
            · rfl
            · split
              · split
                · rename_i h5
                  have : i - 259 = 0 := by omega
                  rw [this]; rfl
                · rfl
              · split
                · rfl
                · split
                  · rename_i h5
                    have : i - 321 = 0 := by omega
                    rw [this]; rfl
                  · rfl)
      clear HB
      go_wp2_with fail
      go_loopw [3, 4] (fun cc ii wr => ∃ n c : Nat, cc = .int .i64 (c : Nat) ∧ ii = .int .i64 (n : Nat) ∧ 1 ≤ n ∧ n ≤ 31 ∧ Hid (c = fs (n - 1) + cnt (n - 1) 257) ∧ Hid (Out wr (w.heap.size + 1) w.heap.size (n - 1)) ∧ Hid (Below w.heap.size w wr)) (fun _ ii _ => 31 - (intOf ii).toNat)
      case atStart => exact ⟨1, 0, rfl, rfl, Nat.le_refl _, by decide, hide (by decide), HO, HW⟩
      case round =>
        clear HO HW
        obtain ⟨n, c, rfl, rfl, hn1, hn2, HC, HO, HW⟩ := hrel
        by_cases hn : n ≤ 30
        · have hni : (n : Int) ≤ 30 := by omega
          have hcb : c ≤ 1073741824 := by rw [HC.out]; exact fs_bound _ (by omega)
          obtain ⟨A, C, hown, hbk⟩ := HO.out
          have HOWN := hide hown
          have HBK := hide hbk
          have HLEN : Hid ((ordTo (n - 1)).length ≤ 257) := hide (ord_len _ (by omega))
          clear hown hbk HO
          obtain ⟨L, hL⟩ : ∃ L, (ordTo (n - 1)).length = L := ⟨_, rfl⟩
          rw [hL] at HOWN HBK HLEN
          have hL' := hide hL
          clear hL
          have f0 : wr.frozen? ⟨w.heap.size, 259 + n, none⟩ = false := HBK.out.free _
          have c1 : wr.cell? ⟨w.heap.size, 258, none⟩ = some (.slice A L C) := HBK.out.cell (by omega)
          have c0 : wr.cell? ⟨w.heap.size, 259 + n, none⟩ = some (bv true (codTo (n - 1 + 1) 0) (.slice A L C) (fsTo (n - 1 + 1)) (fun n => cnt n 257) (bsTo (n - 1 + 1)) (259 + n)) := HBK.out.cell (by omega)
          have f2 : wr.frozen? ⟨w.heap.size, 321 + n, none⟩ = false := HBK.out.free _
          have c2 : wr.cell? ⟨w.heap.size, 321 + n, none⟩ = some (bv true (codTo (n - 1 + 1) 0) (.slice A L C) (fsTo (n - 1 + 1)) (fun n => cnt n 257) (bsTo (n - 1 + 1)) (321 + n)) := HBK.out.cell (by omega)
          go_wp2_with fail
          go_region
          have HI0 : Hid (Inn (((wr.setCell ⟨w.heap.size, 259 + n, none⟩ (.int .i64 ((c : Int) * 2))).setCell ⟨w.heap.size, 321 + n, none⟩ (.int .i64 (L : Nat))).drew) (w.heap.size + 1) w.heap.size (n - 1) 0) := hide (by
            obtain ⟨m, rfl⟩ : ∃ m, n = m + 1 := ⟨n - 1, by omega⟩
            have h1 := HOWN.out
            have h2 := HBK.out
            have h3 := hL'.out
            have h4 := HC.out
            simp only [Nat.add_sub_cancel] at h1 h2 h3 h4 ⊢
            subst h3
            have e : ((c : Int) * 2) = ((fs (m + 1) : Nat) : Int) := by show _ = ((2 * (fs m + cnt m 257) : Nat) : Int); rw [← h4]; omega
            rw [e]
            exact inn_start (Nat.lt_succ_self _) (by omega) h1 h2)
          have HW1 : Hid (Below w.heap.size w (((wr.setCell ⟨w.heap.size, 259 + n, none⟩ (.int .i64 ((c : Int) * 2))).setCell ⟨w.heap.size, 321 + n, none⟩ (.int .i64 (L : Nat))).drew)) := hide ((HW.out.setCell (Nat.le_refl _) _).setCell (Nat.le_refl _) _).drew
          have HC0 : Hid (c * 2 = fs n + cnt n 0) := hide (by
            obtain ⟨m, rfl⟩ : ∃ m, n = m + 1 := ⟨n - 1, by omega⟩
            have h4 := HC.out
            simp only [Nat.add_sub_cancel] at h4
            show _ = 2 * (fs m + cnt m 257) + 0
            omega)
          have HFB : Hid (fs n + cnt n 257 ≤ 1073741824) := hide (fs_bound n (by omega))
          clear f0 c1 c0 f2 c2 HOWN HBK HLEN hL' HC HW
          go_wp2_with fail
          go_loopw [3, 45] (fun cc ii wr => ∃ k d : Nat, cc = .int .i64 (d : Nat) ∧ ii = .int .i64 (k : Nat) ∧ k ≤ 257 ∧ Hid (d = fs n + cnt n k) ∧ Hid (Inn wr (w.heap.size + 1) w.heap.size (n - 1) k) ∧ Hid (Below w.heap.size w wr)) (fun _ ii _ => 257 - (intOf ii).toNat)
          case atStart => exact ⟨0, c * 2, by simp, rfl, Nat.zero_le _, HC0, HI0, HW1⟩
          case round =>
            clear HC0 HI0 HW1
            obtain ⟨k, d, rfl, rfl, hk, HD, HI, HW⟩ := hrel
            have hdb : d ≤ 1073741824 := by rw [HD.out]; exact Nat.le_trans (Nat.add_le_add_left (cnt_mono n hk) _) HFB.out
            by_cases hk2 : k < 257
            · have hki : (k : Int) < 257 := by omega
              by_cases hz : sz k = n
              · have hzi : ((sz k : Nat) : Int) = (n : Nat) := by rw [hz]
                obtain ⟨A, C, hown, hbk⟩ := HI.out
                have HOWN := hide hown
                have HBK := hide hbk
                obtain ⟨N, hN⟩ : ∃ N, (ordTo (n - 1)).length + cnt (n - 1 + 1) k = N := ⟨_, rfl⟩
                rw [hN] at HOWN HBK
                have hNb : N ≤ 514 := by rw [← hN]; have h1 := ord_len (n - 1) (by omega); have h2 := cnt_le (n - 1 + 1) k; omega
                have HN := hide hN
                clear hown hbk hN HI
                have c1 : wr.cell? ⟨w.heap.size, 258, none⟩ = some (.slice A N C) := HBK.out.cell (by omega)
                have HSZ := hide HBK.out.lt
                go_wp2_with fail
                refine (size_q k _ hk2).mono ?_
                rintro e w1 ⟨rfl, rfl⟩
                go_wp2_with (at_builtin; go_loud (refine wpList_push rfl (.tmp 56) (.tmp 58) 35 rfl (w.heap.size + 1) 3 Try.info3 rfl Try.underlying35 A N C _ _ rfl HOWN.out wr.heap.size rfl rfl rfl (by unfold maxLen; omega) (by omega) (by have := HSZ.out; omega) ?_))
                intro g' c' w1 hown1 hg
                have HB1 := hide ((HBK.out.alloc (.cells #[.int .i64 (k : Nat)] 3)).grown hg (own_ne HOWN.out (Nat.lt_succ_self _)))
                have HWG : Hid (Below w.heap.size w w1) := hide ((HW.out.alloc HW.out.size _).grown hg (by have := HW.out.size; simp; omega) (fun j hj => by have := own_row_ge HOWN.out j hj; omega))
                have HOWN1 := hide hown1
                clear hown1 hg c1
                have c1 : w1.cell? ⟨w.heap.size, 258, none⟩ = some (.slice A N C) := HB1.out.cell (by omega)
                have f1 : w1.frozen? ⟨w.heap.size, 258, none⟩ = false := HB1.out.free _
                have c2 : w1.cell? ⟨w.heap.size, 1 + k, none⟩ = some (bv true (codTo (n - 1 + 1) k) (.slice A N C) (fsTo (n - 1 + 2)) (fun n => cnt n 257) (bsTo (n - 1 + 2)) (1 + k)) := HB1.out.cell (by omega)
                have f2 : w1.frozen? ⟨w.heap.size, 1 + k, none⟩ = false := HB1.out.free _
                have HI1 : Hid (Inn ((w1.setCell ⟨w.heap.size, 258, none⟩ (.slice (some ⟨g', 0, none⟩) (N + 1) c')).setCell ⟨w.heap.size, 1 + k, none⟩ (.int .i64 (d : Nat))) (w.heap.size + 1) w.heap.size (n - 1) (k + 1)) := hide (by
                  obtain ⟨m, rfl⟩ : ∃ m, n = m + 1 := ⟨n - 1, by omega⟩
                  have h1 := HOWN1.out
                  have h2 := HB1.out
                  have h3 := HN.out
                  have h4 := HD.out
                  simp only [Nat.add_sub_cancel] at h1 h2 h3 ⊢
                  have e : d = cod k := by rw [h4]; unfold cod; rw [hz]
                  rw [e]
                  exact inn_step (Nat.lt_succ_self _) hk2 hz h3.symm h1 h2)
                have HD1 : Hid (d + 1 = fs n + cnt n (k + 1)) := hide (by
                  have e : cnt n (k + 1) = cnt n k + 1 := by show cnt n k + _ = _; rw [if_pos hz]
                  rw [e, HD.out]; omega)
                have HW2 : Hid (Below w.heap.size w ((w1.setCell ⟨w.heap.size, 258, none⟩ (.slice (some ⟨g', 0, none⟩) (N + 1) c')).setCell ⟨w.heap.size, 1 + k, none⟩ (.int .i64 (d : Nat)))) := hide ((HWG.out.setCell (Nat.le_refl _) _).setCell (Nat.le_refl _) _)
                clear HOWN1 HB1 HWG HOWN HBK
                go_wp2_with fail
                go_roundw
                case rel => exact ⟨k + 1, d + 1, by go_num, by go_num, by omega, HD1, HI1, HW2⟩
                case measure => simp [intOf]; omega
              · have hzi : (((sz k : Nat) : Int) == (n : Nat)) = false := by rw [beq_eq_false_iff_ne]; omega
                have HI1 : Hid (Inn wr (w.heap.size + 1) w.heap.size (n - 1) (k + 1)) := hide (inn_skip (by omega) HI.out)
                have HD1 : Hid (d = fs n + cnt n (k + 1)) := hide (by
                  have e : cnt n (k + 1) = cnt n k := by show cnt n k + _ = _; rw [if_neg hz]; rfl
                  rw [e, HD.out])
                go_wp2_with fail
                refine (size_q k _ hk2).mono ?_
                rintro e w1 ⟨rfl, rfl⟩
                go_wp2_with fail
                go_roundw
                case rel => exact ⟨k + 1, d, rfl, by go_num, by omega, HD1, HI1, HW⟩
                case measure => simp [intOf]; omega
            · obtain rfl : k = 257 := by omega
              have HO1 : Hid (Out wr (w.heap.size + 1) w.heap.size (n + 1 - 1)) := hide (by
                obtain ⟨m, rfl⟩ : ∃ m, n = m + 1 := ⟨n - 1, by omega⟩
                have := inn_end HI.out
                simpa using this)
              have HD1 : Hid (d = fs (n + 1 - 1) + cnt (n + 1 - 1) 257) := hide (by rw [Nat.add_sub_cancel]; exact HD.out)
              go_wp2_with fail
              go_roundw
              case rel => exact ⟨n + 1, d, rfl, by go_num, by omega, by omega, HD1, HO1, HW⟩
              case measure => simp [intOf]; omega
        · obtain rfl : n = 31 := by omega
          have HBOOK : Hid (Book wr w.heap.size) := hide (by
            obtain ⟨A, C, h1, h2⟩ := HO.out
            have hl : (ordTo 30).length = 257 := by rw [ord_all]; simp
            rw [show 31 - 1 = 30 from rfl, hl] at h1 h2
            refine ⟨A, C, h2.congr fun i hi => ?_, ?_⟩
            · unfold bv codTo fsTo bsTo
              split
              · rfl
              · split
                · rw [if_pos (.inl (by have := sz_all (i - 1) (by omega); omega))]
                · split
                  · rfl
                  · split
                    · rw [if_pos (by omega)]
                    · split
                      · rfl
                      · rw [if_pos (by omega)]
            · have := Sees.of_own h1
              rw [ord_all] at this
              unfold ints at this
              rw [List.map_map] at this
              exact this)
          clear HO HC
          go_wp2_with fail
          go_ret
          exact ⟨w.heap.size, rfl, Nat.le_refl _, HBOOK.out, HW.out⟩
end Go.Proofs.Ytlnaedaibhglcaa
