/- The reference's Join. -/
import Derived.Test.YtciddilphflhaaaL
namespace Go.Proofs.Ytciddilphflhaaa
open Go.RowKit
set_option linter.unusedSimpArgs false

/-- What a function says that gives a list of chunks of its own. -/
def JPost (l : CL) (w : World) (e : Ending) (w' : World) : Prop :=
  ∃ A n c hs, e = .returned (.slice A n c) ∧ OwnC w.heap.size w' A n c hs l ∧ Below w.heap.size w w'
/-- A cell of what is seen, in a later world. -/
theorem seen_byte {w : World} {D : Option Addr} {b : List Int} {k : Nat} {y : Int} (h : Sees w D (b.map (Value.int .u8))) (hy : b[k]? = some y) : ∃ gb ob, D = some ⟨gb, ob, none⟩ ∧ w.cell? ⟨gb, ob + k, none⟩ = some (.int .u8 y) :=
  h k _ (by rw [List.getElem?_map, hy]; rfl)
theorem take_snoc {b : List Int} {k : Nat} {y : Int} (h : b[k]? = some y) : b.take (k + 1) = b.take k ++ [y] := by
  obtain ⟨hk, e⟩ := List.getElem?_eq_some_iff.1 h
  rw [List.take_succ_eq_append_getElem hk, e]
theorem born_at {w : World} {g e : Nat} {u : Value} (h : w.heap.size = g) : Sees (w.alloc (.cells #[u] e)) (some ⟨g, 0, none⟩) [u] := by
  subst h
  exact Sees.born w e #[u] _

set_option maxRecDepth 100000 in
set_option maxHeartbeats 4000000 in
theorem rjoin_any (A : Option Addr) (n c : Nat) (l : CL) (w : World) (hl : l.length = n) (hn : n ≤ 5000) (ht : tot l ≤ 5000) (hs : Chunks w A l) :
    Calls Try.prog 10 #[.slice A n c] w (JPost (joinC l) w) := by
  have HLN := hide hl
  have HT := hide ht
  have HC := hide hs
  clear hl hs ht
  go_enter Try.func10, Try.ntmps10
  go_wp2_with fail
  go_loopw [3, 4] (fun ov iv wr => ∃ (i n1 c1 : Nat) (A1 : Option Addr) (hs : HL), ov = .slice A1 n1 c1 ∧ iv = .int .i64 (i : Nat) ∧ i ≤ n ∧ Hid (OwnC w.heap.size wr A1 n1 c1 hs (joinC (l.take i))) ∧ Hid (Below w.heap.size w wr)) (fun _ iv _ => n - (intOf iv).toNat)
  case atStart => exact ⟨0, 0, 0, none, [], rfl, rfl, Nat.zero_le _, hide (OwnC.nil _ _), hide (Below.refl _ _)⟩
  case round =>
    obtain ⟨i, n1, c1, A1, hs, rfl, rfl, hi, HO, HW⟩ := hrel
    by_cases hlt : i < n
    · have hil : i < l.length := by have := HLN.out; omega
      obtain ⟨f, b, hd⟩ : ∃ f b, l[i] = (f, b) := ⟨_, _, rfl⟩
      have hg : l[i]? = some (f, b) := by rw [List.getElem?_eq_getElem hil, hd]
      obtain ⟨ga, oa, D, cd, rfl, a0, a1, _, _, hsb⟩ := HC.out i f b hg
      have HJ := hide (joinC_take hg)
      have HSB := hide hsb
      obtain ⟨m, hm⟩ : ∃ m, b.length = m := ⟨_, rfl⟩
      have HM := hide hm
      have hm5 : m ≤ 5000 := by have h1 := tot_at hg; have := HT.out; simp at h1; omega
      rw [hm] at a1
      have HA := hide (show ∀ wq, Below w.heap.size w wq → wq.cell? ⟨ga, oa + i * 2, none⟩ = some (.int .i64 f) ∧ wq.cell? ⟨ga, oa + i * 2 + 1, none⟩ = some (.slice D m cd) from fun wq hb => ⟨(hb.cell (World.block_lt_of_cell? _ _ a0)).trans a0, (hb.cell (World.block_lt_of_cell? _ _ a1)).trans a1⟩)
      have HTJ : Hid (tot (joinC (l.take i)) + m ≤ 5000 ∧ (joinC (l.take i)).length ≤ 5000) := hide (by
        have h1 := joinC_tot (l.take i)
        have h2 := tot_take hg
        have h3 := tot_le l (i + 1)
        have h4 := joinC_len (l.take i)
        have h5 := HT.out
        simp at h2 h4
        omega)
      have i1 : (i : Int) < (n : Int) := by omega
      have i3 : (0 : Int) ≤ (i : Int) := by omega
      clear hd hg hsb hm hil a0 a1
      go_wp2_with fail
      go_loopw [3, 5] (fun ov kv wy => ∃ (k n1 c1 : Nat) (A1 : Option Addr) (hs : HL), ov = .slice A1 n1 c1 ∧ kv = .int .i64 (k : Nat) ∧ k ≤ m ∧ Hid (OwnC w.heap.size wy A1 n1 c1 hs (addC (joinC (l.take i)) (f, b.take k))) ∧ Hid (Below w.heap.size w wy)) (fun _ kv _ => m - (intOf kv).toNat)
      case atStart => exact ⟨0, n1, c1, A1, hs, rfl, rfl, Nat.zero_le _, hide (by rw [List.take_zero, addC_nil]; exact HO.out), HW⟩
      case round =>
        clear HO HW
        obtain ⟨k, n1, c1, A1, hs, rfl, rfl, hk, HO, HW⟩ := hrel
        obtain ⟨a0, a1⟩ := HA.out wr HW.out
        by_cases hkm : k < m
        · have hkl : k < b.length := by have := HM.out; omega
          obtain ⟨y, hy⟩ : ∃ y, b[k]? = some y := ⟨_, List.getElem?_eq_getElem hkl⟩
          obtain ⟨gb, ob, rfl, y0⟩ := seen_byte HSB.out hy
          obtain ⟨out0, hout⟩ : ∃ out0, addC (joinC (l.take i)) (f, b.take k) = out0 := ⟨_, rfl⟩
          have HX : Hid (addC (joinC (l.take i)) (f, b.take (k + 1)) = addC out0 (f, [y])) := hide (by rw [take_snoc hy, ← addC_addC, hout])
          have HB : Hid (tot out0 + 1 ≤ 5000 ∧ out0.length ≤ 5001) := hide (by
            rw [← hout]
            have h1 := addC_tot (joinC (l.take i)) (f, b.take k)
            have h2 := addC_len (joinC (l.take i)) (f, b.take k)
            have h3 := HTJ.out
            simp at h1
            omega)
          rw [hout] at HO
          have HS : Hid (∀ w', Below w.heap.size w w' → w'.cell? ⟨ga, oa + i * 2 + 1, none⟩ = some (.slice (some ⟨gb, ob, none⟩) m cd) ∧ w'.cell? ⟨gb, ob + k, none⟩ = some (.int .u8 y)) := hide (fun w' hb => ⟨(HA.out w' hb).2, (hb.cell (World.block_lt_of_cell? _ _ y0)).trans y0⟩)
          have y1 := (HS.out wr HW.out).2
          have k1 : (k : Int) < (m : Int) := by omega
          have k3 : (0 : Int) ≤ (k : Int) := by omega
          clear hout hkl hy y0
          rcases addC_cases out0 f with ⟨o1, cc, rfl⟩ | ⟨h1, h2⟩
          · obtain ⟨g, q, hs0, B, p, cb, rfl, rfl, hlc⟩ := HO.out.toLast
            have HLC := hide hlc
            have hq : q ≤ 5001 := by have h1 := HB.out.2; have h2 := hlc.lq; simp at h1; omega
            have hp : p ≤ 5000 := by have h1 := HB.out.1; have h2 := hlc.lp; rw [tot_snoc] at h1; simp at h1; omega
            obtain ⟨e0, e1, _⟩ := hlc.facts
            have z1 : ((q : Int) + 1 == 0) = false := by simp; omega
            have q1 : (q : Int) < (q : Int) + 1 := by omega
            have q3 : (0 : Int) ≤ (q : Int) := by omega
            have qw : IntKind.i64.wrap (q : Int) = (q : Int) := by rw [IntKind.wrap_i64]; omega
            clear hlc
            go_wp2_with fail
            go_quiet (fail)
            go_wp2_with fail
            have HW1 := hide (below_drewN HW.out nq)
            have HL1 := hide (HLC.out.kept (below_drewN (Below.refl _ _) nq))
            obtain ⟨W, hW⟩ : ∃ W, wr.drewN nq = W := ⟨_, rfl⟩
            rw [hW] at HW1 HL1
            rw [hW]
            clear hW HLC HO HW e0 e1 a0 a1 y1
            obtain ⟨e0, e1, e2, inn, hge⟩ := HL1.out.facts
            have HIN := hide inn
            have hlp := HL1.out.lp
            have e1A : (W.alloc (.cells #[.int .u8 y] 5)).cell? ⟨g, q * 2 + 1, none⟩ = some (.slice B p cb) := (HL1.out.kept ((Below.refl _ _).alloc (Nat.le_refl _) _)).facts.2.1
            have hWs := HW1.out.size
            obtain ⟨s1, s2⟩ := HS.out W HW1.out
            have q1 : (q : Int) < (q : Int) + 1 := by omega
            have q3 : (0 : Int) ≤ (q : Int) := by omega
            have qw : IntKind.i64.wrap (q : Int) = (q : Int) := by rw [IntKind.wrap_i64]; omega
            clear inn
            refine wp_region_held_drew (S := fun w' => w'.cell? ⟨ga, oa + i * 2 + 1, none⟩ = some (.slice (some ⟨gb, ob, none⟩) m cd) ∧ w'.cell? ⟨gb, ob + k, none⟩ = some (.int .u8 y)) (by kernel_rfl) (⟨s1, s2⟩) (fun hHeld => ?_)
            refine wpAnyH_take (i := 0) (v := ?_) rfl (by kernel_rfl) (by kernel_rfl) (by kernel_rfl) (fun _ _ _ h => h) (Or.inl ⟨by rfl, ?hy⟩) (by assumption) ?_
            case hy => intro w hSw; (try dsimp only at hSw); go_simp; (try with_reducible rfl)
            try simp only [Act.put, List.setIfInBounds_toArray, List.set_cons_zero, List.set_cons_succ]
            refine wpAnyH_take (i := 1) (v := ?_) rfl (by kernel_rfl) (by kernel_rfl) (by kernel_rfl) (fun _ _ _ h => h) (Or.inl ⟨by rfl, ?hy⟩) (by assumption) ?_
            case hy => intro w hSw; (try dsimp only at hSw); go_simp; (try with_reducible rfl)
            try simp only [Act.put, List.setIfInBounds_toArray, List.set_cons_zero, List.set_cons_succ]
            refine wpAnyH_take (i := 2) (v := ?_) rfl (by kernel_rfl) (by kernel_rfl) (by kernel_rfl) (fun _ _ _ h => h) (Or.inl ⟨by rfl, ?hy⟩) (by assumption) ?_
            case hy => intro w hSw; (try dsimp only at hSw); go_simp; (try with_reducible rfl)
            try simp only [Act.put, List.setIfInBounds_toArray, List.set_cons_zero, List.set_cons_succ]
            refine wpAnyH_take (i := 3) (v := ?_) rfl (by kernel_rfl) (by kernel_rfl) (by kernel_rfl) (fun _ _ _ h => h) (Or.inl ⟨by rfl, ?hy⟩) (by assumption) ?_
            case hy => intro w hSw; (try dsimp only at hSw); go_simp; (try with_reducible rfl)
            try simp only [Act.put, List.setIfInBounds_toArray, List.set_cons_zero, List.set_cons_succ]
            refine wpAnyH_take (i := 4) (v := ?_) rfl (by kernel_rfl) (by kernel_rfl) (by kernel_rfl) (fun _ _ _ h => h) (Or.inl ⟨by rfl, ?hy⟩) (by assumption) ?_
            case hy => intro w hSw; (try dsimp only at hSw); go_simp; (try with_reducible rfl)
            try simp only [Act.put, List.setIfInBounds_toArray, List.set_cons_zero, List.set_cons_succ]
            refine wpAnyH_take (i := 5) (v := ?_) rfl (by kernel_rfl) (by kernel_rfl) (by kernel_rfl) (fun _ _ _ h => h) (Or.inl ⟨by rfl, ?hy⟩) (by assumption) ?_
            case hy => intro w hSw; (try dsimp only at hSw); go_simp; (try with_reducible rfl)
            try simp only [Act.put, List.setIfInBounds_toArray, List.set_cons_zero, List.set_cons_succ]
            refine wpAnyH_take (i := 6) (v := ?_) rfl (by kernel_rfl) (by kernel_rfl) (by kernel_rfl) (fun _ _ _ h => h) (Or.inl ⟨by rfl, ?hy⟩) (by assumption) ?_
            case hy => intro w hSw; (try dsimp only at hSw); go_simp; (try with_reducible rfl)
            try simp only [Act.put, List.setIfInBounds_toArray, List.set_cons_zero, List.set_cons_succ]
            refine wpAnyH_take (i := 7) (v := ?_) rfl (by kernel_rfl) (by kernel_rfl) (by kernel_rfl) (fun _ _ _ h => h) (Or.inl ⟨by rfl, ?hy⟩) (by assumption) ?_
            case hy => intro w hSw; (try dsimp only at hSw); go_simp; (try with_reducible rfl)
            try simp only [Act.put, List.setIfInBounds_toArray, List.set_cons_zero, List.set_cons_succ]
            refine wpAnyH_take (i := 9) (v := ?_) rfl (by kernel_rfl) (by kernel_rfl) (by kernel_rfl) (fun _ _ _ h => h) (Or.inl ⟨by rfl, ?hy⟩) (by assumption) ?_
            case hy => intro w hSw; (try dsimp only at hSw); go_simp; (try with_reducible rfl)
            try simp only [Act.put, List.setIfInBounds_toArray, List.set_cons_zero, List.set_cons_succ]
            refine wpAnyH_take (i := 10) (v := ?_) rfl (by kernel_rfl) (by kernel_rfl) (by kernel_rfl) (fun _ _ _ h => h) (Or.inl ⟨by rfl, ?hy⟩) (by assumption) ?_
            case hy => intro w hSw; (try dsimp only at hSw); go_simp; (try with_reducible rfl)
            try simp only [Act.put, List.setIfInBounds_toArray, List.set_cons_zero, List.set_cons_succ]
            refine wpAnyH_take (i := 11) (v := ?_) rfl (by kernel_rfl) (by kernel_rfl) (by kernel_rfl) (fun _ _ _ h => h) (Or.inl ⟨by rfl, ?hy⟩) (by assumption) ?_
            case hy => intro w hSw; (try dsimp only at hSw); go_simp; (try with_reducible rfl)
            try simp only [Act.put, List.setIfInBounds_toArray, List.set_cons_zero, List.set_cons_succ]
            refine wpAnyH_take (i := 12) (v := ?_) rfl (by kernel_rfl) (by kernel_rfl) (by kernel_rfl) (fun _ _ _ h => h) (Or.inl ⟨by rfl, ?hy⟩) (by assumption) ?_
            case hy => intro w hSw; (try dsimp only at hSw); go_simp; (try with_reducible rfl)
            try simp only [Act.put, List.setIfInBounds_toArray, List.set_cons_zero, List.set_cons_succ]
            refine wpAnyH_take (i := 13) (v := ?_) rfl (by kernel_rfl) (by kernel_rfl) (by kernel_rfl) (fun _ _ _ h => h) (Or.inl ⟨by rfl, ?hy⟩) (by assumption) ?_
            case hy => intro w hSw; (try dsimp only at hSw); go_simp; (try with_reducible rfl)
            try simp only [Act.put, List.setIfInBounds_toArray, List.set_cons_zero, List.set_cons_succ]
            refine wpAnyH_take (i := 14) (v := ?_) rfl (by kernel_rfl) (by kernel_rfl) (by kernel_rfl) (fun _ _ _ h => h) (Or.inl ⟨by rfl, ?hy⟩) (by assumption) ?_
            case hy => intro w hSw; (try dsimp only at hSw); go_simp; (try with_reducible rfl)
            try simp only [Act.put, List.setIfInBounds_toArray, List.set_cons_zero, List.set_cons_succ]
            refine wpAnyH_take (i := 15) (v := ?_) rfl (by kernel_rfl) (by kernel_rfl) (by kernel_rfl) (fun _ _ _ h => h) (Or.inl ⟨by rfl, ?hy⟩) (by assumption) ?_
            case hy => intro w hSw; (try dsimp only at hSw); go_simp; (try with_reducible rfl)
            try simp only [Act.put, List.setIfInBounds_toArray, List.set_cons_zero, List.set_cons_succ]
            refine wpAnyH_take (i := 16) (v := ?_) rfl (by kernel_rfl) (by kernel_rfl) (by kernel_rfl) (fun _ _ _ h => h) (Or.inl ⟨by rfl, ?hy⟩) (by assumption) ?_
            case hy => intro w hSw; (try dsimp only at hSw); go_simp; (try with_reducible rfl)
            try simp only [Act.put, List.setIfInBounds_toArray, List.set_cons_zero, List.set_cons_succ]
            refine wpAnyH_ready (rs := [8, 17]) (by kernel_rfl) (by simp) ?_
            refine AllReadyH.cons rfl (fun K' hK => ?_) ?_
            · go_simp
              refine hK.out _ _ (HS.out _ HW1.out.drew) (fun hHeld => ?_)
              clear hK
              try simp only [Act.put, List.setIfInBounds_toArray, List.set_cons_zero, List.set_cons_succ]
              refine wpAnyH_ready (rs := [17]) (by kernel_rfl) (by simp) ?_
              refine AllReadyH.cons rfl (fun K' hK => ?_) ?_
              · go_simp
                refine hK.out _ _ (HS.out _ (HW1.out.alloc HW1.out.size _).drew) (fun hHeld => ?_)
                clear hK
                try simp only [Act.put, List.setIfInBounds_toArray, List.set_cons_zero, List.set_cons_succ]
                refine wpAnyH_ready (rs := [18]) (by kernel_rfl) (by simp) ?_
                refine AllReadyH.cons rfl (fun K' hK => ?_) ?_
                · refine step_bytes rfl (.tmp 60) (.tmp 69) rfl w.heap.size p cb B cc [y] (by rfl) (HIN.out.alloc _).drew hlp (some ⟨W.heap.size, 0, none⟩) 1 1 (by rfl) rfl (born_at rfl).drew (by decide) (by omega) (by simp; omega) ?_
                  intro g' c' w4 ho hg hat
                  have hal : Below W.heap.size W (W.alloc (.cells #[.int .u8 y] 5)).drew := ((Below.refl _ _).alloc (Nat.le_refl _) _).drew
                  obtain ⟨x1, x2⟩ := HL1.out.outer hal hg
                  obtain ⟨hs4, ho4⟩ := HL1.out.more hal ho rfl hg hat
                  have HO4 := hide ho4
                  have HB4 : Hid (Below w.heap.size w w4) := hide ((below_nextB HW1.out HW1.out.size hal).grown hg (by simp; omega) (own_row_ge HIN.out))
                  clear ho hg hat ho4 hal
                  refine hK.out _ _ (HS.out _ HB4.out) (fun hHeld => ?_)
                  clear hK
                  try simp only [Act.put, List.setIfInBounds_toArray, List.set_cons_zero, List.set_cons_succ]
                  refine wpAnyH_take (i := 19) (v := ?_) rfl (by kernel_rfl) (by kernel_rfl) (by kernel_rfl) (fun _ _ _ h => h) (Or.inl ⟨by rfl, ?hy⟩) (by assumption) ?_
                  case hy => intro w hSw; (try dsimp only at hSw); go_simp; (try with_reducible rfl)
                  try simp only [Act.put, List.setIfInBounds_toArray, List.set_cons_zero, List.set_cons_succ]
                  refine wpAnyH_take (i := 20) (v := ?_) rfl (by kernel_rfl) (by kernel_rfl) (by kernel_rfl) (fun _ _ _ h => h) (Or.inl ⟨by rfl, ?hy⟩) (by assumption) ?_
                  case hy => intro w hSw; (try dsimp only at hSw); go_simp; (try with_reducible rfl)
                  try simp only [Act.put, List.setIfInBounds_toArray, List.set_cons_zero, List.set_cons_succ]
                  refine wpAnyH_ready (rs := [21]) (by kernel_rfl) (by simp) ?_
                  refine AllReadyH.cons rfl (fun K' hK => ?_) ?_
                  · go_simp
                    refine hK.out _ _ (HS.out _ (HB4.out.setCell hge _)) (fun hHeld => ?_)
                    clear hK
                    try simp only [Act.put, List.setIfInBounds_toArray, List.set_cons_zero, List.set_cons_succ]
                    refine wpAnyH_done (by kernel_rfl) ?_ _
                    try refine NoPanic.normal ?_
                    go_wp2_with fail
                    go_roundw
                    case rel => exact ⟨k + 1, q + 1, _, _, hs4, rfl, by go_num, by omega, hide (by rw [HX.out, addC_same]; exact HO4.out), hide (HB4.out.setCell hge _)⟩
                    case measure => simp [intOf]; omega
                  · exact AllReadyH.nil
                · exact AllReadyH.nil
              · exact AllReadyH.nil
            refine AllReadyH.cons rfl (fun K' hK => ?_) ?_
            · go_simp
              refine hK.out _ _ (HS.out _ (HW1.out.alloc HW1.out.size _).drew) (fun hHeld => ?_)
              clear hK
              try simp only [Act.put, List.setIfInBounds_toArray, List.set_cons_zero, List.set_cons_succ]
              refine wpAnyH_ready (rs := [8]) (by kernel_rfl) (by simp) ?_
              refine AllReadyH.cons rfl (fun K' hK => ?_) ?_
              · go_simp
                refine hK.out _ _ (HS.out _ (HW1.out.alloc HW1.out.size _).drew) (fun hHeld => ?_)
                clear hK
                try simp only [Act.put, List.setIfInBounds_toArray, List.set_cons_zero, List.set_cons_succ]
                refine wpAnyH_ready (rs := [18]) (by kernel_rfl) (by simp) ?_
                refine AllReadyH.cons rfl (fun K' hK => ?_) ?_
                · refine step_bytes rfl (.tmp 60) (.tmp 69) rfl w.heap.size p cb B cc [y] (by rfl) (HIN.out.alloc _).drew hlp (some ⟨W.heap.size, 0, none⟩) 1 1 (by rfl) rfl (born_at rfl).drew (by decide) (by omega) (by simp; omega) ?_
                  intro g' c' w4 ho hg hat
                  have hal : Below W.heap.size W (W.alloc (.cells #[.int .u8 y] 5)).drew := ((Below.refl _ _).alloc (Nat.le_refl _) _).drew
                  obtain ⟨x1, x2⟩ := HL1.out.outer hal hg
                  obtain ⟨hs4, ho4⟩ := HL1.out.more hal ho rfl hg hat
                  have HO4 := hide ho4
                  have HB4 : Hid (Below w.heap.size w w4) := hide ((below_nextB HW1.out HW1.out.size hal).grown hg (by simp; omega) (own_row_ge HIN.out))
                  clear ho hg hat ho4 hal
                  refine hK.out _ _ (HS.out _ HB4.out) (fun hHeld => ?_)
                  clear hK
                  try simp only [Act.put, List.setIfInBounds_toArray, List.set_cons_zero, List.set_cons_succ]
                  refine wpAnyH_take (i := 19) (v := ?_) rfl (by kernel_rfl) (by kernel_rfl) (by kernel_rfl) (fun _ _ _ h => h) (Or.inl ⟨by rfl, ?hy⟩) (by assumption) ?_
                  case hy => intro w hSw; (try dsimp only at hSw); go_simp; (try with_reducible rfl)
                  try simp only [Act.put, List.setIfInBounds_toArray, List.set_cons_zero, List.set_cons_succ]
                  refine wpAnyH_take (i := 20) (v := ?_) rfl (by kernel_rfl) (by kernel_rfl) (by kernel_rfl) (fun _ _ _ h => h) (Or.inl ⟨by rfl, ?hy⟩) (by assumption) ?_
                  case hy => intro w hSw; (try dsimp only at hSw); go_simp; (try with_reducible rfl)
                  try simp only [Act.put, List.setIfInBounds_toArray, List.set_cons_zero, List.set_cons_succ]
                  refine wpAnyH_ready (rs := [21]) (by kernel_rfl) (by simp) ?_
                  refine AllReadyH.cons rfl (fun K' hK => ?_) ?_
                  · go_simp
                    refine hK.out _ _ (HS.out _ (HB4.out.setCell hge _)) (fun hHeld => ?_)
                    clear hK
                    try simp only [Act.put, List.setIfInBounds_toArray, List.set_cons_zero, List.set_cons_succ]
                    refine wpAnyH_done (by kernel_rfl) ?_ _
                    try refine NoPanic.normal ?_
                    go_wp2_with fail
                    go_roundw
                    case rel => exact ⟨k + 1, q + 1, _, _, hs4, rfl, by go_num, by omega, hide (by rw [HX.out, addC_same]; exact HO4.out), hide (HB4.out.setCell hge _)⟩
                    case measure => simp [intOf]; omega
                  · exact AllReadyH.nil
                · exact AllReadyH.nil
              · exact AllReadyH.nil
            · exact AllReadyH.nil
          · rcases List.eq_nil_or_concat out0 with rfl | ⟨o1, ⟨f1, cc⟩, e⟩
            · have z0 : ((n1 : Int) == 0) = true := by have := HO.out.num; simp at this; simp; omega
              have hn5 : n1 ≤ 5001 := by have := HO.out.num; simp at this; omega
              clear h2
              go_wp2_with fail
              go_quiet (fail)
              have HW1 := hide (below_drewN HW.out nq)
              have HO1 := hide (HO.out.kept (below_drewN (Below.refl _ _) nq))
              obtain ⟨W, hW⟩ : ∃ W, wr.drewN nq = W := ⟨_, rfl⟩
              rw [hW] at HW1 HO1
              rw [hW]
              clear HO
              obtain ⟨a0, a1⟩ := HA.out W HW1.out
              clear hW HW
              go_wp2_with (at_builtin; go_loud (refine wpList_chunk rfl (.tmp 41) (.tmp 48) rfl w.heap.size n1 c1 _ _ f (.slice none 0 0) rfl (HO1.out.own.alloc _) W.heap.size rfl (Blk.born W 33 _) rfl (by omega) (by have := HW1.out.size; simp; omega) ?_))
              intro A2 c2 w2 ho hg
              obtain ⟨hs2, ho2⟩ := HO1.out.bare ((Below.refl _ _).alloc (Nat.le_refl _) _) ho hg
              have HW2 : Hid (Below w.heap.size w w2) := hide ((HW1.out.alloc HW1.out.size _).grown hg (by have := HW1.out.size; simp; omega) (own_row_ge HO1.out.own))
              have hqq := HO1.out.num
              clear ho hg HO1 HW1 a0 a1
              obtain ⟨g, q, hs0, B, p, cb, rfl, hqe, hlc⟩ := ho2.toLast
              have HL2 := hide hlc
              have hq : q ≤ 5001 := by have h1 := HB.out.2; have h2 := hlc.lq; omega
              have hp : p ≤ 5000 := by have h2 := hlc.lp; simp at h2; omega
              clear hlc ho2
              obtain rfl : q = n1 := by omega
              clear hqe
              go_wp2_with fail
              obtain ⟨e0, e1, e2, inn, hge⟩ := HL2.out.facts
              have HIN := hide inn
              have hlp := HL2.out.lp
              have e1A : (w2.alloc (.cells #[.int .u8 y] 5)).cell? ⟨g, q * 2 + 1, none⟩ = some (.slice B p cb) := (HL2.out.kept ((Below.refl _ _).alloc (Nat.le_refl _) _)).facts.2.1
              have hWs := HW2.out.size
              obtain ⟨s1, s2⟩ := HS.out w2 HW2.out
              have q1 : (q : Int) < (q : Int) + 1 := by omega
              have q3 : (0 : Int) ≤ (q : Int) := by omega
              have qw : IntKind.i64.wrap (q : Int) = (q : Int) := by rw [IntKind.wrap_i64]; omega
              clear inn
              refine wp_region_held_drew (S := fun w' => w'.cell? ⟨ga, oa + i * 2 + 1, none⟩ = some (.slice (some ⟨gb, ob, none⟩) m cd) ∧ w'.cell? ⟨gb, ob + k, none⟩ = some (.int .u8 y)) (by kernel_rfl) (⟨s1, s2⟩) (fun hHeld => ?_)
              refine wpAnyH_take (i := 0) (v := ?_) rfl (by kernel_rfl) (by kernel_rfl) (by kernel_rfl) (fun _ _ _ h => h) (Or.inl ⟨by rfl, ?hy⟩) (by assumption) ?_
              case hy => intro w hSw; (try dsimp only at hSw); go_simp; (try with_reducible rfl)
              try simp only [Act.put, List.setIfInBounds_toArray, List.set_cons_zero, List.set_cons_succ]
              refine wpAnyH_take (i := 1) (v := ?_) rfl (by kernel_rfl) (by kernel_rfl) (by kernel_rfl) (fun _ _ _ h => h) (Or.inl ⟨by rfl, ?hy⟩) (by assumption) ?_
              case hy => intro w hSw; (try dsimp only at hSw); go_simp; (try with_reducible rfl)
              try simp only [Act.put, List.setIfInBounds_toArray, List.set_cons_zero, List.set_cons_succ]
              refine wpAnyH_take (i := 2) (v := ?_) rfl (by kernel_rfl) (by kernel_rfl) (by kernel_rfl) (fun _ _ _ h => h) (Or.inl ⟨by rfl, ?hy⟩) (by assumption) ?_
              case hy => intro w hSw; (try dsimp only at hSw); go_simp; (try with_reducible rfl)
              try simp only [Act.put, List.setIfInBounds_toArray, List.set_cons_zero, List.set_cons_succ]
              refine wpAnyH_take (i := 3) (v := ?_) rfl (by kernel_rfl) (by kernel_rfl) (by kernel_rfl) (fun _ _ _ h => h) (Or.inl ⟨by rfl, ?hy⟩) (by assumption) ?_
              case hy => intro w hSw; (try dsimp only at hSw); go_simp; (try with_reducible rfl)
              try simp only [Act.put, List.setIfInBounds_toArray, List.set_cons_zero, List.set_cons_succ]
              refine wpAnyH_take (i := 4) (v := ?_) rfl (by kernel_rfl) (by kernel_rfl) (by kernel_rfl) (fun _ _ _ h => h) (Or.inl ⟨by rfl, ?hy⟩) (by assumption) ?_
              case hy => intro w hSw; (try dsimp only at hSw); go_simp; (try with_reducible rfl)
              try simp only [Act.put, List.setIfInBounds_toArray, List.set_cons_zero, List.set_cons_succ]
              refine wpAnyH_take (i := 5) (v := ?_) rfl (by kernel_rfl) (by kernel_rfl) (by kernel_rfl) (fun _ _ _ h => h) (Or.inl ⟨by rfl, ?hy⟩) (by assumption) ?_
              case hy => intro w hSw; (try dsimp only at hSw); go_simp; (try with_reducible rfl)
              try simp only [Act.put, List.setIfInBounds_toArray, List.set_cons_zero, List.set_cons_succ]
              refine wpAnyH_take (i := 6) (v := ?_) rfl (by kernel_rfl) (by kernel_rfl) (by kernel_rfl) (fun _ _ _ h => h) (Or.inl ⟨by rfl, ?hy⟩) (by assumption) ?_
              case hy => intro w hSw; (try dsimp only at hSw); go_simp; (try with_reducible rfl)
              try simp only [Act.put, List.setIfInBounds_toArray, List.set_cons_zero, List.set_cons_succ]
              refine wpAnyH_take (i := 7) (v := ?_) rfl (by kernel_rfl) (by kernel_rfl) (by kernel_rfl) (fun _ _ _ h => h) (Or.inl ⟨by rfl, ?hy⟩) (by assumption) ?_
              case hy => intro w hSw; (try dsimp only at hSw); go_simp; (try with_reducible rfl)
              try simp only [Act.put, List.setIfInBounds_toArray, List.set_cons_zero, List.set_cons_succ]
              refine wpAnyH_take (i := 9) (v := ?_) rfl (by kernel_rfl) (by kernel_rfl) (by kernel_rfl) (fun _ _ _ h => h) (Or.inl ⟨by rfl, ?hy⟩) (by assumption) ?_
              case hy => intro w hSw; (try dsimp only at hSw); go_simp; (try with_reducible rfl)
              try simp only [Act.put, List.setIfInBounds_toArray, List.set_cons_zero, List.set_cons_succ]
              refine wpAnyH_take (i := 10) (v := ?_) rfl (by kernel_rfl) (by kernel_rfl) (by kernel_rfl) (fun _ _ _ h => h) (Or.inl ⟨by rfl, ?hy⟩) (by assumption) ?_
              case hy => intro w hSw; (try dsimp only at hSw); go_simp; (try with_reducible rfl)
              try simp only [Act.put, List.setIfInBounds_toArray, List.set_cons_zero, List.set_cons_succ]
              refine wpAnyH_take (i := 11) (v := ?_) rfl (by kernel_rfl) (by kernel_rfl) (by kernel_rfl) (fun _ _ _ h => h) (Or.inl ⟨by rfl, ?hy⟩) (by assumption) ?_
              case hy => intro w hSw; (try dsimp only at hSw); go_simp; (try with_reducible rfl)
              try simp only [Act.put, List.setIfInBounds_toArray, List.set_cons_zero, List.set_cons_succ]
              refine wpAnyH_take (i := 12) (v := ?_) rfl (by kernel_rfl) (by kernel_rfl) (by kernel_rfl) (fun _ _ _ h => h) (Or.inl ⟨by rfl, ?hy⟩) (by assumption) ?_
              case hy => intro w hSw; (try dsimp only at hSw); go_simp; (try with_reducible rfl)
              try simp only [Act.put, List.setIfInBounds_toArray, List.set_cons_zero, List.set_cons_succ]
              refine wpAnyH_take (i := 13) (v := ?_) rfl (by kernel_rfl) (by kernel_rfl) (by kernel_rfl) (fun _ _ _ h => h) (Or.inl ⟨by rfl, ?hy⟩) (by assumption) ?_
              case hy => intro w hSw; (try dsimp only at hSw); go_simp; (try with_reducible rfl)
              try simp only [Act.put, List.setIfInBounds_toArray, List.set_cons_zero, List.set_cons_succ]
              refine wpAnyH_take (i := 14) (v := ?_) rfl (by kernel_rfl) (by kernel_rfl) (by kernel_rfl) (fun _ _ _ h => h) (Or.inl ⟨by rfl, ?hy⟩) (by assumption) ?_
              case hy => intro w hSw; (try dsimp only at hSw); go_simp; (try with_reducible rfl)
              try simp only [Act.put, List.setIfInBounds_toArray, List.set_cons_zero, List.set_cons_succ]
              refine wpAnyH_take (i := 15) (v := ?_) rfl (by kernel_rfl) (by kernel_rfl) (by kernel_rfl) (fun _ _ _ h => h) (Or.inl ⟨by rfl, ?hy⟩) (by assumption) ?_
              case hy => intro w hSw; (try dsimp only at hSw); go_simp; (try with_reducible rfl)
              try simp only [Act.put, List.setIfInBounds_toArray, List.set_cons_zero, List.set_cons_succ]
              refine wpAnyH_take (i := 16) (v := ?_) rfl (by kernel_rfl) (by kernel_rfl) (by kernel_rfl) (fun _ _ _ h => h) (Or.inl ⟨by rfl, ?hy⟩) (by assumption) ?_
              case hy => intro w hSw; (try dsimp only at hSw); go_simp; (try with_reducible rfl)
              try simp only [Act.put, List.setIfInBounds_toArray, List.set_cons_zero, List.set_cons_succ]
              refine wpAnyH_ready (rs := [8, 17]) (by kernel_rfl) (by simp) ?_
              refine AllReadyH.cons rfl (fun K' hK => ?_) ?_
              · go_simp
                refine hK.out _ _ (HS.out _ HW2.out.drew) (fun hHeld => ?_)
                clear hK
                try simp only [Act.put, List.setIfInBounds_toArray, List.set_cons_zero, List.set_cons_succ]
                refine wpAnyH_ready (rs := [17]) (by kernel_rfl) (by simp) ?_
                refine AllReadyH.cons rfl (fun K' hK => ?_) ?_
                · go_simp
                  refine hK.out _ _ (HS.out _ (HW2.out.alloc HW2.out.size _).drew) (fun hHeld => ?_)
                  clear hK
                  try simp only [Act.put, List.setIfInBounds_toArray, List.set_cons_zero, List.set_cons_succ]
                  refine wpAnyH_ready (rs := [18]) (by kernel_rfl) (by simp) ?_
                  refine AllReadyH.cons rfl (fun K' hK => ?_) ?_
                  · refine step_bytes rfl (.tmp 60) (.tmp 69) rfl w.heap.size p cb B ([] : List Int) [y] (by rfl) (HIN.out.alloc _).drew hlp (some ⟨w2.heap.size, 0, none⟩) 1 1 (by rfl) rfl (born_at rfl).drew (by decide) (by omega) (by simp; omega) ?_
                    intro g' c' w4 ho hg hat
                    have hal : Below w2.heap.size w2 (w2.alloc (.cells #[.int .u8 y] 5)).drew := ((Below.refl _ _).alloc (Nat.le_refl _) _).drew
                    obtain ⟨x1, x2⟩ := HL2.out.outer hal hg
                    obtain ⟨hs4, ho4⟩ := HL2.out.more hal ho rfl hg hat
                    have HO4 := hide ho4
                    have HB4 : Hid (Below w.heap.size w w4) := hide ((below_nextB HW2.out HW2.out.size hal).grown hg (by simp; omega) (own_row_ge HIN.out))
                    clear ho hg hat ho4 hal
                    refine hK.out _ _ (HS.out _ HB4.out) (fun hHeld => ?_)
                    clear hK
                    try simp only [Act.put, List.setIfInBounds_toArray, List.set_cons_zero, List.set_cons_succ]
                    refine wpAnyH_take (i := 19) (v := ?_) rfl (by kernel_rfl) (by kernel_rfl) (by kernel_rfl) (fun _ _ _ h => h) (Or.inl ⟨by rfl, ?hy⟩) (by assumption) ?_
                    case hy => intro w hSw; (try dsimp only at hSw); go_simp; (try with_reducible rfl)
                    try simp only [Act.put, List.setIfInBounds_toArray, List.set_cons_zero, List.set_cons_succ]
                    refine wpAnyH_take (i := 20) (v := ?_) rfl (by kernel_rfl) (by kernel_rfl) (by kernel_rfl) (fun _ _ _ h => h) (Or.inl ⟨by rfl, ?hy⟩) (by assumption) ?_
                    case hy => intro w hSw; (try dsimp only at hSw); go_simp; (try with_reducible rfl)
                    try simp only [Act.put, List.setIfInBounds_toArray, List.set_cons_zero, List.set_cons_succ]
                    refine wpAnyH_ready (rs := [21]) (by kernel_rfl) (by simp) ?_
                    refine AllReadyH.cons rfl (fun K' hK => ?_) ?_
                    · go_simp
                      refine hK.out _ _ (HS.out _ (HB4.out.setCell hge _)) (fun hHeld => ?_)
                      clear hK
                      try simp only [Act.put, List.setIfInBounds_toArray, List.set_cons_zero, List.set_cons_succ]
                      refine wpAnyH_done (by kernel_rfl) ?_ _
                      try refine NoPanic.normal ?_
                      go_wp2_with fail
                      go_roundw
                      case rel => exact ⟨k + 1, q + 1, _, _, hs4, rfl, by go_num, by omega, hide (by rw [HX.out, h1 [y] (by simp)]; exact HO4.out), hide (HB4.out.setCell hge _)⟩
                      case measure => simp [intOf]; omega
                    · exact AllReadyH.nil
                  · exact AllReadyH.nil
                · exact AllReadyH.nil
              refine AllReadyH.cons rfl (fun K' hK => ?_) ?_
              · go_simp
                refine hK.out _ _ (HS.out _ (HW2.out.alloc HW2.out.size _).drew) (fun hHeld => ?_)
                clear hK
                try simp only [Act.put, List.setIfInBounds_toArray, List.set_cons_zero, List.set_cons_succ]
                refine wpAnyH_ready (rs := [8]) (by kernel_rfl) (by simp) ?_
                refine AllReadyH.cons rfl (fun K' hK => ?_) ?_
                · go_simp
                  refine hK.out _ _ (HS.out _ (HW2.out.alloc HW2.out.size _).drew) (fun hHeld => ?_)
                  clear hK
                  try simp only [Act.put, List.setIfInBounds_toArray, List.set_cons_zero, List.set_cons_succ]
                  refine wpAnyH_ready (rs := [18]) (by kernel_rfl) (by simp) ?_
                  refine AllReadyH.cons rfl (fun K' hK => ?_) ?_
                  · refine step_bytes rfl (.tmp 60) (.tmp 69) rfl w.heap.size p cb B ([] : List Int) [y] (by rfl) (HIN.out.alloc _).drew hlp (some ⟨w2.heap.size, 0, none⟩) 1 1 (by rfl) rfl (born_at rfl).drew (by decide) (by omega) (by simp; omega) ?_
                    intro g' c' w4 ho hg hat
                    have hal : Below w2.heap.size w2 (w2.alloc (.cells #[.int .u8 y] 5)).drew := ((Below.refl _ _).alloc (Nat.le_refl _) _).drew
                    obtain ⟨x1, x2⟩ := HL2.out.outer hal hg
                    obtain ⟨hs4, ho4⟩ := HL2.out.more hal ho rfl hg hat
                    have HO4 := hide ho4
                    have HB4 : Hid (Below w.heap.size w w4) := hide ((below_nextB HW2.out HW2.out.size hal).grown hg (by simp; omega) (own_row_ge HIN.out))
                    clear ho hg hat ho4 hal
                    refine hK.out _ _ (HS.out _ HB4.out) (fun hHeld => ?_)
                    clear hK
                    try simp only [Act.put, List.setIfInBounds_toArray, List.set_cons_zero, List.set_cons_succ]
                    refine wpAnyH_take (i := 19) (v := ?_) rfl (by kernel_rfl) (by kernel_rfl) (by kernel_rfl) (fun _ _ _ h => h) (Or.inl ⟨by rfl, ?hy⟩) (by assumption) ?_
                    case hy => intro w hSw; (try dsimp only at hSw); go_simp; (try with_reducible rfl)
                    try simp only [Act.put, List.setIfInBounds_toArray, List.set_cons_zero, List.set_cons_succ]
                    refine wpAnyH_take (i := 20) (v := ?_) rfl (by kernel_rfl) (by kernel_rfl) (by kernel_rfl) (fun _ _ _ h => h) (Or.inl ⟨by rfl, ?hy⟩) (by assumption) ?_
                    case hy => intro w hSw; (try dsimp only at hSw); go_simp; (try with_reducible rfl)
                    try simp only [Act.put, List.setIfInBounds_toArray, List.set_cons_zero, List.set_cons_succ]
                    refine wpAnyH_ready (rs := [21]) (by kernel_rfl) (by simp) ?_
                    refine AllReadyH.cons rfl (fun K' hK => ?_) ?_
                    · go_simp
                      refine hK.out _ _ (HS.out _ (HB4.out.setCell hge _)) (fun hHeld => ?_)
                      clear hK
                      try simp only [Act.put, List.setIfInBounds_toArray, List.set_cons_zero, List.set_cons_succ]
                      refine wpAnyH_done (by kernel_rfl) ?_ _
                      try refine NoPanic.normal ?_
                      go_wp2_with fail
                      go_roundw
                      case rel => exact ⟨k + 1, q + 1, _, _, hs4, rfl, by go_num, by omega, hide (by rw [HX.out, h1 [y] (by simp)]; exact HO4.out), hide (HB4.out.setCell hge _)⟩
                      case measure => simp [intOf]; omega
                    · exact AllReadyH.nil
                  · exact AllReadyH.nil
                · exact AllReadyH.nil
              · exact AllReadyH.nil
            · rw [List.concat_eq_append] at e
              subst e
              have hne : (f1 != f) = true := by
                have := h2 (f1, cc) (by rw [List.getLast?_append]; rfl)
                simpa using this
              obtain ⟨g0, q0, hs0, B0, p0, cb0, rfl, hn1, hlc0⟩ := HO.out.toLast
              obtain ⟨e0, _⟩ := hlc0.facts
              have hn5 : n1 ≤ 5001 := by have h1 := HB.out.2; have h2 := hlc0.lq; simp at h1; omega
              have z1 : ((n1 : Int) == 0) = false := by simp; omega
              have q1 : (q0 : Int) < (n1 : Int) := by omega
              have q3 : (0 : Int) ≤ (q0 : Int) := by omega
              have hsub : IntKind.i64.wrap ((n1 : Int) - 1) = (q0 : Int) := by rw [IntKind.wrap_i64]; omega
              clear hlc0 h2 hn1
              go_wp2_with fail
              go_quiet (fail)
              have HW1 := hide (below_drewN HW.out nq)
              have HO1 := hide (HO.out.kept (below_drewN (Below.refl _ _) nq))
              obtain ⟨W, hW⟩ : ∃ W, wr.drewN nq = W := ⟨_, rfl⟩
              rw [hW] at HW1 HO1
              rw [hW]
              clear HO
              obtain ⟨a0, a1⟩ := HA.out W HW1.out
              clear hW HW
              go_wp2_with (at_builtin; go_loud (refine wpList_chunk rfl (.tmp 41) (.tmp 48) rfl w.heap.size n1 c1 _ _ f (.slice none 0 0) rfl (HO1.out.own.alloc _) W.heap.size rfl (Blk.born W 33 _) rfl (by omega) (by have := HW1.out.size; simp; omega) ?_))
              intro A2 c2 w2 ho hg
              obtain ⟨hs2, ho2⟩ := HO1.out.bare ((Below.refl _ _).alloc (Nat.le_refl _) _) ho hg
              have HW2 : Hid (Below w.heap.size w w2) := hide ((HW1.out.alloc HW1.out.size _).grown hg (by have := HW1.out.size; simp; omega) (own_row_ge HO1.out.own))
              have hqq := HO1.out.num
              clear ho hg HO1 HW1 a0 a1
              obtain ⟨g, q, hs0, B, p, cb, rfl, hqe, hlc⟩ := ho2.toLast
              have HL2 := hide hlc
              have hq : q ≤ 5001 := by have h1 := HB.out.2; have h2 := hlc.lq; omega
              have hp : p ≤ 5000 := by have h2 := hlc.lp; simp at h2; omega
              clear hlc ho2
              obtain rfl : q = n1 := by omega
              clear hqe
              go_wp2_with fail
              obtain ⟨e0, e1, e2, inn, hge⟩ := HL2.out.facts
              have HIN := hide inn
              have hlp := HL2.out.lp
              have e1A : (w2.alloc (.cells #[.int .u8 y] 5)).cell? ⟨g, q * 2 + 1, none⟩ = some (.slice B p cb) := (HL2.out.kept ((Below.refl _ _).alloc (Nat.le_refl _) _)).facts.2.1
              have hWs := HW2.out.size
              obtain ⟨s1, s2⟩ := HS.out w2 HW2.out
              have q1 : (q : Int) < (q : Int) + 1 := by omega
              have q3 : (0 : Int) ≤ (q : Int) := by omega
              have qw : IntKind.i64.wrap (q : Int) = (q : Int) := by rw [IntKind.wrap_i64]; omega
              clear inn
              refine wp_region_held_drew (S := fun w' => w'.cell? ⟨ga, oa + i * 2 + 1, none⟩ = some (.slice (some ⟨gb, ob, none⟩) m cd) ∧ w'.cell? ⟨gb, ob + k, none⟩ = some (.int .u8 y)) (by kernel_rfl) (⟨s1, s2⟩) (fun hHeld => ?_)
              refine wpAnyH_take (i := 0) (v := ?_) rfl (by kernel_rfl) (by kernel_rfl) (by kernel_rfl) (fun _ _ _ h => h) (Or.inl ⟨by rfl, ?hy⟩) (by assumption) ?_
              case hy => intro w hSw; (try dsimp only at hSw); go_simp; (try with_reducible rfl)
              try simp only [Act.put, List.setIfInBounds_toArray, List.set_cons_zero, List.set_cons_succ]
              refine wpAnyH_take (i := 1) (v := ?_) rfl (by kernel_rfl) (by kernel_rfl) (by kernel_rfl) (fun _ _ _ h => h) (Or.inl ⟨by rfl, ?hy⟩) (by assumption) ?_
              case hy => intro w hSw; (try dsimp only at hSw); go_simp; (try with_reducible rfl)
              try simp only [Act.put, List.setIfInBounds_toArray, List.set_cons_zero, List.set_cons_succ]
              refine wpAnyH_take (i := 2) (v := ?_) rfl (by kernel_rfl) (by kernel_rfl) (by kernel_rfl) (fun _ _ _ h => h) (Or.inl ⟨by rfl, ?hy⟩) (by assumption) ?_
              case hy => intro w hSw; (try dsimp only at hSw); go_simp; (try with_reducible rfl)
              try simp only [Act.put, List.setIfInBounds_toArray, List.set_cons_zero, List.set_cons_succ]
              refine wpAnyH_take (i := 3) (v := ?_) rfl (by kernel_rfl) (by kernel_rfl) (by kernel_rfl) (fun _ _ _ h => h) (Or.inl ⟨by rfl, ?hy⟩) (by assumption) ?_
              case hy => intro w hSw; (try dsimp only at hSw); go_simp; (try with_reducible rfl)
              try simp only [Act.put, List.setIfInBounds_toArray, List.set_cons_zero, List.set_cons_succ]
              refine wpAnyH_take (i := 4) (v := ?_) rfl (by kernel_rfl) (by kernel_rfl) (by kernel_rfl) (fun _ _ _ h => h) (Or.inl ⟨by rfl, ?hy⟩) (by assumption) ?_
              case hy => intro w hSw; (try dsimp only at hSw); go_simp; (try with_reducible rfl)
              try simp only [Act.put, List.setIfInBounds_toArray, List.set_cons_zero, List.set_cons_succ]
              refine wpAnyH_take (i := 5) (v := ?_) rfl (by kernel_rfl) (by kernel_rfl) (by kernel_rfl) (fun _ _ _ h => h) (Or.inl ⟨by rfl, ?hy⟩) (by assumption) ?_
              case hy => intro w hSw; (try dsimp only at hSw); go_simp; (try with_reducible rfl)
              try simp only [Act.put, List.setIfInBounds_toArray, List.set_cons_zero, List.set_cons_succ]
              refine wpAnyH_take (i := 6) (v := ?_) rfl (by kernel_rfl) (by kernel_rfl) (by kernel_rfl) (fun _ _ _ h => h) (Or.inl ⟨by rfl, ?hy⟩) (by assumption) ?_
              case hy => intro w hSw; (try dsimp only at hSw); go_simp; (try with_reducible rfl)
              try simp only [Act.put, List.setIfInBounds_toArray, List.set_cons_zero, List.set_cons_succ]
              refine wpAnyH_take (i := 7) (v := ?_) rfl (by kernel_rfl) (by kernel_rfl) (by kernel_rfl) (fun _ _ _ h => h) (Or.inl ⟨by rfl, ?hy⟩) (by assumption) ?_
              case hy => intro w hSw; (try dsimp only at hSw); go_simp; (try with_reducible rfl)
              try simp only [Act.put, List.setIfInBounds_toArray, List.set_cons_zero, List.set_cons_succ]
              refine wpAnyH_take (i := 9) (v := ?_) rfl (by kernel_rfl) (by kernel_rfl) (by kernel_rfl) (fun _ _ _ h => h) (Or.inl ⟨by rfl, ?hy⟩) (by assumption) ?_
              case hy => intro w hSw; (try dsimp only at hSw); go_simp; (try with_reducible rfl)
              try simp only [Act.put, List.setIfInBounds_toArray, List.set_cons_zero, List.set_cons_succ]
              refine wpAnyH_take (i := 10) (v := ?_) rfl (by kernel_rfl) (by kernel_rfl) (by kernel_rfl) (fun _ _ _ h => h) (Or.inl ⟨by rfl, ?hy⟩) (by assumption) ?_
              case hy => intro w hSw; (try dsimp only at hSw); go_simp; (try with_reducible rfl)
              try simp only [Act.put, List.setIfInBounds_toArray, List.set_cons_zero, List.set_cons_succ]
              refine wpAnyH_take (i := 11) (v := ?_) rfl (by kernel_rfl) (by kernel_rfl) (by kernel_rfl) (fun _ _ _ h => h) (Or.inl ⟨by rfl, ?hy⟩) (by assumption) ?_
              case hy => intro w hSw; (try dsimp only at hSw); go_simp; (try with_reducible rfl)
              try simp only [Act.put, List.setIfInBounds_toArray, List.set_cons_zero, List.set_cons_succ]
              refine wpAnyH_take (i := 12) (v := ?_) rfl (by kernel_rfl) (by kernel_rfl) (by kernel_rfl) (fun _ _ _ h => h) (Or.inl ⟨by rfl, ?hy⟩) (by assumption) ?_
              case hy => intro w hSw; (try dsimp only at hSw); go_simp; (try with_reducible rfl)
              try simp only [Act.put, List.setIfInBounds_toArray, List.set_cons_zero, List.set_cons_succ]
              refine wpAnyH_take (i := 13) (v := ?_) rfl (by kernel_rfl) (by kernel_rfl) (by kernel_rfl) (fun _ _ _ h => h) (Or.inl ⟨by rfl, ?hy⟩) (by assumption) ?_
              case hy => intro w hSw; (try dsimp only at hSw); go_simp; (try with_reducible rfl)
              try simp only [Act.put, List.setIfInBounds_toArray, List.set_cons_zero, List.set_cons_succ]
              refine wpAnyH_take (i := 14) (v := ?_) rfl (by kernel_rfl) (by kernel_rfl) (by kernel_rfl) (fun _ _ _ h => h) (Or.inl ⟨by rfl, ?hy⟩) (by assumption) ?_
              case hy => intro w hSw; (try dsimp only at hSw); go_simp; (try with_reducible rfl)
              try simp only [Act.put, List.setIfInBounds_toArray, List.set_cons_zero, List.set_cons_succ]
              refine wpAnyH_take (i := 15) (v := ?_) rfl (by kernel_rfl) (by kernel_rfl) (by kernel_rfl) (fun _ _ _ h => h) (Or.inl ⟨by rfl, ?hy⟩) (by assumption) ?_
              case hy => intro w hSw; (try dsimp only at hSw); go_simp; (try with_reducible rfl)
              try simp only [Act.put, List.setIfInBounds_toArray, List.set_cons_zero, List.set_cons_succ]
              refine wpAnyH_take (i := 16) (v := ?_) rfl (by kernel_rfl) (by kernel_rfl) (by kernel_rfl) (fun _ _ _ h => h) (Or.inl ⟨by rfl, ?hy⟩) (by assumption) ?_
              case hy => intro w hSw; (try dsimp only at hSw); go_simp; (try with_reducible rfl)
              try simp only [Act.put, List.setIfInBounds_toArray, List.set_cons_zero, List.set_cons_succ]
              refine wpAnyH_ready (rs := [8, 17]) (by kernel_rfl) (by simp) ?_
              refine AllReadyH.cons rfl (fun K' hK => ?_) ?_
              · go_simp
                refine hK.out _ _ (HS.out _ HW2.out.drew) (fun hHeld => ?_)
                clear hK
                try simp only [Act.put, List.setIfInBounds_toArray, List.set_cons_zero, List.set_cons_succ]
                refine wpAnyH_ready (rs := [17]) (by kernel_rfl) (by simp) ?_
                refine AllReadyH.cons rfl (fun K' hK => ?_) ?_
                · go_simp
                  refine hK.out _ _ (HS.out _ (HW2.out.alloc HW2.out.size _).drew) (fun hHeld => ?_)
                  clear hK
                  try simp only [Act.put, List.setIfInBounds_toArray, List.set_cons_zero, List.set_cons_succ]
                  refine wpAnyH_ready (rs := [18]) (by kernel_rfl) (by simp) ?_
                  refine AllReadyH.cons rfl (fun K' hK => ?_) ?_
                  · refine step_bytes rfl (.tmp 60) (.tmp 69) rfl w.heap.size p cb B ([] : List Int) [y] (by rfl) (HIN.out.alloc _).drew hlp (some ⟨w2.heap.size, 0, none⟩) 1 1 (by rfl) rfl (born_at rfl).drew (by decide) (by omega) (by simp; omega) ?_
                    intro g' c' w4 ho hg hat
                    have hal : Below w2.heap.size w2 (w2.alloc (.cells #[.int .u8 y] 5)).drew := ((Below.refl _ _).alloc (Nat.le_refl _) _).drew
                    obtain ⟨x1, x2⟩ := HL2.out.outer hal hg
                    obtain ⟨hs4, ho4⟩ := HL2.out.more hal ho rfl hg hat
                    have HO4 := hide ho4
                    have HB4 : Hid (Below w.heap.size w w4) := hide ((below_nextB HW2.out HW2.out.size hal).grown hg (by simp; omega) (own_row_ge HIN.out))
                    clear ho hg hat ho4 hal
                    refine hK.out _ _ (HS.out _ HB4.out) (fun hHeld => ?_)
                    clear hK
                    try simp only [Act.put, List.setIfInBounds_toArray, List.set_cons_zero, List.set_cons_succ]
                    refine wpAnyH_take (i := 19) (v := ?_) rfl (by kernel_rfl) (by kernel_rfl) (by kernel_rfl) (fun _ _ _ h => h) (Or.inl ⟨by rfl, ?hy⟩) (by assumption) ?_
                    case hy => intro w hSw; (try dsimp only at hSw); go_simp; (try with_reducible rfl)
                    try simp only [Act.put, List.setIfInBounds_toArray, List.set_cons_zero, List.set_cons_succ]
                    refine wpAnyH_take (i := 20) (v := ?_) rfl (by kernel_rfl) (by kernel_rfl) (by kernel_rfl) (fun _ _ _ h => h) (Or.inl ⟨by rfl, ?hy⟩) (by assumption) ?_
                    case hy => intro w hSw; (try dsimp only at hSw); go_simp; (try with_reducible rfl)
                    try simp only [Act.put, List.setIfInBounds_toArray, List.set_cons_zero, List.set_cons_succ]
                    refine wpAnyH_ready (rs := [21]) (by kernel_rfl) (by simp) ?_
                    refine AllReadyH.cons rfl (fun K' hK => ?_) ?_
                    · go_simp
                      refine hK.out _ _ (HS.out _ (HB4.out.setCell hge _)) (fun hHeld => ?_)
                      clear hK
                      try simp only [Act.put, List.setIfInBounds_toArray, List.set_cons_zero, List.set_cons_succ]
                      refine wpAnyH_done (by kernel_rfl) ?_ _
                      try refine NoPanic.normal ?_
                      go_wp2_with fail
                      go_roundw
                      case rel => exact ⟨k + 1, q + 1, _, _, hs4, rfl, by go_num, by omega, hide (by rw [HX.out, h1 [y] (by simp)]; exact HO4.out), hide (HB4.out.setCell hge _)⟩
                      case measure => simp [intOf]; omega
                    · exact AllReadyH.nil
                  · exact AllReadyH.nil
                · exact AllReadyH.nil
              refine AllReadyH.cons rfl (fun K' hK => ?_) ?_
              · go_simp
                refine hK.out _ _ (HS.out _ (HW2.out.alloc HW2.out.size _).drew) (fun hHeld => ?_)
                clear hK
                try simp only [Act.put, List.setIfInBounds_toArray, List.set_cons_zero, List.set_cons_succ]
                refine wpAnyH_ready (rs := [8]) (by kernel_rfl) (by simp) ?_
                refine AllReadyH.cons rfl (fun K' hK => ?_) ?_
                · go_simp
                  refine hK.out _ _ (HS.out _ (HW2.out.alloc HW2.out.size _).drew) (fun hHeld => ?_)
                  clear hK
                  try simp only [Act.put, List.setIfInBounds_toArray, List.set_cons_zero, List.set_cons_succ]
                  refine wpAnyH_ready (rs := [18]) (by kernel_rfl) (by simp) ?_
                  refine AllReadyH.cons rfl (fun K' hK => ?_) ?_
                  · refine step_bytes rfl (.tmp 60) (.tmp 69) rfl w.heap.size p cb B ([] : List Int) [y] (by rfl) (HIN.out.alloc _).drew hlp (some ⟨w2.heap.size, 0, none⟩) 1 1 (by rfl) rfl (born_at rfl).drew (by decide) (by omega) (by simp; omega) ?_
                    intro g' c' w4 ho hg hat
                    have hal : Below w2.heap.size w2 (w2.alloc (.cells #[.int .u8 y] 5)).drew := ((Below.refl _ _).alloc (Nat.le_refl _) _).drew
                    obtain ⟨x1, x2⟩ := HL2.out.outer hal hg
                    obtain ⟨hs4, ho4⟩ := HL2.out.more hal ho rfl hg hat
                    have HO4 := hide ho4
                    have HB4 : Hid (Below w.heap.size w w4) := hide ((below_nextB HW2.out HW2.out.size hal).grown hg (by simp; omega) (own_row_ge HIN.out))
                    clear ho hg hat ho4 hal
                    refine hK.out _ _ (HS.out _ HB4.out) (fun hHeld => ?_)
                    clear hK
                    try simp only [Act.put, List.setIfInBounds_toArray, List.set_cons_zero, List.set_cons_succ]
                    refine wpAnyH_take (i := 19) (v := ?_) rfl (by kernel_rfl) (by kernel_rfl) (by kernel_rfl) (fun _ _ _ h => h) (Or.inl ⟨by rfl, ?hy⟩) (by assumption) ?_
                    case hy => intro w hSw; (try dsimp only at hSw); go_simp; (try with_reducible rfl)
                    try simp only [Act.put, List.setIfInBounds_toArray, List.set_cons_zero, List.set_cons_succ]
                    refine wpAnyH_take (i := 20) (v := ?_) rfl (by kernel_rfl) (by kernel_rfl) (by kernel_rfl) (fun _ _ _ h => h) (Or.inl ⟨by rfl, ?hy⟩) (by assumption) ?_
                    case hy => intro w hSw; (try dsimp only at hSw); go_simp; (try with_reducible rfl)
                    try simp only [Act.put, List.setIfInBounds_toArray, List.set_cons_zero, List.set_cons_succ]
                    refine wpAnyH_ready (rs := [21]) (by kernel_rfl) (by simp) ?_
                    refine AllReadyH.cons rfl (fun K' hK => ?_) ?_
                    · go_simp
                      refine hK.out _ _ (HS.out _ (HB4.out.setCell hge _)) (fun hHeld => ?_)
                      clear hK
                      try simp only [Act.put, List.setIfInBounds_toArray, List.set_cons_zero, List.set_cons_succ]
                      refine wpAnyH_done (by kernel_rfl) ?_ _
                      try refine NoPanic.normal ?_
                      go_wp2_with fail
                      go_roundw
                      case rel => exact ⟨k + 1, q + 1, _, _, hs4, rfl, by go_num, by omega, hide (by rw [HX.out, h1 [y] (by simp)]; exact HO4.out), hide (HB4.out.setCell hge _)⟩
                      case measure => simp [intOf]; omega
                    · exact AllReadyH.nil
                  · exact AllReadyH.nil
                · exact AllReadyH.nil
              · exact AllReadyH.nil
        · obtain rfl : k = m := by omega
          have HE : Hid (b.take k = b) := hide (List.take_of_length_le (by have := HM.out; omega))
          go_wp2_with fail
          go_roundw
          case rel => exact ⟨i + 1, n1, c1, A1, hs, rfl, by go_num, by omega, hide (by rw [HJ.out]; have := HO.out; rw [HE.out] at this; exact this), HW⟩
          case measure => simp [intOf]; omega
    · have HE : Hid (l.take i = l) := hide (List.take_of_length_le (by have := HLN.out; omega))
      go_wp2_with fail
      go_ret
      refine ⟨_, _, _, hs, rfl, ?_, HW.out⟩
      have := HO.out
      rwa [HE.out] at this
    end Go.Proofs.Ytciddilphflhaaa
