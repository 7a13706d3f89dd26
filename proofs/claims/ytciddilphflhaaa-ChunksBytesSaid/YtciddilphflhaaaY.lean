/- Contracts: Bytes, Total, Right, and the reference's. -/
import Derived.Test.YtciddilphflhaaaX
import Derived.Laws.AppendOwnNone
namespace Go.Proofs.Ytciddilphflhaaa
open Go.RowKit

theorem grown_refl (w : World) (row : Option Nat) : w.grownBy w row := ⟨rfl, rfl, rfl, Nat.le_refl _, fun _ _ _ => rfl⟩
theorem wpList_pour {P : Program} {w : World} {ops : Array Oper} {rest : List Oper} {o : Oper} {a : Act} {Q : Exit → Act → World → Prop} (hgd : o.guard = none) (s x : Operand) (t : TypeId)
    (ho : o.op = .call { callee := .builtin .append, args := #[s, x], argTypes := #[t, t] })
    (base : Nat) (e : TypeId) {z : Value} {bytes : Nat} (hi : (P.info? e).map (fun i => (i.zero, i.size, i.bytes)) = some (some z, 1, bytes)) (hzs : z.cells.size = 1) (ht : P.underlying t = some (.slice e))
    (v : Value) (n : Nat) (xs : List Value) (hs : a.eval s = v) (hown : w.ownsRow base e 1 v n xs)
    (A : Option Addr) (m c : Nat) (news : List Value) (hx : a.eval x = .slice A m c) (hl : news.length = m) (hA : A = none → m = 0 ∧ c = 0) (hsee : Sees w A news) (h1 : ∀ u ∈ news, u.oneCell' = true)
    (h63 : n + m ≤ maxLen) (hbytes : (n + m) * bytes ≤ 140737488355328) (hbase : base ≤ w.heap.size)
    (h : ∀ B c' w', w'.ownsRow base e 1 (.slice B (n + m) c') (n + m) (xs ++ news) → w.grownBy w' v.ownBlock → wpList P ops Q rest (a.put o.dst (.slice B (n + m) c')) w') : wpList P ops Q (o :: rest) a w := by
  obtain ⟨i0, hi0, hz0, hz1, hz2⟩ := info_parts hi
  cases hAe : A with
  | none =>
    obtain ⟨h2, h3⟩ := hA hAe
    subst h2 h3 hAe
    have hnil := List.eq_nil_of_length_eq_zero hl
    subst hnil
    refine wpList_append_own_none hgd s x t ho base e i0 1 ht hi0 v n xs hs hown hx ?_
    obtain ⟨B, c', hv⟩ := own_form hown
    have h4 := h B c' w (by rw [List.append_nil, Nat.add_zero, ← hv]; exact hown) (grown_refl _ _)
    rw [Nat.add_zero, ← hv] at h4
    exact h4
  | some ad =>
    subst hAe
    refine wpList_append_own _ hgd s x t ho base e i0 z 1 bytes ht hi0 hz0 hz1 hz2 hzs (by decide) v n xs hs hown ad m c news hx (by rw [hl]; omega) (fun j u hu => ?_) h1 h63 hbytes hbase ?_
    · obtain ⟨b, o, e1, e2⟩ := hsee j u hu
      injection e1 with e1
      subst e1
      rwa [Addr.add_lit]
    · intro v' w' hown' hg _
      obtain ⟨B, c', hv⟩ := own_form hown'
      subst hv
      exact h B c' w' hown' hg
/-- A side's bytes. -/
def byt (l : CL) (s : Int) : List Int := l.flatMap fun d => if d.1 = s then d.2 else []
theorem byt_take {l : CL} {k : Nat} {f s : Int} {b : List Int} (h : l[k]? = some (f, b)) : byt (l.take (k + 1)) s = byt (l.take k) s ++ if f = s then b else [] := by
  obtain ⟨hk, e⟩ := List.getElem?_eq_some_iff.1 h
  unfold byt
  rw [List.take_succ_eq_append_getElem hk, e, List.flatMap_append]
  simp
theorem byt_len (l : CL) (s : Int) : (byt l s).length ≤ tot l := by
  induction l using snoc_ind with
  | h0 => exact Nat.le_refl _
  | h1 l d ih =>
    unfold byt at ih ⊢
    rw [List.flatMap_append, tot_snoc, List.length_append]
    have : ([d].flatMap fun d => if d.1 = s then d.2 else []).length ≤ d.2.length := by
      simp
      split <;> simp
    omega
/-- What a function says that gives bytes of its own. -/
def BPost (bs : List Int) (w : World) (e : Ending) (w' : World) : Prop :=
  ∃ A n c, e = .returned (.slice A n c) ∧ bs.length = n ∧ w'.ownsRow w.heap.size 5 1 (.slice A n c) n (bs.map (Value.int .u8)) ∧ Below w.heap.size w w'
def rightL (l : CL) : Bool := l.all fun d => d.1 == 0 || d.1 == 1
theorem right_take {l : CL} {k : Nat} {f : Int} {b : List Int} (h : l[k]? = some (f, b)) : rightL (l.take (k + 1)) = (rightL (l.take k) && (f == 0 || f == 1)) := by
  obtain ⟨hk, e⟩ := List.getElem?_eq_some_iff.1 h
  unfold rightL
  rw [List.take_succ_eq_append_getElem hk, e, List.all_append]
  simp
theorem right_no {l : CL} {k : Nat} {f : Int} {b : List Int} (h : l[k]? = some (f, b)) (hf : (f == 0 || f == 1) = false) : rightL l = false := by
  unfold rightL
  rw [List.all_eq_false]
  exact ⟨(f, b), List.mem_of_getElem? h, by simpa using hf⟩

set_option maxRecDepth 10000 in
theorem rbytes_any (A : Option Addr) (n c : Nat) (s : Int) (l : CL) (w : World) (hl : l.length = n) (hn : n ≤ 5000) (ht : tot l ≤ 5000) (hs : Chunks w A l) : Calls Try.prog 17 #[.slice A n c, .int .i64 s] w (BPost (byt l s) w) := by
  have HLN := hide hl
  have HC := hide hs
  have HT := hide ht
  clear hl hs ht
  go_enter Try.func17, Try.ntmps17
  go_wp2_with fail
  go_loopw [5, 6] (fun ov iv wr => ∃ (i m c1 : Nat) (B : Option Addr), ov = .slice B m c1 ∧ iv = .int .i64 (i : Nat) ∧ i ≤ n ∧ Hid ((byt (l.take i) s).length = m) ∧ Hid (wr.ownsRow w.heap.size 5 1 (.slice B m c1) m ((byt (l.take i) s).map (Value.int .u8))) ∧ Hid (Below w.heap.size w wr)) (fun _ iv _ => n - (intOf iv).toNat)
  case atStart => exact ⟨0, 0, 0, none, rfl, rfl, Nat.zero_le _, hide rfl, hide (World.ownsRow_nil _ _ _ _), hide (Below.refl _ _)⟩
  case round =>
    obtain ⟨i, m, c1, B, rfl, rfl, hi, HM, HO, HW⟩ := hrel
    by_cases hlt : i < n
    · have hil : i < l.length := by have := HLN.out; omega
      obtain ⟨f, b, hd⟩ : ∃ f b, l[i] = (f, b) := ⟨_, _, rfl⟩
      have hg : l[i]? = some (f, b) := by rw [List.getElem?_eq_getElem hil, hd]
      obtain ⟨ga, oa, D, cd, rfl, s0, s1, hDn, hcd, hsb⟩ := (HC.out.kept HW.out) i f b hg
      obtain ⟨k, hk⟩ : ∃ k, b.length = k := ⟨_, rfl⟩
      rw [hk] at s1 hDn
      have HK := hide hk
      have HDN := hide hDn
      have HSB := hide hsb
      have HJ := hide (byt_take (s := s) hg)
      have hkm : m + k ≤ 5000 := by
        have h1 := byt_len (l.take i) s
        have h2 := tot_take hg
        have h3 := tot_le l (i + 1)
        have h4 := HT.out
        have h5 := HM.out
        simp at h2
        omega
      have hbase := HW.out.size
      have i1 : (i : Int) < (n : Int) := by omega
      have i3 : (0 : Int) ≤ (i : Int) := by omega
      clear hd hg hil hDn hcd hsb hk
      by_cases hf : f = s
      · have hfb : (f == s) = true := by simpa using hf
        have HF := hide hf
        clear hf
        go_wp2_with (at_builtin; go_loud (refine wpList_pour rfl (.tmp 20) (.tmp 25) 31 rfl w.heap.size 5 info5 rfl Try.underlying31 _ m _ rfl HO.out D k cd (b.map (Value.int .u8)) rfl (by rw [List.length_map]; exact HK.out) HDN.out HSB.out oneB (by unfold maxLen; omega) (by omega) hbase ?_))
        intro B2 c2 w2 ho hg
        rw [← List.map_append] at ho
        have HO2 := hide ho
        have HB2 := hide (HW.out.grown hg hbase (own_row_ge HO.out))
        clear ho hg
        go_wp2_with fail
        go_roundw
        case rel => exact ⟨i + 1, m + k, c2, B2, rfl, by go_num, by omega, hide (by rw [HJ.out, if_pos HF.out, List.length_append, HM.out, HK.out]), hide (by rw [HJ.out, if_pos HF.out]; exact HO2.out), HB2⟩
        case measure => simp [intOf]; omega
      · have hfb : (f == s) = false := by simpa using hf
        have HF := hide hf
        clear hf
        go_wp2_with fail
        go_roundw
        case rel => exact ⟨i + 1, m, c1, B, rfl, by go_num, by omega, hide (by rw [HJ.out, if_neg HF.out, List.append_nil]; exact HM.out), hide (by rw [HJ.out, if_neg HF.out, List.append_nil]; exact HO.out), HW⟩
        case measure => simp [intOf]; omega
    · have HE : Hid (l.take i = l) := hide (List.take_of_length_le (by have := HLN.out; omega))
      go_wp2_with fail
      go_ret
      refine ⟨_, _, _, rfl, ?_, ?_, HW.out⟩
      · have := HM.out; rwa [HE.out] at this
      · have := HO.out; rwa [HE.out] at this
set_option maxRecDepth 10000 in
theorem bytes16_any (A : Option Addr) (n c : Nat) (s : Int) (l : CL) (w : World) (hl : l.length = n) (hn : n ≤ 5000) (ht : tot l ≤ 5000) (hs : Chunks w A l) : Calls Try.prog 16 #[.slice A n c, .int .i64 s] w (BPost (byt l s) w) := by
  have HLN := hide hl
  have HC := hide hs
  have HT := hide ht
  clear hl hs ht
  go_enter Try.func16, Try.ntmps16
  go_wp2_with fail
  go_loopw [5, 10] (fun ov iv wr => ∃ (i m c1 : Nat) (B : Option Addr), ov = .slice B m c1 ∧ iv = .int .i64 (i : Nat) ∧ i ≤ n ∧ Hid ((byt (l.take i) s).length = m) ∧ Hid (wr.ownsRow w.heap.size 5 1 (.slice B m c1) m ((byt (l.take i) s).map (Value.int .u8))) ∧ Hid (Below w.heap.size w wr)) (fun _ iv _ => n - (intOf iv).toNat)
  case atStart => exact ⟨0, 0, 0, none, rfl, rfl, Nat.zero_le _, hide rfl, hide (World.ownsRow_nil _ _ _ _), hide (Below.refl _ _)⟩
  case round =>
    obtain ⟨i, m, c1, B, rfl, rfl, hi, HM, HO, HW⟩ := hrel
    by_cases hlt : i < n
    · have hil : i < l.length := by have := HLN.out; omega
      obtain ⟨f, b, hd⟩ : ∃ f b, l[i] = (f, b) := ⟨_, _, rfl⟩
      have hg : l[i]? = some (f, b) := by rw [List.getElem?_eq_getElem hil, hd]
      obtain ⟨ga, oa, D, cd, rfl, s0, s1, hDn, hcd, hsb⟩ := (HC.out.kept HW.out) i f b hg
      obtain ⟨k, hk⟩ : ∃ k, b.length = k := ⟨_, rfl⟩
      rw [hk] at s1 hDn
      have HK := hide hk
      have HDN := hide hDn
      have HSB := hide hsb
      have HJ := hide (byt_take (s := s) hg)
      have hkm : m + k ≤ 5000 := by
        have h1 := byt_len (l.take i) s
        have h2 := tot_take hg
        have h3 := tot_le l (i + 1)
        have h4 := HT.out
        have h5 := HM.out
        simp at h2
        omega
      have hbase := HW.out.size
      obtain ⟨W1, hW1⟩ : ∃ W1, wr.alloc (.cells #[.int .i64 f, .slice D k cd] 33) = W1 := ⟨_, rfl⟩
      obtain ⟨wb, hwb⟩ : ∃ wb, wr.heap.size = wb := ⟨_, rfl⟩
      have hb1 : Below wr.heap.size wr W1 := by rw [← hW1]; exact (Below.refl _ _).alloc (Nat.le_refl _) _
      have HX1 : Hid (Blk W1 wb 33 #[.int .i64 f, .slice D k cd]) := hide (by rw [← hW1, ← hwb]; exact Blk.born wr 33 _)
      have d0 : W1.cell? ⟨wb, 0, none⟩ = some (.int .i64 f) := HX1.out.cell 0
      have d1 : W1.cell? ⟨wb, 1, none⟩ = some (.slice D k cd) := HX1.out.cell 1
      have HO1 := hide (own_kept HO.out hb1)
      have HW1 := hide (below_nextB HW.out HW.out.size hb1)
      have HSB1 := hide (hsb.kept hb1)
      have hbase1 := HW1.out.size
      clear hb1
      have i1 : (i : Int) < (n : Int) := by omega
      have i3 : (0 : Int) ≤ (i : Int) := by omega
      clear hd hg hil hDn hcd hsb hk
      by_cases hf : f = s
      · have hfb : (f == s) = true := by simpa using hf
        have HF := hide hf
        clear hf
        go_wp2_with (at_builtin; go_loud (refine wpList_pour rfl (.tmp 18) (.tmp 20) 31 rfl w.heap.size 5 info5 rfl Try.underlying31 _ m _ rfl HO1.out D k cd (b.map (Value.int .u8)) rfl (by rw [List.length_map]; exact HK.out) HDN.out HSB1.out oneB (by unfold maxLen; omega) (by omega) hbase1 ?_))
        intro B2 c2 w2 ho hg
        rw [← List.map_append] at ho
        have HO2 := hide ho
        have HB2 := hide (HW1.out.grown hg hbase1 (own_row_ge HO1.out))
        clear ho hg
        go_wp2_with fail
        go_roundw
        case rel => exact ⟨i + 1, m + k, c2, B2, rfl, by go_num, by omega, hide (by rw [HJ.out, if_pos HF.out, List.length_append, HM.out, HK.out]), hide (by rw [HJ.out, if_pos HF.out]; exact HO2.out), HB2⟩
        case measure => simp [intOf]; omega
      · have hfb : (f == s) = false := by simpa using hf
        have HF := hide hf
        clear hf
        go_wp2_with fail
        go_roundw
        case rel => exact ⟨i + 1, m, c1, B, rfl, by go_num, by omega, hide (by rw [HJ.out, if_neg HF.out, List.append_nil]; exact HM.out), hide (by rw [HJ.out, if_neg HF.out, List.append_nil]; exact HO1.out), HW1⟩
        case measure => simp [intOf]; omega
    · have HE : Hid (l.take i = l) := hide (List.take_of_length_le (by have := HLN.out; omega))
      go_wp2_with fail
      go_ret
      refine ⟨_, _, _, rfl, ?_, ?_, HW.out⟩
      · have := HM.out; rwa [HE.out] at this
      · have := HO.out; rwa [HE.out] at this

set_option maxRecDepth 10000 in
theorem total_any (A : Option Addr) (n c : Nat) (l : CL) (w : World) (hl : l.length = n) (hn : n ≤ 5000) (ht : tot l ≤ 5000) (hs : Chunks w A l) : Calls Try.prog 18 #[.slice A n c] w fun e w' => e = .returned (.int .i64 (tot l : Nat)) ∧ Below w.heap.size w w' := by
  have HLN := hide hl
  have HC := hide hs
  have HT := hide ht
  clear hl hs ht
  go_enter Try.func18, Try.ntmps18
  go_wp2_with fail
  go_loopw [3, 8] (fun tv iv wr => ∃ (i t : Nat), tv = .int .i64 (t : Nat) ∧ iv = .int .i64 (i : Nat) ∧ i ≤ n ∧ Hid (tot (l.take i) = t) ∧ Hid (Below w.heap.size w wr)) (fun _ iv _ => n - (intOf iv).toNat)
  case atStart => exact ⟨0, 0, rfl, rfl, Nat.zero_le _, hide rfl, hide (Below.refl _ _)⟩
  case round =>
    obtain ⟨i, t, rfl, rfl, hi, HM, HW⟩ := hrel
    by_cases hlt : i < n
    · have hil : i < l.length := by have := HLN.out; omega
      obtain ⟨f, b, hd⟩ : ∃ f b, l[i] = (f, b) := ⟨_, _, rfl⟩
      have hg : l[i]? = some (f, b) := by rw [List.getElem?_eq_getElem hil, hd]
      obtain ⟨ga, oa, D, cd, rfl, s0, s1, _, _, _⟩ := (HC.out.kept HW.out) i f b hg
      obtain ⟨k, hk⟩ : ∃ k, b.length = k := ⟨_, rfl⟩
      rw [hk] at s1
      have HK := hide hk
      have HJ := hide (tot_take hg)
      have hkm : t + k ≤ 5000 := by
        have h2 := tot_take hg
        have h3 := tot_le l (i + 1)
        have h4 := HT.out
        have h5 := HM.out
        simp at h2
        omega
      obtain ⟨W1, hW1⟩ : ∃ W1, wr.alloc (.cells #[.int .i64 f, .slice D k cd] 33) = W1 := ⟨_, rfl⟩
      obtain ⟨wb, hwb⟩ : ∃ wb, wr.heap.size = wb := ⟨_, rfl⟩
      have hb1 : Below wr.heap.size wr W1 := by rw [← hW1]; exact (Below.refl _ _).alloc (Nat.le_refl _) _
      have HX1 : Hid (Blk W1 wb 33 #[.int .i64 f, .slice D k cd]) := hide (by rw [← hW1, ← hwb]; exact Blk.born wr 33 _)
      have d1 : W1.cell? ⟨wb, 1, none⟩ = some (.slice D k cd) := HX1.out.cell 1
      have HW1 := hide (below_nextB HW.out HW.out.size hb1)
      have i1 : (i : Int) < (n : Int) := by omega
      have i3 : (0 : Int) ≤ (i : Int) := by omega
      clear hd hg hil hk hb1
      go_wp2_with fail
      go_roundw
      case rel => exact ⟨i + 1, t + k, by go_num, by go_num, by omega, hide (by rw [HJ.out, HM.out]; dsimp only; rw [HK.out]), HW1⟩
      case measure => simp [intOf]; omega
    · have HE : Hid (l.take i = l) := hide (List.take_of_length_le (by have := HLN.out; omega))
      have HM2 : Hid (tot l = t) := hide (by have := HM.out; rwa [HE.out] at this)
      go_wp2_with fail
      go_ret
      exact ⟨by rw [HM2.out]; rfl, HW.out⟩

theorem good_b (f : Int) : (f == 0 || f == 1) = true ∨ ((f != 0) = true ∧ (f != 1) = true ∧ (f == 0 || f == 1) = false) := by
  by_cases h0 : f = 0
  · subst h0; exact .inl rfl
  · by_cases h1 : f = 1
    · subst h1; exact .inl rfl
    · exact .inr ⟨by simpa using h0, by simpa using h1, by simp [h0, h1]⟩

set_option maxRecDepth 10000 in
theorem rright_any (A : Option Addr) (n c : Nat) (l : CL) (w : World) (hl : l.length = n) (hn : n ≤ 5000) (hs : Chunks w A l) : Calls Try.prog 14 #[.slice A n c] w fun e w' => e = .returned (.bool (rightL l)) ∧ Below w.heap.size w w' := by
  have HLN := hide hl
  have HC := hide hs
  clear hl hs
  go_enter Try.func14, Try.ntmps14
  go_wp2_with fail
  go_loopw [3] (fun iv wr => ∃ (i : Nat), iv = .int .i64 (i : Nat) ∧ i ≤ n ∧ Hid (rightL (l.take i) = true) ∧ Hid (Below w.heap.size w wr)) (fun iv _ => n - (intOf iv).toNat)
  case atStart => exact ⟨0, rfl, Nat.zero_le _, hide rfl, hide (Below.refl _ _)⟩
  case round =>
    obtain ⟨i, rfl, hi, HM, HW⟩ := hrel
    by_cases hlt : i < n
    · have hil : i < l.length := by have := HLN.out; omega
      obtain ⟨f, b, hd⟩ : ∃ f b, l[i] = (f, b) := ⟨_, _, rfl⟩
      have hg : l[i]? = some (f, b) := by rw [List.getElem?_eq_getElem hil, hd]
      obtain ⟨ga, oa, D, cd, rfl, s0, _⟩ := (HC.out.kept HW.out) i f b hg
      have HJ := hide (right_take hg)
      have i1 : (i : Int) < (n : Int) := by omega
      have i3 : (0 : Int) ≤ (i : Int) := by omega
      by_cases h0 : f = 0
      · subst h0
        clear hd hg hil
        go_wp2_with fail
        go_roundw
        case rel => exact ⟨i + 1, by go_num, by omega, hide (by rw [HJ.out, HM.out]; rfl), HW⟩
        case measure => simp [intOf]; omega
      · have hf0 : (f != 0) = true := by simpa using h0
        by_cases h1 : f = 1
        · subst h1
          clear hd hg hil h0
          go_wp2_with fail
          go_roundw
          case rel => exact ⟨i + 1, by go_num, by omega, hide (by rw [HJ.out, HM.out]; rfl), HW⟩
          case measure => simp [intOf]; omega
        · have hf1 : (f != 1) = true := by simpa using h1
          have HN := hide (right_no hg (by simp [h0, h1]))
          clear hd hg hil h0 h1
          go_wp2_with fail
          go_ret
          exact ⟨by rw [HN.out]; rfl, HW.out⟩
    · have HE : Hid (rightL l = true) := hide (by have := HM.out; rwa [List.take_of_length_le (by have := HLN.out; omega)] at this)
      go_wp2_with fail
      go_ret
      exact ⟨by rw [HE.out]; rfl, HW.out⟩

set_option maxRecDepth 10000 in
theorem bad_any (f : Int) (v : Value) (w : World) : Calls Try.prog 21 #[.agg #[.int .i64 f, v]] w fun e w' => e = .returned (.bool (!(f == 0 || f == 1))) ∧ Below w.heap.size w w' := by
  by_cases h0 : f = 0
  · subst h0
    go_enter Try.func21, Try.ntmps21
    go_wp2_with fail
    go_ret
    exact ⟨rfl, (Below.refl _ _).alloc (Nat.le_refl _) _⟩
  · have hf0 : (f != 0) = true := by simpa using h0
    have hf0' : (f == 0) = false := by simpa using h0
    rw [hf0']
    clear h0 hf0'
    go_enter Try.func21, Try.ntmps21
    go_wp2_with fail
    go_ret
    exact ⟨by cases h : f == 1 <;> simp_all, (Below.refl _ _).alloc (Nat.le_refl _) _⟩
end Go.Proofs.Ytciddilphflhaaa
