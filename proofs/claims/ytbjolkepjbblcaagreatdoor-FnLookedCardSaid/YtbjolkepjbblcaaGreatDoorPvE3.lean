/- The texts of this claim, part 3: a small logic of plain values for the model's runs, what it says of the functions, in plain values. -/
import Derived.Test.YtbjolkepjbblcaaGreatDoorPvE0
import Derived.Test.YtbjolkepjbblcaaGreatDoorPvE1
import Derived.Test.YtbjolkepjbblcaaGreatDoorPvE2
/- What functions of the program and of the reference do, in plain values. -/
namespace Go.Pv
open Go.Proofs Go.Mth
set_option linter.unusedSimpArgs false
set_option linter.unusedVariables false
set_option maxHeartbeats 4000000
set_option maxRecDepth 4000

/-! ### lists of places, feet, sealed files -/
theorem upT_size0 {a b : Int} (h : ¬ (upT a b).size = 0) : b ≤ a := Decidable.byContradiction fun q => h (by rw [upT_no fun x => q x.1]; rfl)
theorem impl_PlacesText (ps : List (Int × Int)) (hl : ps.length ≤ 1000000000) (hp : ∀ p ∈ ps, i64 p.1 ∧ i64 p.2) : Fn Tryz.prog 267 [.far (ps.map plP)] [] (.str (placesT ps)) [] := by
  have b1 := varT_le ps.length
  have b2 := varT_pos ps.length (by omega) (by omega)
  refine fn_x tok (n := 44) (rs := [.tmp 2]) Tryz.func267 (by decide) rfl rfl rfl rfl ?_
  refine Wr.go ?_
  repeat' ((first | (have ee := True.intro; refine Wr.mk ?_) | ((first | refine br_go ?_ ?_ | refine pick_go ?_ ?_) <;> intro ee f <;> (try simp only [BB] at f) <;> (try simp only [numOk, verOk] at f)) | (have ee := True.intro; first | refine call_x (impl_VarText _) rfl ⟨rfl⟩ ?_ | (refine call_h [256] [] (Builder_Write0 _ (by omega) (by omega)) (by decide) rfl rfl ?_; rintro _ _ ⟨rfl, rfl⟩))) <;> (try simp (maxSteps := 1000000) (disch := first | omega | (simp only [LN, numOk, verOk, rfP, rvP, rhP, frP, blH, bytesOf_length] <;> omega) | exact Ck.mk rfl) only [ee, VC, T, Nat.reduceMul, Nat.reduceAdd, Nat.reduceSub, Nat.reduceLT, Nat.reduceEqDiff, Nat.reduceLeDiff, Nat.reduceBEq, reduceCtorEq, Int.reduceToNat, ↓reduceIte, rfP, rvP, rhP, frP, blH, bytesOf_length]) <;> (try clear ee))
  refine lp_go (fun x : Nat × ByteArray × Int × Int => ⟨44, [(3, .ref 256 0), (4, .ref 320 0), (15, .far (ps.map plP)), (16, .int .i64 ps.length), (17, .int .i64 x.1)], [(256, .box 194 [.ref 256 0, .row 896 x.2.1.size]), (896, .row ⟨1, 5⟩ ((bytesOf x.2.1).map (.int .u8))), (320, .box 187 [.int .i64 x.2.2.1, .int .i64 x.2.2.2])]⟩) (fun x => x.1 ≤ ps.length ∧ (0 < x.2.1.size ∧ x.2.1.size ≤ 5 + 10 * x.1) ∧ (0 ≤ x.2.2.1 ∧ x.2.2.1 ≤ 9223372036854775807) ∧ (0 ≤ x.2.2.2 ∧ x.2.2.2 ≤ 9223372036854775807) ∧ placesT ps = plGo x.2.1 x.2.2.1 x.2.2.2 (ps.drop x.1)) (fun x => ps.length - x.1) (0, varT ps.length, 0, 0) ?_ ?_ ?_
  · (simp (disch := first | omega | (simp only [LN, numOk, verOk] <;> omega) | exact Ck.mk rfl) only [SB, EQ, Nat.reduceMul, Nat.reduceAdd, Nat.reduceSub, Nat.reduceLT, Nat.reduceEqDiff, Nat.reduceLeDiff, Nat.reduceBEq, reduceCtorEq, Int.reduceToNat, ↓reduceIte]; try omega)
  · exact ⟨Nat.zero_le _, ⟨b2, by simp only; omega⟩, by simp, by simp, rfl⟩
  · rintro ⟨i, o, lc, la⟩ ⟨h1, h2, h3, h4, h5⟩ N hN
    simp only at h1 h2 h3 h4 h5
    have hs := plGo_step ps i
    have hm : i < ps.length → i64 (ps.getD i default).1 ∧ i64 (ps.getD i default).2 := fun h => hp _ (getD_mem _ _ h)
    have s1 := stepT_le (ps.getD i default).1 lc
    have s2 := stepT_le (ps.getD i default).2 la
    have hg : i < ps.length → (ps.map plP).getD i .junk = .agg [.int .i64 (ps.getD i default).1, .int .i64 (ps.getD i default).2] := fun h => by
      rw [List.getD_eq_getElem?_getD, List.getElem?_map, List.getElem?_eq_getElem h, List.getD_eq_getElem?_getD, List.getElem?_eq_getElem h]; rfl
    refine Wr.go ?_
    repeat' ((first | (have ee := True.intro; refine Wr.mk ?_) | ((first | refine br_go ?_ ?_ | refine pick_go ?_ ?_) <;> intro ee f <;> (try simp only [BB] at f) <;> (try simp only [numOk, verOk] at f)) | (have ee := True.intro; first | refine dr_go mixed (id := 7) [([], [6], []), ([0], [21], []), ([], [4], []), ([2], [23], []), ([0, 1, 2, 3], [22, 24], []), ([], [6], []), ([5], [26], []), ([], [4], []), ([7], [28], []), ([0, 1, 2, 3, 4, 5, 6, 7, 8], [27, 29], []), ([0, 1, 2, 3, 4, 5, 6, 7, 8, 9], [25], []), ([0, 1, 2, 3, 4, 5, 6, 7, 8, 9, 10], [30], [])] rfl rfl rfl ?_ | refine call_x (impl_above _ _ (hm (by omega)).1.1 (hm (by omega)).1.2 (by omega) h3.2) rfl ⟨rfl⟩ ?_ | refine call_x (impl_above _ _ (hm (by omega)).2.1 (hm (by omega)).2.2 (by omega) h4.2) rfl ⟨rfl⟩ ?_ | (refine call_h [256, 896] [] (Builder_Write o _ (by omega) (by rw [ByteArray.size_append]; omega)) (by decide) rfl rfl ?_; rintro _ _ ⟨rfl, rfl⟩) | refine call_hx [256, 896] [] (Builder_String o (by omega) (by omega)) (by decide) rfl rfl ?_)) <;> (try simp (maxSteps := 1000000) (disch := first | omega | (simp only [LN, numOk, verOk, rfP, rvP, rhP, frP, blH, bytesOf_length, hg] <;> omega) | exact Ck.mk rfl) only [ee, VC, T, Nat.reduceMul, Nat.reduceAdd, Nat.reduceSub, Nat.reduceLT, Nat.reduceEqDiff, Nat.reduceLeDiff, Nat.reduceBEq, reduceCtorEq, Int.reduceToNat, ↓reduceIte, rfP, rvP, rhP, frP, blH, bytesOf_length, hg]) <;> (try clear ee))
    · rw [h5, hs (by omega), if_pos (.inl f)]
    · rw [h5, hs (by omega), if_pos (.inr f)]
    · have u1 := upT_size0 (a := (ps.getD i default).1) (b := lc) (by assumption)
      have u2 := upT_size0 f
      have m := hm (by omega)
      unfold i64 at m
      refine hN (i + 1, o ++ upT (ps.getD i default).1 lc ++ upT (ps.getD i default).2 la, (ps.getD i default).1, (ps.getD i default).2) _ ⟨by simp only; omega, ⟨by simp only [ByteArray.size_append]; omega, by simp only [ByteArray.size_append]; omega⟩, ⟨Int.le_trans h3.1 u1, m.1.2⟩, ⟨Int.le_trans h4.1 u2, m.2.2⟩, ?_⟩ (by simp only; omega) ?_
      · rw [h5, hs (by omega), if_neg (by rintro (q | q) <;> simp_all)]
      · (simp (disch := first | omega | (simp only [LN, numOk, verOk] <;> omega) | exact Ck.mk rfl) only [SB, EQ, Nat.reduceMul, Nat.reduceAdd, Nat.reduceSub, Nat.reduceLT, Nat.reduceEqDiff, Nat.reduceLeDiff, Nat.reduceBEq, reduceCtorEq, Int.reduceToNat, ↓reduceIte]; try omega)
        simp only [ByteArray.append_assoc, ByteArray.size_append, Nat.add_assoc, and_self]
    · rw [h5, List.drop_eq_nil_of_le (by omega)]; rfl
theorem plc_mem (s : Int) (os : List Int) : ∀ (l : List Int) (i : Nat), (∀ x ∈ l, x ∈ os) → i + l.length ≤ os.length → ∀ p ∈ plc (fun a b => (a, b)) s l i, (0 ≤ p.1 ∧ p.1 < os.length) ∧ p.2 ∈ os
  | [], i, _, _, p, hp => by simp [plc] at hp
  | x :: l, i, hm, hi, p, hp => by
    rw [List.length_cons] at hi
    have ih := plc_mem s os l (i + 1) (fun y hy => hm y (List.mem_cons_of_mem _ hy)) (by omega) p
    unfold plc at hp
    split at hp
    · rcases List.mem_cons.1 hp with rfl | hp
      · exact ⟨⟨by simp only; omega, by simp only; omega⟩, hm x List.mem_cons_self⟩
      · exact ih hp
    · exact ih hp
theorem placesP_mem (s : Int) (os : List Int) (p : Int × Int) (hp : p ∈ placesP s os) : (0 ≤ p.1 ∧ p.1 < os.length) ∧ p.2 ∈ os := by
  unfold placesP placesOf at hp
  split at hp
  · simp at hp
  · exact plc_mem s os os 0 (fun x h => h) (by omega) p hp
theorem trail_20 {a b c d : Int} (h : ¬ (trailT a b c d).size = 0) : (trailT a b c d).size = 20 := by
  obtain ⟨h1, h2, h3, h4, _⟩ := trailT_size a b c d h
  have k1 := fixT4_full a h1
  have k2 := fixT4_full b h2
  have k3 := fixT4_full c h3
  have k4 := fixT4_full d h4
  exact (trailT_pos a b c d k1.2 k2.2 k3.2 k4.2).2
theorem impl_FootText (v s b l : Int) (os : List Int) (e : Int) (hl : os.length ≤ 1000000000) (ho : ∀ o ∈ os, i64 o) (he : i64 e) : Fn Tryz.prog 250 [.agg [.int .i64 v, .int .i64 s, .int .i64 b, .int .i64 l], .far (os.map (.int .i64)), .int .i64 e] [] (.str (footT v s b l os e)) [] := by
  have hp : ∀ p ∈ placesP s os, i64 p.1 ∧ i64 p.2 := fun p h => by
    have := placesP_mem s os p h
    exact ⟨⟨by omega, by omega⟩, ho _ this.2⟩
  have hpl : (placesP s os).length ≤ os.length := placesOf_le _ _ _
  have t1 := endMark_le v (b + os.length)
  have t2 := placesT_le (placesP s os)
  have t3 := @trail_20 e os.length s 0
  have t5 := trailT_le e os.length s (sumOf (endMark v (b + os.length) ++ placesT (placesP s os) ++ (trailT e os.length s 0).extract 0 12))
  unfold i64 at he
  generalize hq : footT v s b l os e = q
  by_cases hk : headOk v s b l
  · have hH := impl_HeadOk v s b l
    rw [decide_eq_true hk] at hH
    obtain ⟨_, ⟨hs1, hs2⟩, ⟨hb0, hb1⟩, _⟩ := id hk
    have hm : ∀ z < 9223372036854775808, ∀ x ∈ [e, (os.length : Int), s, z], x < 9223372036854775808 := fun z hz x hx => by
      simp only [List.mem_cons, List.not_mem_nil, or_false] at hx
      omega
    unfold footT at hq
    rw [if_pos hk] at hq
    refine fn_x tok (n := 61) (rs := [.tmp 6]) Tryz.func250 (by decide) rfl rfl rfl rfl ?_
    refine Wr.go ?_
    repeat' ((first | (have ee := True.intro; refine Wr.mk ?_) | ((first | refine br_go ?_ ?_ | refine pick_go ?_ ?_) <;> intro ee f <;> (try simp only [BB] at f) <;> (try simp only [numOk, verOk] at f)) | (have ee := True.intro; first | refine dr_go mixed (id := 3) [([], [3], []), ([0], [14], []), ([], [3], []), ([2], [16], []), ([], [1], []), ([4], [18], []), ([2, 3, 4, 5], [17, 19], []), ([0, 1, 2, 3, 4, 5, 6], [15, 20], []), ([], [3], []), ([8], [22], []), ([], [1], []), ([0, 1, 2, 3, 4, 5, 6, 7, 8, 9, 10], [23, 24], []), ([0, 1, 2, 3, 4, 5, 6, 7, 8, 9, 10, 11], [25], []), ([0, 1, 2, 3, 4, 5, 6, 7, 8, 9, 10, 11, 12], [21], []), ([0, 1, 2, 3, 4, 5, 6, 7, 8, 9, 10, 11, 12, 13], [26], [])] rfl rfl rfl ?_ | refine call_x (hH) rfl ⟨rfl⟩ ?_ | refine call_x (impl_EndMark _ _) rfl ⟨rfl⟩ ?_ | refine call_x (impl_PlacesOf2 _ _ (by omega) (by omega)) rfl ⟨rfl⟩ ?_ | refine call_x (impl_PlacesText _ (by omega) hp) rfl ⟨rfl⟩ ?_ | refine call_x (impl_TrailerText _ _ _ _ (hm _ (by decide))) rfl ⟨rfl⟩ ?_ | refine call_x (impl_TrailerText _ _ _ _ (hm _ (sumOf_lt _))) rfl ⟨rfl⟩ ?_ | refine call_x (impl_SumOf _ (by simp only [ByteArray.size_append, ByteArray.size_extract]; omega)) rfl ⟨rfl⟩ ?_)) <;> (try simp (maxSteps := 1000000) (disch := first | omega | (simp only [LN, numOk, verOk, rfP, rvP, rhP, frP, blH, bytesOf_length, ByteArray.size_extract] <;> omega) | exact Ck.mk rfl) only [ee, VC, T, Nat.reduceMul, Nat.reduceAdd, Nat.reduceSub, Nat.reduceLT, Nat.reduceEqDiff, Nat.reduceLeDiff, Nat.reduceBEq, reduceCtorEq, Int.reduceToNat, ↓reduceIte, rfP, rvP, rhP, frP, blH, bytesOf_length, ByteArray.size_extract]) <;> (try clear ee))
    all_goals (rw [← hq]; first | rw [if_pos (by omega)] | rw [if_neg (by omega)])
  · have hH := impl_HeadOk v s b l
    rw [decide_eq_false hk] at hH
    unfold footT at hq
    rw [if_neg hk] at hq
    subst hq
    refine fn_x tok (n := 61) (rs := [.tmp 6]) Tryz.func250 (by decide) rfl rfl rfl rfl ?_
    refine Wr.go ?_
    repeat' ((first | (have ee := True.intro; refine Wr.mk ?_) | ((first | refine br_go ?_ ?_ | refine pick_go ?_ ?_) <;> intro ee f <;> (try simp only [BB] at f) <;> (try simp only [numOk, verOk] at f)) | (have ee := True.intro; first | refine call_x (hH) rfl ⟨rfl⟩ ?_)) <;> (try simp (maxSteps := 1000000) (disch := first | omega | (simp only [LN, numOk, verOk, rfP, rvP, rhP, frP, blH, bytesOf_length] <;> omega) | exact Ck.mk rfl) only [ee, VC, T, Nat.reduceMul, Nat.reduceAdd, Nat.reduceSub, Nat.reduceLT, Nat.reduceEqDiff, Nat.reduceLeDiff, Nat.reduceBEq, reduceCtorEq, Int.reduceToNat, ↓reduceIte, rfP, rvP, rhP, frP, blH, bytesOf_length]) <;> (try clear ee))
theorem spec_FootText (v s b l : Int) (os : List Int) (e : Int) (hl : os.length ≤ 1000000000) (ho : ∀ o ∈ os, i64 o) (he : i64 e) : Fn Tryz.prog 105 [.agg [.int .i64 v, .int .i64 s, .int .i64 b, .int .i64 l], .far (os.map (.int .i64)), .int .i64 e] [] (.str (footT v s b l os e)) [] := by
  have hp : ∀ p ∈ placesP s os, i64 p.1 ∧ i64 p.2 := fun p h => by
    have := placesP_mem s os p h
    exact ⟨⟨by omega, by omega⟩, ho _ this.2⟩
  have hpl : (placesP s os).length ≤ os.length := placesOf_le _ _ _
  have t1 := endMark_le v (b + os.length)
  have t2 := placesT_le (placesP s os)
  have t3 := @trail_20 e os.length s 0
  have t5 := trailT_le e os.length s (sumOf (endMark v (b + os.length) ++ placesT (placesP s os) ++ (trailT e os.length s 0).extract 0 12))
  unfold i64 at he
  generalize hq : footT v s b l os e = q
  by_cases hk : headOk v s b l
  · have hH := spec_HeadOk v s b l
    rw [decide_eq_true hk] at hH
    obtain ⟨_, ⟨hs1, hs2⟩, ⟨hb0, hb1⟩, _⟩ := id hk
    have hm : ∀ z < 9223372036854775808, ∀ x ∈ [e, (os.length : Int), s, z], x < 9223372036854775808 := fun z hz x hx => by
      simp only [List.mem_cons, List.not_mem_nil, or_false] at hx
      omega
    unfold footT at hq
    rw [if_pos hk] at hq
    refine fn_x tok (n := 61) (rs := [.tmp 6]) Tryz.func105 (by decide) rfl rfl rfl rfl ?_
    refine Wr.go ?_
    repeat' ((first | (have ee := True.intro; refine Wr.mk ?_) | ((first | refine br_go ?_ ?_ | refine pick_go ?_ ?_) <;> intro ee f <;> (try simp only [BB] at f) <;> (try simp only [numOk, verOk] at f)) | (have ee := True.intro; first | refine dr_go mixed (id := 3) [([], [3], []), ([0], [14], []), ([], [3], []), ([2], [16], []), ([], [1], []), ([4], [18], []), ([2, 3, 4, 5], [17, 19], []), ([0, 1, 2, 3, 4, 5, 6], [15, 20], []), ([0, 1, 2, 3, 4, 5, 6, 7], [21], [])] rfl rfl rfl ?_ | refine call_x (hH) rfl ⟨rfl⟩ ?_ | refine call_x (spec_EndMark _ _) rfl ⟨rfl⟩ ?_ | refine call_x (spec_PlacesOf2 _ _ (by omega) (by omega)) rfl ⟨rfl⟩ ?_ | refine call_x (spec_PlacesText _ (by omega) hp) rfl ⟨rfl⟩ ?_ | refine call_x (spec_TrailerText _ _ _ _ (hm _ (by decide))) rfl ⟨rfl⟩ ?_ | refine call_x (spec_TrailerText _ _ _ _ (hm _ (sumOf_lt _))) rfl ⟨rfl⟩ ?_ | refine call_x (spec_SumOf _ (by simp only [ByteArray.size_append, ByteArray.size_extract]; omega)) rfl ⟨rfl⟩ ?_)) <;> (try simp (maxSteps := 1000000) (disch := first | omega | (simp only [LN, numOk, verOk, rfP, rvP, rhP, frP, blH, bytesOf_length, ByteArray.size_extract] <;> omega) | exact Ck.mk rfl) only [ee, VC, T, Nat.reduceMul, Nat.reduceAdd, Nat.reduceSub, Nat.reduceLT, Nat.reduceEqDiff, Nat.reduceLeDiff, Nat.reduceBEq, reduceCtorEq, Int.reduceToNat, ↓reduceIte, rfP, rvP, rhP, frP, blH, bytesOf_length, ByteArray.size_extract]) <;> (try clear ee))
    all_goals (rw [← hq]; first | rw [if_pos (by omega)] | rw [if_neg (by omega)])
  · have hH := spec_HeadOk v s b l
    rw [decide_eq_false hk] at hH
    unfold footT at hq
    rw [if_neg hk] at hq
    subst hq
    refine fn_x tok (n := 61) (rs := [.tmp 6]) Tryz.func105 (by decide) rfl rfl rfl rfl ?_
    refine Wr.go ?_
    repeat' ((first | (have ee := True.intro; refine Wr.mk ?_) | ((first | refine br_go ?_ ?_ | refine pick_go ?_ ?_) <;> intro ee f <;> (try simp only [BB] at f) <;> (try simp only [numOk, verOk] at f)) | (have ee := True.intro; first | refine call_x (hH) rfl ⟨rfl⟩ ?_)) <;> (try simp (maxSteps := 1000000) (disch := first | omega | (simp only [LN, numOk, verOk, rfP, rvP, rhP, frP, blH, bytesOf_length] <;> omega) | exact Ck.mk rfl) only [ee, VC, T, Nat.reduceMul, Nat.reduceAdd, Nat.reduceSub, Nat.reduceLT, Nat.reduceEqDiff, Nat.reduceLeDiff, Nat.reduceBEq, reduceCtorEq, Int.reduceToNat, ↓reduceIte, rfP, rvP, rhP, frP, blH, bytesOf_length]) <;> (try clear ee))
def ixf {α : Type} (p : α → Bool) : List α → Nat → Int
  | [], _ => -1
  | x :: l, i => if p x = true then i else ixf p l (i + 1)
theorem ixf_step {α : Type} [Inhabited α] (p : α → Bool) (l : List α) (i : Nat) (h : i < l.length) : ixf p (l.drop i) i = if p (l.getD i default) = true then (i : Int) else ixf p (l.drop (i + 1)) (i + 1) := by
  rw [List.drop_eq_getElem_cons h, List.getD_eq_getElem?_getD, List.getElem?_eq_getElem h]; rfl
theorem ixf_any {α : Type} (p : α → Bool) : ∀ (l : List α) (i : Nat), (0 ≤ ixf p l i ↔ l.any p = true) ∧ -1 ≤ ixf p l i ∧ ixf p l i < i + l.length
  | [], i => ⟨by simp [ixf], by simp [ixf], by simp only [ixf, List.length_nil]; omega⟩
  | x :: l, i => by
    have ih := ixf_any p l (i + 1)
    unfold ixf
    rw [List.any_cons, List.length_cons]
    by_cases h : p x = true
    · rw [if_pos h, h]; exact ⟨by simp, by omega, by omega⟩
    · have h' : p x = false := by simpa using h
      rw [if_neg h, h', Bool.false_or]
      exact ⟨ih.1, ih.2.1, by omega⟩
theorem IndexFunc_str (g : FuncId) (p : ByteArray → Bool) (rs : List ByteArray) (hl : rs.length ≤ 1073741824) (hg : ∀ s, Fn Tryz.prog g [.str s] [] (.bool (p s)) []) : Fn Tryz.prog 156 [.far (rs.map .str), .fn (.func g) []] [] (.int .i64 (ixf p rs 0)) [] := by
  refine fn_x tok (n := 19) (rs := [.tmp 4]) Tryz.func156 (by decide) rfl rfl rfl rfl ?_
  refine Wr.go ?_
  repeat' ((first | (have ee := True.intro; refine Wr.mk ?_) | ((first | refine br_go ?_ ?_ | refine pick_go ?_ ?_) <;> intro ee f <;> (try simp only [BB] at f) <;> (try simp only [numOk, verOk] at f))) <;> (try simp (maxSteps := 1000000) (disch := first | omega | (simp only [LN, numOk, verOk, rfP, rvP, rhP, frP, blH, bytesOf_length] <;> omega) | exact Ck.mk rfl) only [ee, VC, T, Nat.reduceMul, Nat.reduceAdd, Nat.reduceSub, Nat.reduceLT, Nat.reduceEqDiff, Nat.reduceLeDiff, Nat.reduceBEq, reduceCtorEq, Int.reduceToNat, ↓reduceIte, rfP, rvP, rhP, frP, blH, bytesOf_length]) <;> (try clear ee))
  refine lp_go (fun i : Nat => ⟨19, [(0, .far (rs.map .str)), (1, .fn (.func g) []), (7, .int .i64 rs.length), (8, .int .i64 i)], []⟩) (fun i => i ≤ rs.length ∧ ixf p rs 0 = ixf p (rs.drop i) i) (fun i => rs.length - i) 0 ?_ ⟨Nat.zero_le _, rfl⟩ ?_
  · (simp (disch := first | omega | (simp only [LN, numOk, verOk] <;> omega) | exact Ck.mk rfl) only [SB, EQ, Nat.reduceMul, Nat.reduceAdd, Nat.reduceSub, Nat.reduceLT, Nat.reduceEqDiff, Nat.reduceLeDiff, Nat.reduceBEq, reduceCtorEq, Int.reduceToNat, ↓reduceIte]; try omega)
  · rintro i ⟨h1, h2⟩ N hN
    have hs := ixf_step p rs i
    refine Wr.go ?_
    repeat' ((first | (have ee := True.intro; refine Wr.mk ?_) | ((first | refine br_go ?_ ?_ | refine pick_go ?_ ?_) <;> intro ee f <;> (try simp only [BB] at f) <;> (try simp only [numOk, verOk] at f)) | (have ee := True.intro; first | refine call_x (hg _) rfl ⟨rfl⟩ ?_)) <;> (try simp (maxSteps := 1000000) (disch := first | omega | (simp only [LN, numOk, verOk, rfP, rvP, rhP, frP, blH, bytesOf_length] <;> omega) | exact Ck.mk rfl) only [ee, VC, T, Nat.reduceMul, Nat.reduceAdd, Nat.reduceSub, Nat.reduceLT, Nat.reduceEqDiff, Nat.reduceLeDiff, Nat.reduceBEq, reduceCtorEq, Int.reduceToNat, ↓reduceIte, rfP, rvP, rhP, frP, blH, bytesOf_length]) <;> (try clear ee))
    · rw [h2, hs (by omega), if_pos f]
    · refine hN (i + 1) _ ⟨by omega, by rw [h2, hs (by omega), if_neg (by rw [f]; decide)]⟩ (by omega) ?_
      (simp (disch := first | omega | (simp only [LN, numOk, verOk] <;> omega) | exact Ck.mk rfl) only [SB, EQ, Nat.reduceMul, Nat.reduceAdd, Nat.reduceSub, Nat.reduceLT, Nat.reduceEqDiff, Nat.reduceLeDiff, Nat.reduceBEq, reduceCtorEq, Int.reduceToNat, ↓reduceIte]; try omega)
    · rw [h2, List.drop_eq_nil_of_le (by omega)]; rfl
theorem ContainsFunc_str (g : FuncId) (p : ByteArray → Bool) (rs : List ByteArray) (hl : rs.length ≤ 1073741824) (hg : ∀ s, Fn Tryz.prog g [.str s] [] (.bool (p s)) []) : Fn Tryz.prog 248 [.far (rs.map .str), .fn (.func g) []] [] (.bool (rs.any p)) [] := by
  have h := ixf_any p rs 0
  refine fn_x tok (n := 9) (rs := [.tmp 4]) Tryz.func248 (by decide) rfl rfl rfl rfl ?_
  refine Wr.go ?_
  repeat' ((first | (have ee := True.intro; refine Wr.mk ?_) | ((first | refine br_go ?_ ?_ | refine pick_go ?_ ?_) <;> intro ee f <;> (try simp only [BB] at f) <;> (try simp only [numOk, verOk] at f)) | (have ee := True.intro; first | refine call_x (IndexFunc_str g p rs hl hg) rfl ⟨rfl⟩ ?_)) <;> (try simp (maxSteps := 1000000) (disch := first | omega | (simp only [LN, numOk, verOk, rfP, rvP, rhP, frP, blH, bytesOf_length] <;> omega) | exact Ck.mk rfl) only [ee, VC, T, Nat.reduceMul, Nat.reduceAdd, Nat.reduceSub, Nat.reduceLT, Nat.reduceEqDiff, Nat.reduceLeDiff, Nat.reduceBEq, reduceCtorEq, Int.reduceToNat, ↓reduceIte, rfP, rvP, rhP, frP, blH, bytesOf_length]) <;> (try clear ee))
  simp only [EQ]
  rw [Bool.eq_iff_iff, ← h.1, decide_eq_true_iff]
theorem SealText_1 (s : ByteArray) : Fn Tryz.prog 249 [.str s] [] (.bool (decide (60 < s.size))) [] := by
  refine fn_x tok (n := 6) (rs := [.tmp 2]) Tryz.func249 (by decide) rfl rfl rfl rfl ?_
  refine Wr.go ?_
  repeat' ((first | (have ee := True.intro; refine Wr.mk ?_) | ((first | refine br_go ?_ ?_ | refine pick_go ?_ ?_) <;> intro ee f <;> (try simp only [BB] at f) <;> (try simp only [numOk, verOk] at f))) <;> (try simp (maxSteps := 1000000) (disch := first | omega | (simp only [LN, numOk, verOk, rfP, rvP, rhP, frP, blH, bytesOf_length] <;> omega) | exact Ck.mk rfl) only [ee, VC, T, Nat.reduceMul, Nat.reduceAdd, Nat.reduceSub, Nat.reduceLT, Nat.reduceEqDiff, Nat.reduceLeDiff, Nat.reduceBEq, reduceCtorEq, Int.reduceToNat, ↓reduceIte, rfP, rvP, rhP, frP, blH, bytesOf_length]) <;> (try clear ee))
  simp only [EQ]
  exact decide_eq_decide.2 (by omega)
theorem any60 (rs : List ByteArray) : rs.any (fun s => decide (60 < s.size)) = true ↔ ¬ ∀ r ∈ rs, r.size ≤ 60 := by
  rw [List.any_eq_true]
  constructor
  · rintro ⟨r, h1, h2⟩ h3
    have := h3 r h1
    have := of_decide_eq_true h2
    omega
  · intro h
    refine Decidable.byContradiction fun k => h fun r hr => ?_
    refine Decidable.byContradiction fun q => k ⟨r, hr, decide_eq_true (by omega)⟩
theorem impl_SealText (v s b l : Int) (rs : List ByteArray) (hl : rs.length ≤ 1073741824) : Fn Tryz.prog 217 [.agg [.int .i64 v, .int .i64 s, .int .i64 b, .int .i64 l], .far (rs.map .str)] [] (.str (sealT v s b l rs)) [] := by
  by_cases hk : headOk v s b l
  · have hH := impl_HeadOk v s b l
    rw [decide_eq_true hk] at hH
    obtain ⟨_, ⟨hs1, hs2⟩, ⟨hb0, hb1⟩, _⟩ := id hk
    have ht := headT_size v s b l hk
    generalize hq : sealT v s b l rs = q
    refine fn_x tok (n := 62) (rs := [.tmp 4]) Tryz.func217 (by decide) rfl rfl rfl rfl ?_
    refine Wr.go ?_
    repeat' ((first | (have ee := True.intro; refine Wr.mk ?_) | ((first | refine br_go ?_ ?_ | refine pick_go ?_ ?_) <;> intro ee f <;> (try simp only [BB] at f) <;> (try simp only [numOk, verOk] at f)) | (have ee := True.intro; first | refine call_x (hH) rfl ⟨rfl⟩ ?_ | refine call_x (impl_isNumber _) rfl ⟨rfl⟩ ?_ | refine call_x (ContainsFunc_str _ _ rs (by omega) SealText_1) rfl ⟨rfl⟩ ?_ | refine call_x (impl_HeadText _ _ _ _) rfl ⟨rfl⟩ ?_ | (refine call_h [384] [] (Builder_Write0 _ (by omega) (by omega)) (by decide) rfl rfl ?_; rintro _ _ ⟨rfl, rfl⟩))) <;> (try simp (maxSteps := 1000000) (disch := first | omega | (simp only [LN, numOk, verOk, rfP, rvP, rhP, frP, blH, bytesOf_length, ht] <;> omega) | exact Ck.mk rfl) only [ee, VC, T, Nat.reduceMul, Nat.reduceAdd, Nat.reduceSub, Nat.reduceLT, Nat.reduceEqDiff, Nat.reduceLeDiff, Nat.reduceBEq, reduceCtorEq, Int.reduceToNat, ↓reduceIte, rfP, rvP, rhP, frP, blH, bytesOf_length, ht]) <;> (try clear ee))
    · rw [← hq, seal_no _ _ _ _ _ fun h => by have := h.2.1; omega]
    · rw [← hq, seal_no _ _ _ _ _ fun h => (any60 rs).1 f h.2.2.2]
    · have hr : ∀ r ∈ rs, r.size ≤ 60 := Decidable.byContradiction fun h => by rw [(any60 rs).2 h] at f; cases f
      have hso : sealOk v s b l rs := ⟨hk, by omega, by omega, hr⟩
      have hq2 := hq
      unfold sealT at hq2
      rw [if_pos hso] at hq2
      refine lp_go (fun x : Nat × ByteArray × List Int => ⟨62, [(2, .ref 192 0), (5, .ref 384 0), (6, .row 2240 x.2.2.length), (35, .far (rs.map .str)), (36, .int .i64 rs.length), (37, .int .i64 x.1)], [(384, .box 194 [.ref 384 0, .row 2176 x.2.1.size]), (2176, .row ⟨1, 5⟩ ((bytesOf x.2.1).map (.int .u8))), (2240, .row ⟨1, 0⟩ (x.2.2.map (.int .i64))), (192, .box 61 [.int .i64 v, .int .i64 s, .int .i64 b, .int .i64 l])]⟩) (fun x => x.1 ≤ rs.length ∧ x.2.2.length = x.1 ∧ (24 ≤ x.2.1.size ∧ x.2.1.size ≤ 24 + 84 * x.1) ∧ (∀ o ∈ x.2.2, 0 ≤ o ∧ o ≤ 1000000) ∧ frGo v b (headT v s b l) [] rs = frGo v b x.2.1 x.2.2 (rs.drop x.1)) (fun x => rs.length - x.1) (0, headT v s b l, []) ?_ ?_ ?_
      · (simp (disch := first | omega | (simp only [LN, numOk, verOk, ht] <;> omega) | exact Ck.mk rfl) only [SB, EQ, Nat.reduceMul, Nat.reduceAdd, Nat.reduceSub, Nat.reduceLT, Nat.reduceEqDiff, Nat.reduceLeDiff, Nat.reduceBEq, reduceCtorEq, Int.reduceToNat, ↓reduceIte, ht]; try omega)
      · exact ⟨Nat.zero_le _, rfl, ⟨by simp only; omega, by simp only; omega⟩, fun _ h => absurd h (by simp), rfl⟩
      · rintro ⟨i, t, os⟩ ⟨h1, h2, h3, h4, h5⟩ N hN
        simp only at h1 h2 h3 h4 h5
        have hf := frameT_le v (b + i) (rs.getD i default)
        have hrs : i < rs.length → (rs.getD i default).size ≤ 60 := fun h => hr _ (getD_mem _ _ h)
        have hst : i < rs.length → frGo v b t os (rs.drop i) = frGo v b (t ++ frameT v (b + i) (rs.getD i default)) (os ++ [(t.size : Int)]) (rs.drop (i + 1)) := fun h => by
          rw [List.drop_eq_getElem_cons h, List.getD_eq_getElem?_getD, List.getElem?_eq_getElem h]
          subst h2
          rfl
        have hfl := footT_le v s b l os t.size
        refine Wr.go ?_
        repeat' ((first | (have ee := True.intro; refine Wr.mk ?_) | ((first | refine br_go ?_ ?_ | refine pick_go ?_ ?_) <;> intro ee f <;> (try simp only [BB] at f) <;> (try simp only [numOk, verOk] at f)) | (have ee := True.intro; first | refine dr_go mixed (id := 12) [([], [5], []), ([], [2], [384, 2176]), ([], [6], []), ([0], [5], []), ([0, 1, 2, 3], [57, 58, 59], []), ([0, 1, 2, 3, 4], [56, 60], []), ([0, 1, 2, 3, 4, 5], [61], [])] rfl rfl rfl ?_ | (refine call_h [384, 2176] [] (Builder_Len1 t (by omega)) (by decide) rfl rfl ?_; rintro _ _ ⟨rfl, rfl⟩) | refine call_x (impl_FrameText _ _ _ (by have := hrs (by omega); omega)) rfl ⟨rfl⟩ ?_ | (refine call_h [384, 2176] [] (Builder_Write t _ (by omega) (by omega)) (by decide) rfl rfl ?_; rintro _ _ ⟨rfl, rfl⟩) | refine call_hx [384, 2176] [] (Builder_String t (by omega) (by omega)) (by decide) rfl rfl ?_ | (refine call_h [384] [] (Builder_Len _) (by decide) rfl rfl ?_; rintro _ _ ⟨rfl, rfl⟩) | (refine call_hx [] [2240] (impl_FootText v s b l os t.size (by omega) (fun o ho => by have := h4 o ho; unfold i64; omega) (by unfold i64; omega)) (by decide) ?_ rfl ?_; (focus (first | rfl | (simp (maxSteps := 1000000) (disch := first | omega | (simp only [LN, numOk, verOk, rfP, rvP, rhP, frP, blH, bytesOf_length] <;> omega) | exact Ck.mk rfl) only [VC, T, Nat.reduceMul, Nat.reduceAdd, Nat.reduceSub, Nat.reduceLT, Nat.reduceEqDiff, Nat.reduceLeDiff, Nat.reduceBEq, reduceCtorEq, Int.reduceToNat, ↓reduceIte, rfP, rvP, rhP, frP, blH, bytesOf_length]; done)))))) <;> (try simp (maxSteps := 1000000) (disch := first | omega | (simp only [LN, numOk, verOk, rfP, rvP, rhP, frP, blH, bytesOf_length] <;> omega) | exact Ck.mk rfl) only [ee, VC, T, Nat.reduceMul, Nat.reduceAdd, Nat.reduceSub, Nat.reduceLT, Nat.reduceEqDiff, Nat.reduceLeDiff, Nat.reduceBEq, reduceCtorEq, Int.reduceToNat, ↓reduceIte, rfP, rvP, rhP, frP, blH, bytesOf_length]) <;> (try clear ee))
        · refine hN (i + 1, t ++ frameT v (b + i) (rs.getD i default), os ++ [(t.size : Int)]) _ ⟨by simp only; omega, by simp [h2], by simp only [ByteArray.size_append]; omega, fun o ho => ?_, by rw [h5, hst (by omega)]⟩ (by simp only; omega) ?_
          · rcases List.mem_append.1 ho with ho | ho
            · exact h4 o ho
            · rw [List.mem_singleton.1 ho]; omega
          · (simp (disch := first | omega | (simp only [LN, numOk, verOk] <;> omega) | exact Ck.mk rfl) only [SB, EQ, Nat.reduceMul, Nat.reduceAdd, Nat.reduceSub, Nat.reduceLT, Nat.reduceEqDiff, Nat.reduceLeDiff, Nat.reduceBEq, reduceCtorEq, Int.reduceToNat, ↓reduceIte]; try omega)
            exact ByteArray.size_append.symm
        · rw [← hq2, h5, List.drop_eq_nil_of_le (by omega)]; rfl
    · rw [← hq, seal_no _ _ _ _ _ fun h => by have := h.2.2.1; omega]
  · have hH := impl_HeadOk v s b l
    rw [decide_eq_false hk] at hH
    rw [seal_no _ _ _ _ _ fun h => hk h.1]
    refine fn_x tok (n := 62) (rs := [.tmp 4]) Tryz.func217 (by decide) rfl rfl rfl rfl ?_
    refine Wr.go ?_
    repeat' ((first | (have ee := True.intro; refine Wr.mk ?_) | ((first | refine br_go ?_ ?_ | refine pick_go ?_ ?_) <;> intro ee f <;> (try simp only [BB] at f) <;> (try simp only [numOk, verOk] at f)) | (have ee := True.intro; first | refine call_x (hH) rfl ⟨rfl⟩ ?_)) <;> (try simp (maxSteps := 1000000) (disch := first | omega | (simp only [LN, numOk, verOk, rfP, rvP, rhP, frP, blH, bytesOf_length] <;> omega) | exact Ck.mk rfl) only [ee, VC, T, Nat.reduceMul, Nat.reduceAdd, Nat.reduceSub, Nat.reduceLT, Nat.reduceEqDiff, Nat.reduceLeDiff, Nat.reduceBEq, reduceCtorEq, Int.reduceToNat, ↓reduceIte, rfP, rvP, rhP, frP, blH, bytesOf_length]) <;> (try clear ee))
theorem spec_SealText (v s b l : Int) (rs : List ByteArray) (hl : rs.length ≤ 1073741824) (hz : ∀ r ∈ rs, r.size ≤ 140737488355328) : Fn Tryz.prog 39 [.agg [.int .i64 v, .int .i64 s, .int .i64 b, .int .i64 l], .far (rs.map .str)] [] (.str (sealT v s b l rs)) [] := by
  by_cases hk : headOk v s b l
  · have hH := spec_HeadOk v s b l
    rw [decide_eq_true hk] at hH
    obtain ⟨_, ⟨hs1, hs2⟩, ⟨hb0, hb1⟩, _⟩ := id hk
    have ht := headT_size v s b l hk
    generalize hq : sealT v s b l rs = q
    refine fn_x tok (n := 66) (rs := [.tmp 4]) Tryz.func39 (by decide) rfl rfl rfl rfl ?_
    refine Wr.go ?_
    repeat' ((first | (have ee := True.intro; refine Wr.mk ?_) | ((first | refine br_go ?_ ?_ | refine pick_go ?_ ?_) <;> intro ee f <;> (try simp only [BB] at f) <;> (try simp only [numOk, verOk] at f)) | (have ee := True.intro; first | refine call_x (hH) rfl ⟨rfl⟩ ?_ | refine call_x (spec_HeadText _ _ _ _) rfl ⟨rfl⟩ ?_)) <;> (try simp (maxSteps := 1000000) (disch := first | omega | (simp only [LN, numOk, verOk, rfP, rvP, rhP, frP, blH, bytesOf_length, ht] <;> omega) | exact Ck.mk rfl) only [ee, VC, T, Nat.reduceMul, Nat.reduceAdd, Nat.reduceSub, Nat.reduceLT, Nat.reduceEqDiff, Nat.reduceLeDiff, Nat.reduceBEq, reduceCtorEq, Int.reduceToNat, ↓reduceIte, rfP, rvP, rhP, frP, blH, bytesOf_length, ht]) <;> (try clear ee))
    · rw [← hq, seal_no _ _ _ _ _ fun h => by have := h.2.1; omega]
    · rw [← hq, seal_no _ _ _ _ _ fun h => by have := h.2.2.1; omega]
    · refine lp_go (fun x : Nat × ByteArray × List Int => ⟨66, [(1, .far (rs.map .str)), (2, .ref 192 0), (5, .row 1728 x.2.1.size), (6, .row 1792 x.2.2.length), (7, .int .i64 x.1)], [(1728, .row ⟨1, 0⟩ ((bytesOf x.2.1).map (.int .u8))), (1792, .row ⟨1, 0⟩ (x.2.2.map (.int .i64))), (192, .box 61 [.int .i64 v, .int .i64 s, .int .i64 b, .int .i64 l])]⟩) (fun x => x.1 ≤ rs.length ∧ x.2.2.length = x.1 ∧ (24 ≤ x.2.1.size ∧ x.2.1.size ≤ 24 + 84 * x.1) ∧ (∀ o ∈ x.2.2, 0 ≤ o ∧ o ≤ 1000000) ∧ frGo v b (headT v s b l) [] rs = frGo v b x.2.1 x.2.2 (rs.drop x.1) ∧ (∀ (j : Nat) (h : j < rs.length), j < x.1 → rs[j].size ≤ 60)) (fun x => rs.length - x.1) (0, headT v s b l, []) ?_ ?_ ?_
      · (simp (disch := first | omega | (simp only [LN, numOk, verOk, ht] <;> omega) | exact Ck.mk rfl) only [SB, EQ, Nat.reduceMul, Nat.reduceAdd, Nat.reduceSub, Nat.reduceLT, Nat.reduceEqDiff, Nat.reduceLeDiff, Nat.reduceBEq, reduceCtorEq, Int.reduceToNat, ↓reduceIte, ht]; try omega)
      · exact ⟨Nat.zero_le _, rfl, ⟨by simp only; omega, by simp only; omega⟩, fun _ h => absurd h (by simp), rfl, fun j _ h => absurd h (Nat.not_lt_zero _)⟩
      · rintro ⟨i, t, os⟩ ⟨h1, h2, h3, h4, h5, h6⟩ N hN
        simp only at h1 h2 h3 h4 h5 h6
        have hf := frameT_le v (b + i) (rs.getD i default)
        have hgd : ∀ h : i < rs.length, rs[i] = rs.getD i default := fun h => by rw [List.getD_eq_getElem?_getD, List.getElem?_eq_getElem h]; rfl
        have hrs : i < rs.length → (rs.getD i default).size ≤ 140737488355328 := fun h => hz _ (getD_mem _ _ h)
        have hst : i < rs.length → frGo v b t os (rs.drop i) = frGo v b (t ++ frameT v (b + i) (rs.getD i default)) (os ++ [(t.size : Int)]) (rs.drop (i + 1)) := fun h => by
          rw [List.drop_eq_getElem_cons h, List.getD_eq_getElem?_getD, List.getElem?_eq_getElem h]
          subst h2
          rfl
        have hfl := footT_le v s b l os t.size
        have hap : ∀ u : ByteArray, (bytesOf t).map (PV.int .u8) ++ (bytesOf u).map (PV.int .u8) = (bytesOf (t ++ u)).map (.int .u8) := fun u => by rw [bytesOf_append, List.map_append]
        refine Wr.go ?_
        repeat' ((first | (have ee := True.intro; refine Wr.mk ?_) | ((first | refine br_go ?_ ?_ | refine pick_go ?_ ?_) <;> intro ee f <;> (try simp only [BB] at f) <;> (try simp only [numOk, verOk] at f)) | (have ee := True.intro; first | refine dr_go mixed (id := 11) [([], [5], []), ([], [2], []), ([1], [46], []), ([], [2], []), ([3], [48], []), ([], [7], []), ([3, 4, 5], [49, 50], []), ([], [1], []), ([], [7], []), ([7, 8], [52, 53], []), ([7, 8, 9], [54], []), ([1, 2, 3, 4, 5, 6, 7, 8, 9, 10], [47, 51, 55], []), ([0, 1, 2, 3, 4, 5, 6, 7, 8, 9, 10, 11], [45, 56], []), ([0, 1, 2, 3, 4, 5, 6, 7, 8, 9, 10, 11, 12], [57], [])] rfl rfl rfl ?_ | refine call_x (spec_FrameText _ _ _ (hrs (by omega))) rfl ⟨rfl⟩ ?_ | (refine call_hx [] [1792] (spec_FootText v s b l os t.size (by omega) (fun o ho => by have := h4 o ho; unfold i64; omega) (by unfold i64; omega)) (by decide) ?_ rfl ?_; (focus (first | rfl | (simp (maxSteps := 1000000) (disch := first | omega | (simp only [LN, numOk, verOk, rfP, rvP, rhP, frP, blH, bytesOf_length, hap, ByteArray.size_append] <;> omega) | exact Ck.mk rfl) only [VC, T, Nat.reduceMul, Nat.reduceAdd, Nat.reduceSub, Nat.reduceLT, Nat.reduceEqDiff, Nat.reduceLeDiff, Nat.reduceBEq, reduceCtorEq, Int.reduceToNat, ↓reduceIte, rfP, rvP, rhP, frP, blH, bytesOf_length, hap, ByteArray.size_append]; done)))))) <;> (try simp (maxSteps := 1000000) (disch := first | omega | (simp only [LN, numOk, verOk, rfP, rvP, rhP, frP, blH, bytesOf_length, hap, ByteArray.size_append] <;> omega) | exact Ck.mk rfl) only [ee, VC, T, Nat.reduceMul, Nat.reduceAdd, Nat.reduceSub, Nat.reduceLT, Nat.reduceEqDiff, Nat.reduceLeDiff, Nat.reduceBEq, reduceCtorEq, Int.reduceToNat, ↓reduceIte, rfP, rvP, rhP, frP, blH, bytesOf_length, hap, ByteArray.size_append]) <;> (try clear ee))
        · rw [← hq, seal_no _ _ _ _ _ fun h => by have := h.2.2.2 _ (getD_mem rs i (by omega)); omega]
        · refine hN (i + 1, t ++ frameT v (b + i) (rs.getD i default), os ++ [(t.size : Int)]) _ ⟨by simp only; omega, by simp [h2], by simp only [ByteArray.size_append]; omega, fun o ho => ?_, by rw [h5, hst (by omega)], fun j hj hji => ?_⟩ (by simp only; omega) ?_
          · rcases List.mem_append.1 ho with ho | ho
            · exact h4 o ho
            · rw [List.mem_singleton.1 ho]; omega
          · by_cases e : j = i
            · subst e; rw [hgd hj]; omega
            · exact h6 j hj (by simp only at hji; omega)
          · (simp (disch := first | omega | (simp only [LN, numOk, verOk] <;> omega) | exact Ck.mk rfl) only [SB, EQ, Nat.reduceMul, Nat.reduceAdd, Nat.reduceSub, Nat.reduceLT, Nat.reduceEqDiff, Nat.reduceLeDiff, Nat.reduceBEq, reduceCtorEq, Int.reduceToNat, ↓reduceIte]; try omega)
            exact ByteArray.size_append.symm
        · have hall : ∀ r ∈ rs, r.size ≤ 60 := fun r hr => by
            obtain ⟨j, hj, rfl⟩ := List.getElem_of_mem hr
            exact h6 j hj (by omega)
          refine ⟨fun x hx => by have := bytesOf_range _ x hx; omega, ?_⟩
          rw [strOf_bytesOf, ← hq]
          unfold sealT
          rw [if_pos ⟨hk, by omega, by omega, hall⟩, h5, List.drop_eq_nil_of_le (by omega)]; rfl
  · have hH := spec_HeadOk v s b l
    rw [decide_eq_false hk] at hH
    rw [seal_no _ _ _ _ _ fun h => hk h.1]
    refine fn_x tok (n := 66) (rs := [.tmp 4]) Tryz.func39 (by decide) rfl rfl rfl rfl ?_
    refine Wr.go ?_
    repeat' ((first | (have ee := True.intro; refine Wr.mk ?_) | ((first | refine br_go ?_ ?_ | refine pick_go ?_ ?_) <;> intro ee f <;> (try simp only [BB] at f) <;> (try simp only [numOk, verOk] at f)) | (have ee := True.intro; first | refine call_x (hH) rfl ⟨rfl⟩ ?_)) <;> (try simp (maxSteps := 1000000) (disch := first | omega | (simp only [LN, numOk, verOk, rfP, rvP, rhP, frP, blH, bytesOf_length] <;> omega) | exact Ck.mk rfl) only [ee, VC, T, Nat.reduceMul, Nat.reduceAdd, Nat.reduceSub, Nat.reduceLT, Nat.reduceEqDiff, Nat.reduceLeDiff, Nat.reduceBEq, reduceCtorEq, Int.reduceToNat, ↓reduceIte, rfP, rvP, rhP, frP, blH, bytesOf_length]) <;> (try clear ee))
end Go.Pv

/- What functions of the program and of the reference do, in plain values. -/
namespace Go.Pv
open Go.Proofs Go.Mth
set_option linter.unusedSimpArgs false
set_option linter.unusedVariables false
set_option maxHeartbeats 4000000
set_option maxRecDepth 4000

/-! ### scans -/
def slN (K n : Nat) : PV := if n = 0 then .nils else .row K n
def hpN (K : Nat) (xs : List PV) : Hp := if xs.length = 0 then [] else [(K, .row ⟨1, 0⟩ xs)]
abbrev Sc := Bool × Int × Int × Int × Int × List ByteArray × List Int × Int × Bool
/-- A scan as it is handed back: its slices as one's own. -/
def scanR (t : Sc) : PV := .agg [.bool t.1, .int .i64 t.2.1, .int .i64 t.2.2.1, .int .i64 t.2.2.2.1, .int .i64 t.2.2.2.2.1, .row 64 t.2.2.2.2.2.1.length, .row 65 t.2.2.2.2.2.2.1.length, .int .i64 t.2.2.2.2.2.2.2.1, .bool t.2.2.2.2.2.2.2.2]
def scanH (t : Sc) : Hp := [(64, .row ⟨1, 0⟩ (t.2.2.2.2.2.1.map .str)), (65, .row ⟨1, 0⟩ (t.2.2.2.2.2.2.1.map (.int .i64)))]
def scanP (t : Sc) : PV := .agg [.bool t.1, .int .i64 t.2.1, .int .i64 t.2.2.1, .int .i64 t.2.2.2.1, .int .i64 t.2.2.2.2.1, .far (t.2.2.2.2.2.1.map .str), .far (t.2.2.2.2.2.2.1.map (.int .i64)), .int .i64 t.2.2.2.2.2.2.2.1, .bool t.2.2.2.2.2.2.2.2]
theorem impl_ScanR (b : ByteArray) (hb : b.size ≤ 1073741824) : FnE Tryz.prog 140 [.str b] [] (fun r m => r = scanR (scan b) ∧ m = scanH (scan b)) := by
  refine fn_e tok (n := 64) (rs := [.cell 2 95]) Tryz.func140 (by decide) rfl rfl rfl rfl (low_of rfl) ?_
  refine Wr.go ?_
  repeat' ((first | (have ee := True.intro; refine Wr.mk ?_) | ((first | refine br_go ?_ ?_ | refine pick_go ?_ ?_) <;> intro ee f <;> (try simp only [BB] at f) <;> (try simp only [numOk, verOk] at f)) | (have ee := True.intro; first | refine call_x (impl_ReadHead b (by omega)) rfl ⟨rfl⟩ ?_)) <;> (try simp (maxSteps := 1000000) (disch := first | omega | (simp only [LN, numOk, verOk, rfP, rvP, rhP, frP] <;> omega) | exact Ck.mk rfl) only [ee, VC, T, Nat.reduceMul, Nat.reduceAdd, Nat.reduceSub, Nat.reduceLT, Nat.reduceEqDiff, Nat.reduceLeDiff, Nat.reduceBEq, reduceCtorEq, Int.reduceToNat, ↓reduceIte, rfP, rvP, rhP, frP]) <;> (try clear ee))
  · have hk := rHead_ok b f
    obtain ⟨k1, k2, _⟩ := hk
    unfold headOk verOk numOk at k2
    have ht : scan b = (true, (rHead b).1, (rHead b).2.1, (rHead b).2.2.1, (rHead b).2.2.2.1, scanGo (rHead b).1 (rHead b).2.2.1 b (b.size + 1) [] [] 24) := by unfold scan; rw [if_pos f]
    generalize (rHead b).1 = v, (rHead b).2.1 = s, (rHead b).2.2.1 = base, (rHead b).2.2.2.1 = l at *
    refine lp_go (fun x : List ByteArray × List Int × Int × Nat => ⟨64, [(0, .str b), (2, .ref 192 0), (3, .ref 256 0), (5, .ref 384 0)], [(384, .box 95 [.bool true, .int .i64 v, .int .i64 s, .int .i64 base, .int .i64 l, slN 3456 x.1.length, slN 3904 x.2.1.length, .int .i64 x.2.2.1, .bool false]), (256, .box 61 [.int .i64 v, .int .i64 s, .int .i64 base, .int .i64 l]), (192, .box 95 [.bool false, .int .i64 0, .int .i64 0, .int .i64 0, .int .i64 0, .nils, .nils, .int .i64 0, .bool false])] ++ hpN 3456 (x.1.map .str) ++ hpN 3904 (x.2.1.map (.int .i64))⟩)
      (fun x => ScInv b x.1 x.2.1 x.2.2.1 ∧ (b.size : Int) < x.2.2.1 + x.2.2.2 ∧ scanGo v base b (b.size + 1) [] [] 24 = scanGo v base b x.2.2.2 x.1 x.2.1 x.2.2.1) (fun x => x.2.2.2) ([], [], 24, b.size + 1) ?_ ?_ ?_
    · (simp (disch := first | omega | (simp only [LN, numOk, verOk, slN, hpN] <;> omega) | exact Ck.mk rfl) only [SB, EQ, Nat.reduceMul, Nat.reduceAdd, Nat.reduceSub, Nat.reduceLT, Nat.reduceEqDiff, Nat.reduceLeDiff, Nat.reduceBEq, reduceCtorEq, Int.reduceToNat, ↓reduceIte, slN, hpN]; try omega)
    · exact ⟨⟨rfl, by simp, by simp only; omega, by simp, by simp, by simp⟩, by simp only; omega, rfl⟩
    · rintro ⟨rs, os, e, d⟩ ⟨hi, hd, hg⟩ N hN
      simp only at hi hd hg
      obtain ⟨i1, i2, i3, i4, i5, i6⟩ := id hi
      obtain ⟨d, rfl⟩ : ∃ d', d = d' + 1 := ⟨d - 1, by omega⟩
      have hst : scanGo v base b (d + 1) rs os e = if markAt v (base + rs.length) b e = true then (rs, os, e, true) else if (rFrame v (base + rs.length) b e).2.2 = true then scanGo v base b d (rs ++ [(rFrame v (base + rs.length) b e).1]) (os ++ [e]) (rFrame v (base + rs.length) b e).2.1 else (rs, os, e, false) := rfl
      have hok := rFrame_ok v (base + rs.length) b e
      have hsc := scInv_step v base b rs os e hi
      have next : (rFrame v (base + rs.length) b e).2.2 = true → markAt v (base + rs.length) b e = false → _ := fun h1 h2 => hN (rs ++ [(rFrame v (base + rs.length) b e).1], os ++ [e], (rFrame v (base + rs.length) b e).2.1, d)
      rw [ht, hg, hst]
      cases rs with
      | nil =>
        obtain rfl : os = [] := List.eq_nil_of_length_eq_zero (by simpa using i1.symm)
        simp only [List.length_nil, List.nil_append, show ((0 : Nat) : Int) = 0 from rfl, Int.add_zero] at *
        refine Wr.go ?_
        repeat' ((first | (have ee := True.intro; refine Wr.mk ?_) | ((first | refine br_go ?_ ?_ | refine pick_go ?_ ?_) <;> intro ee f <;> (try simp only [BB] at f) <;> (try simp only [numOk, verOk] at f)) | (have ee := True.intro; first | refine call_x (impl_MarkAt _ _ _ (by omega) _ (by omega) (by omega)) rfl ⟨rfl⟩ ?_ | refine call_x (impl_ReadFrame _ _ _ (by omega) _ (by omega) (by omega)) rfl ⟨rfl⟩ ?_)) <;> (try simp (maxSteps := 1000000) (disch := first | omega | (simp only [LN, numOk, verOk, rfP, rvP, rhP, frP, slN, hpN, wsmall, Int.add_zero] <;> omega) | exact Ck.mk rfl) only [ee, VC, T, Nat.reduceMul, Nat.reduceAdd, Nat.reduceSub, Nat.reduceLT, Nat.reduceEqDiff, Nat.reduceLeDiff, Nat.reduceBEq, reduceCtorEq, Int.reduceToNat, ↓reduceIte, rfP, rvP, rhP, frP, slN, hpN, wsmall, Int.add_zero]) <;> (try clear ee))
        · exact fin_t [none, none] ⟨rfl, rfl⟩ rfl (by simp [RV, RV2, RVl, RV1, tau, scanR, scanH, hget, data1, oneOf]) (by simp [RH, tau, scanH, hget]) (by simp [Taus, scanH, hget])
        · refine hN ([(rFrame v base b e).1], [e], (rFrame v base b e).2.1, d) _ ⟨hsc f, by have := hok f; simp only; omega, ?_⟩ (by simp) ?_
          · rw [hg, hst]; simp_all
          · (simp (disch := first | omega | (simp only [LN, numOk, verOk, slN, hpN] <;> omega) | exact Ck.mk rfl) only [SB, EQ, Nat.reduceMul, Nat.reduceAdd, Nat.reduceSub, Nat.reduceLT, Nat.reduceEqDiff, Nat.reduceLeDiff, Nat.reduceBEq, reduceCtorEq, Int.reduceToNat, ↓reduceIte, slN, hpN]; try omega); exact ⟨rfl, rfl⟩
        · exact fin_t [none, none] ⟨rfl, rfl⟩ rfl (by simp [RV, RV2, RVl, RV1, tau, scanR, scanH, hget, data1, oneOf]) (by simp [RH, tau, scanH, hget]) (by simp [Taus, scanH, hget])
      | cons r rs =>
        obtain ⟨o, os, rfl⟩ : ∃ o os', os = o :: os' := by
          cases os with
          | nil => simp at i1
          | cons o os => exact ⟨o, os, rfl⟩
        simp only [List.length_cons, show ((rs.length + 1 : Nat) : Int) = (rs.length : Int) + 1 from rfl] at *
        refine Wr.go ?_
        repeat' ((first | (have ee := True.intro; refine Wr.mk ?_) | ((first | refine br_go ?_ ?_ | refine pick_go ?_ ?_) <;> intro ee f <;> (try simp only [BB] at f) <;> (try simp only [numOk, verOk] at f)) | (have ee := True.intro; first | refine call_x (impl_MarkAt _ _ _ (by omega) _ (by omega) (by omega)) rfl ⟨rfl⟩ ?_ | refine call_x (impl_ReadFrame _ _ _ (by omega) _ (by omega) (by omega)) rfl ⟨rfl⟩ ?_)) <;> (try simp (maxSteps := 1000000) (disch := first | omega | (simp only [LN, numOk, verOk, rfP, rvP, rhP, frP, slN, hpN, wsmall] <;> omega) | exact Ck.mk rfl) only [ee, VC, T, Nat.reduceMul, Nat.reduceAdd, Nat.reduceSub, Nat.reduceLT, Nat.reduceEqDiff, Nat.reduceLeDiff, Nat.reduceBEq, reduceCtorEq, Int.reduceToNat, ↓reduceIte, rfP, rvP, rhP, frP, slN, hpN, wsmall]) <;> (try clear ee))
        · exact fin_t [some 3456, some 3904] ⟨rfl, rfl⟩ rfl (by simp [RV, RV2, RVl, RV1, tau, scanR, scanH, hget, data1, oneOf]) (by simp [RH, tau, scanH, hget]) (by simp [Taus, scanH, hget])
        · refine hN (r :: rs ++ [(rFrame v (base + (rs.length + 1)) b e).1], o :: os ++ [e], (rFrame v (base + (rs.length + 1)) b e).2.1, d) _ ⟨?_, ?_, ?_⟩ (by simp) ?_
          · exact hsc f
          · have := hok f; simp only; omega
          · rw [hg, hst]; simp_all
          · (simp (disch := first | omega | (simp only [LN, numOk, verOk, slN, hpN] <;> omega) | exact Ck.mk rfl) only [SB, EQ, Nat.reduceMul, Nat.reduceAdd, Nat.reduceSub, Nat.reduceLT, Nat.reduceEqDiff, Nat.reduceLeDiff, Nat.reduceBEq, reduceCtorEq, Int.reduceToNat, ↓reduceIte, slN, hpN]; try omega); exact ⟨rfl, rfl⟩
        · exact fin_t [some 3456, some 3904] ⟨rfl, rfl⟩ rfl (by simp [RV, RV2, RVl, RV1, tau, scanR, scanH, hget, data1, oneOf]) (by simp [RH, tau, scanH, hget]) (by simp [Taus, scanH, hget])
  · rw [show scan b = (false, 0, 0, 0, 0, [], [], 0, false) by unfold scan; rw [f]; rfl]
    exact fin_t [none, none] ⟨rfl, rfl⟩ rfl (by simp [RV, RV2, RVl, RV1, tau, scanR, scanH, hget, data1, oneOf]) (by simp [RH, tau, scanH, hget]) (by simp [Taus, scanH, hget])
theorem spec_ScanR (b : ByteArray) (hb : b.size ≤ 1073741824) : FnE Tryz.prog 92 [.str b] [] (fun r m => r = scanR (scan b) ∧ m = scanH (scan b)) := by
  refine fn_e tok (n := 64) (rs := [.cell 2 95]) Tryz.func92 (by decide) rfl rfl rfl rfl (low_of rfl) ?_
  refine Wr.go ?_
  repeat' ((first | (have ee := True.intro; refine Wr.mk ?_) | ((first | refine br_go ?_ ?_ | refine pick_go ?_ ?_) <;> intro ee f <;> (try simp only [BB] at f) <;> (try simp only [numOk, verOk] at f)) | (have ee := True.intro; first | refine call_x (spec_ReadHead b (by omega)) rfl ⟨rfl⟩ ?_)) <;> (try simp (maxSteps := 1000000) (disch := first | omega | (simp only [LN, numOk, verOk, rfP, rvP, rhP, frP] <;> omega) | exact Ck.mk rfl) only [ee, VC, T, Nat.reduceMul, Nat.reduceAdd, Nat.reduceSub, Nat.reduceLT, Nat.reduceEqDiff, Nat.reduceLeDiff, Nat.reduceBEq, reduceCtorEq, Int.reduceToNat, ↓reduceIte, rfP, rvP, rhP, frP]) <;> (try clear ee))
  · have hk := rHead_ok b f
    obtain ⟨k1, k2, _⟩ := hk
    unfold headOk verOk numOk at k2
    have ht : scan b = (true, (rHead b).1, (rHead b).2.1, (rHead b).2.2.1, (rHead b).2.2.2.1, scanGo (rHead b).1 (rHead b).2.2.1 b (b.size + 1) [] [] 24) := by unfold scan; rw [if_pos f]
    generalize (rHead b).1 = v, (rHead b).2.1 = s, (rHead b).2.2.1 = base, (rHead b).2.2.2.1 = l at *
    refine lp_go (fun x : List ByteArray × List Int × Int × Nat => ⟨64, [(0, .str b), (2, .ref 192 0), (3, .ref 256 0), (5, .ref 384 0)], [(384, .box 95 [.bool true, .int .i64 v, .int .i64 s, .int .i64 base, .int .i64 l, slN 3456 x.1.length, slN 3904 x.2.1.length, .int .i64 x.2.2.1, .bool false]), (256, .box 61 [.int .i64 v, .int .i64 s, .int .i64 base, .int .i64 l]), (192, .box 95 [.bool false, .int .i64 0, .int .i64 0, .int .i64 0, .int .i64 0, .nils, .nils, .int .i64 0, .bool false])] ++ hpN 3456 (x.1.map .str) ++ hpN 3904 (x.2.1.map (.int .i64))⟩)
      (fun x => ScInv b x.1 x.2.1 x.2.2.1 ∧ (b.size : Int) < x.2.2.1 + x.2.2.2 ∧ scanGo v base b (b.size + 1) [] [] 24 = scanGo v base b x.2.2.2 x.1 x.2.1 x.2.2.1) (fun x => x.2.2.2) ([], [], 24, b.size + 1) ?_ ?_ ?_
    · (simp (disch := first | omega | (simp only [LN, numOk, verOk, slN, hpN] <;> omega) | exact Ck.mk rfl) only [SB, EQ, Nat.reduceMul, Nat.reduceAdd, Nat.reduceSub, Nat.reduceLT, Nat.reduceEqDiff, Nat.reduceLeDiff, Nat.reduceBEq, reduceCtorEq, Int.reduceToNat, ↓reduceIte, slN, hpN]; try omega)
    · exact ⟨⟨rfl, by simp, by simp only; omega, by simp, by simp, by simp⟩, by simp only; omega, rfl⟩
    · rintro ⟨rs, os, e, d⟩ ⟨hi, hd, hg⟩ N hN
      simp only at hi hd hg
      obtain ⟨i1, i2, i3, i4, i5, i6⟩ := id hi
      obtain ⟨d, rfl⟩ : ∃ d', d = d' + 1 := ⟨d - 1, by omega⟩
      have hst : scanGo v base b (d + 1) rs os e = if markAt v (base + rs.length) b e = true then (rs, os, e, true) else if (rFrame v (base + rs.length) b e).2.2 = true then scanGo v base b d (rs ++ [(rFrame v (base + rs.length) b e).1]) (os ++ [e]) (rFrame v (base + rs.length) b e).2.1 else (rs, os, e, false) := rfl
      have hok := rFrame_ok v (base + rs.length) b e
      have hsc := scInv_step v base b rs os e hi
      have next : (rFrame v (base + rs.length) b e).2.2 = true → markAt v (base + rs.length) b e = false → _ := fun h1 h2 => hN (rs ++ [(rFrame v (base + rs.length) b e).1], os ++ [e], (rFrame v (base + rs.length) b e).2.1, d)
      rw [ht, hg, hst]
      cases rs with
      | nil =>
        obtain rfl : os = [] := List.eq_nil_of_length_eq_zero (by simpa using i1.symm)
        simp only [List.length_nil, List.nil_append, show ((0 : Nat) : Int) = 0 from rfl, Int.add_zero] at *
        refine Wr.go ?_
        repeat' ((first | (have ee := True.intro; refine Wr.mk ?_) | ((first | refine br_go ?_ ?_ | refine pick_go ?_ ?_) <;> intro ee f <;> (try simp only [BB] at f) <;> (try simp only [numOk, verOk] at f)) | (have ee := True.intro; first | refine call_x (spec_MarkAt _ _ _ (by omega) _ (by omega) (by omega)) rfl ⟨rfl⟩ ?_ | refine call_x (spec_ReadFrame _ _ _ (by omega) _ (by omega) (by omega)) rfl ⟨rfl⟩ ?_)) <;> (try simp (maxSteps := 1000000) (disch := first | omega | (simp only [LN, numOk, verOk, rfP, rvP, rhP, frP, slN, hpN, wsmall, Int.add_zero] <;> omega) | exact Ck.mk rfl) only [ee, VC, T, Nat.reduceMul, Nat.reduceAdd, Nat.reduceSub, Nat.reduceLT, Nat.reduceEqDiff, Nat.reduceLeDiff, Nat.reduceBEq, reduceCtorEq, Int.reduceToNat, ↓reduceIte, rfP, rvP, rhP, frP, slN, hpN, wsmall, Int.add_zero]) <;> (try clear ee))
        · exact fin_t [none, none] ⟨rfl, rfl⟩ rfl (by simp [RV, RV2, RVl, RV1, tau, scanR, scanH, hget, data1, oneOf]) (by simp [RH, tau, scanH, hget]) (by simp [Taus, scanH, hget])
        · refine hN ([(rFrame v base b e).1], [e], (rFrame v base b e).2.1, d) _ ⟨hsc f, by have := hok f; simp only; omega, ?_⟩ (by simp) ?_
          · rw [hg, hst]; simp_all
          · (simp (disch := first | omega | (simp only [LN, numOk, verOk, slN, hpN] <;> omega) | exact Ck.mk rfl) only [SB, EQ, Nat.reduceMul, Nat.reduceAdd, Nat.reduceSub, Nat.reduceLT, Nat.reduceEqDiff, Nat.reduceLeDiff, Nat.reduceBEq, reduceCtorEq, Int.reduceToNat, ↓reduceIte, slN, hpN]; try omega); exact ⟨rfl, rfl⟩
        · exact fin_t [none, none] ⟨rfl, rfl⟩ rfl (by simp [RV, RV2, RVl, RV1, tau, scanR, scanH, hget, data1, oneOf]) (by simp [RH, tau, scanH, hget]) (by simp [Taus, scanH, hget])
      | cons r rs =>
        obtain ⟨o, os, rfl⟩ : ∃ o os', os = o :: os' := by
          cases os with
          | nil => simp at i1
          | cons o os => exact ⟨o, os, rfl⟩
        simp only [List.length_cons, show ((rs.length + 1 : Nat) : Int) = (rs.length : Int) + 1 from rfl] at *
        refine Wr.go ?_
        repeat' ((first | (have ee := True.intro; refine Wr.mk ?_) | ((first | refine br_go ?_ ?_ | refine pick_go ?_ ?_) <;> intro ee f <;> (try simp only [BB] at f) <;> (try simp only [numOk, verOk] at f)) | (have ee := True.intro; first | refine call_x (spec_MarkAt _ _ _ (by omega) _ (by omega) (by omega)) rfl ⟨rfl⟩ ?_ | refine call_x (spec_ReadFrame _ _ _ (by omega) _ (by omega) (by omega)) rfl ⟨rfl⟩ ?_)) <;> (try simp (maxSteps := 1000000) (disch := first | omega | (simp only [LN, numOk, verOk, rfP, rvP, rhP, frP, slN, hpN, wsmall] <;> omega) | exact Ck.mk rfl) only [ee, VC, T, Nat.reduceMul, Nat.reduceAdd, Nat.reduceSub, Nat.reduceLT, Nat.reduceEqDiff, Nat.reduceLeDiff, Nat.reduceBEq, reduceCtorEq, Int.reduceToNat, ↓reduceIte, rfP, rvP, rhP, frP, slN, hpN, wsmall]) <;> (try clear ee))
        · exact fin_t [some 3456, some 3904] ⟨rfl, rfl⟩ rfl (by simp [RV, RV2, RVl, RV1, tau, scanR, scanH, hget, data1, oneOf]) (by simp [RH, tau, scanH, hget]) (by simp [Taus, scanH, hget])
        · refine hN (r :: rs ++ [(rFrame v (base + (rs.length + 1)) b e).1], o :: os ++ [e], (rFrame v (base + (rs.length + 1)) b e).2.1, d) _ ⟨?_, ?_, ?_⟩ (by simp) ?_
          · exact hsc f
          · have := hok f; simp only; omega
          · rw [hg, hst]; simp_all
          · (simp (disch := first | omega | (simp only [LN, numOk, verOk, slN, hpN] <;> omega) | exact Ck.mk rfl) only [SB, EQ, Nat.reduceMul, Nat.reduceAdd, Nat.reduceSub, Nat.reduceLT, Nat.reduceEqDiff, Nat.reduceLeDiff, Nat.reduceBEq, reduceCtorEq, Int.reduceToNat, ↓reduceIte, slN, hpN]; try omega); exact ⟨rfl, rfl⟩
        · exact fin_t [some 3456, some 3904] ⟨rfl, rfl⟩ rfl (by simp [RV, RV2, RVl, RV1, tau, scanR, scanH, hget, data1, oneOf]) (by simp [RH, tau, scanH, hget]) (by simp [Taus, scanH, hget])
  · rw [show scan b = (false, 0, 0, 0, 0, [], [], 0, false) by unfold scan; rw [f]; rfl]
    exact fin_t [none, none] ⟨rfl, rfl⟩ rfl (by simp [RV, RV2, RVl, RV1, tau, scanR, scanH, hget, data1, oneOf]) (by simp [RH, tau, scanH, hget]) (by simp [Taus, scanH, hget])
theorem impl_Scan (b : ByteArray) (hb : b.size ≤ 1073741824) : Fn Tryz.prog 140 [.str b] [] (scanP (scan b)) [] := by
  obtain ⟨_, _, ⟨rfl, rfl⟩, h⟩ := impl_ScanR b hb
  refine h.far ?_
  simp [fz, fz2, fz1, cvtl, elems, scanR, scanH, scanP, hget, data1]
theorem spec_Scan (b : ByteArray) (hb : b.size ≤ 1073741824) : Fn Tryz.prog 92 [.str b] [] (scanP (scan b)) [] := by
  obtain ⟨_, _, ⟨rfl, rfl⟩, h⟩ := spec_ScanR b hb
  refine h.far ?_
  simp [fz, fz2, fz1, cvtl, elems, scanR, scanH, scanP, hget, data1]
end Go.Pv

/- What functions of the program and of the reference do, in plain values. -/
namespace Go.Pv
open Go.Proofs Go.Mth
set_option linter.unusedSimpArgs false
set_option linter.unusedVariables false
set_option maxHeartbeats 4000000
set_option maxRecDepth 4000

/-! ### what is told of scans -/
def scEnd (b : ByteArray) : Int := (scan b).2.2.2.2.2.2.2.1
theorem spec_SizeScanned (b : ByteArray) (hb : b.size ≤ 1073741824) : Fn Tryz.prog 82 [.str b] [] (.int .i64 (scEnd b)) [] := by
  refine fn_x tok (n := 6) (rs := [.tmp 2]) Tryz.func82 (by decide) rfl rfl rfl rfl ?_
  refine Wr.go ?_
  repeat' ((first | (have ee := True.intro; refine Wr.mk ?_) | ((first | refine br_go ?_ ?_ | refine pick_go ?_ ?_) <;> intro ee f <;> (try simp only [BB] at f) <;> (try simp only [numOk, verOk] at f)) | (have ee := True.intro; first | refine call_x (spec_Scan _ (by omega)) rfl ⟨rfl⟩ ?_)) <;> (try simp (maxSteps := 1000000) (disch := first | omega | (simp only [LN, numOk, verOk, rfP, rvP, rhP, frP, scanP] <;> omega) | exact Ck.mk rfl) only [ee, VC, T, Nat.reduceMul, Nat.reduceAdd, Nat.reduceSub, Nat.reduceLT, Nat.reduceEqDiff, Nat.reduceLeDiff, Nat.reduceBEq, reduceCtorEq, Int.reduceToNat, ↓reduceIte, rfP, rvP, rhP, frP, scanP]) <;> (try clear ee))
  rfl
theorem impl_OpenOk (b : ByteArray) (hb : b.size ≤ 1073741824) : Fn Tryz.prog 136 [.str b] [] (.bool ((scan b).1 && decide ((scan b).2.2.2.2.2.2.2.1 = b.size))) [] := by
  refine fn_x tok (n := 15) (rs := [.tmp 2]) Tryz.func136 (by decide) rfl rfl rfl rfl ?_
  refine Wr.go ?_
  repeat' ((first | (have ee := True.intro; refine Wr.mk ?_) | ((first | refine br_go ?_ ?_ | refine pick_go ?_ ?_) <;> intro ee f <;> (try simp only [BB] at f) <;> (try simp only [numOk, verOk] at f)) | (have ee := True.intro; first | refine call_x (impl_Scan _ (by omega)) rfl ⟨rfl⟩ ?_)) <;> (try simp (maxSteps := 1000000) (disch := first | omega | (simp only [LN, numOk, verOk, rfP, rvP, rhP, frP, scanP] <;> omega) | exact Ck.mk rfl) only [ee, VC, T, Nat.reduceMul, Nat.reduceAdd, Nat.reduceSub, Nat.reduceLT, Nat.reduceEqDiff, Nat.reduceLeDiff, Nat.reduceBEq, reduceCtorEq, Int.reduceToNat, ↓reduceIte, rfP, rvP, rhP, frP, scanP]) <;> (try clear ee))
theorem spec_RecordsIn (b : ByteArray) (hb : b.size ≤ 1073741824) : Fn Tryz.prog 35 [.str b] [] (.far ((scan b).2.2.2.2.2.1.map .str)) [] := by
  refine fn_x tok (n := 6) (rs := [.tmp 2]) Tryz.func35 (by decide) rfl rfl rfl rfl ?_
  refine Wr.go ?_
  repeat' ((first | (have ee := True.intro; refine Wr.mk ?_) | ((first | refine br_go ?_ ?_ | refine pick_go ?_ ?_) <;> intro ee f <;> (try simp only [BB] at f) <;> (try simp only [numOk, verOk] at f)) | (have ee := True.intro; first | refine call_x (spec_Scan _ (by omega)) rfl ⟨rfl⟩ ?_)) <;> (try simp (maxSteps := 1000000) (disch := first | omega | (simp only [LN, numOk, verOk, rfP, rvP, rhP, frP, scanP] <;> omega) | exact Ck.mk rfl) only [ee, VC, T, Nat.reduceMul, Nat.reduceAdd, Nat.reduceSub, Nat.reduceLT, Nat.reduceEqDiff, Nat.reduceLeDiff, Nat.reduceBEq, reduceCtorEq, Int.reduceToNat, ↓reduceIte, rfP, rvP, rhP, frP, scanP]) <;> (try clear ee))
end Go.Pv

/- What functions of the program and of the reference do, in plain values. -/
namespace Go.Pv
open Go.Proofs Go.Mth
set_option linter.unusedSimpArgs false
set_option linter.unusedVariables false
set_option maxHeartbeats 4000000
set_option maxRecDepth 4000

/-! ### sealed files, read -/
def rsP (x : (Int × Int × Int × Int) × List ByteArray × Bool) : PV := .tup [.agg [.int .i64 x.1.1, .int .i64 x.1.2.1, .int .i64 x.1.2.2.1, .int .i64 x.1.2.2.2], .far (x.2.1.map .str), .bool x.2.2]
def rsR (x : (Int × Int × Int × Int) × List ByteArray × Bool) : PV := .tup [.agg [.int .i64 x.1.1, .int .i64 x.1.2.1, .int .i64 x.1.2.2.1, .int .i64 x.1.2.2.2], .row 64 x.2.1.length, .bool x.2.2]
def rsH (x : (Int × Int × Int × Int) × List ByteArray × Bool) : Hp := [(64, .row ⟨1, 0⟩ (x.2.1.map .str))]
theorem impl_ReadSealedR (b : ByteArray) (hb : b.size ≤ 1073741824) : FnE Tryz.prog 180 [.str b] [] (fun r m => r = rsR (rSealed b) ∧ m = rsH (rSealed b)) := by
  have hS := impl_ScanR b hb
  have hF := scan_f b
  unfold rSealed sealedB scSeal
  generalize scan b = t at *
  obtain ⟨ok, v, s, base, l, rs, os, e, m⟩ := t
  obtain ⟨f1, f2, f3, f4, f5, f6, f7, f8, f9⟩ := hF
  simp only at f1 f2 f3 f4 f5 f6 f7 f8 f9 hS ⊢
  have hT := impl_SealText v s base l rs (by omega)
  refine fn_e tok (n := 25) (rs := [.cell 2 61, .tmp 3, .tmp 4]) Tryz.func180 (by decide) rfl rfl rfl rfl (low_of rfl) ?_
  refine Wr.go ?_
  repeat' ((first | (have ee := True.intro; refine Wr.mk ?_) | ((first | refine br_go ?_ ?_ | refine pick_go ?_ ?_) <;> intro ee f <;> (try simp only [BB] at f) <;> (try simp only [numOk, verOk] at f)) | (have ee := True.intro; first | refine dr_go mixed (id := 4) [([], [5], []), ([0], [21], []), ([], [5], [192]), ([2], [23], [192]), ([0, 1], [2, 22], []), ([0, 1, 2, 3, 4], [24], []), ([0, 1, 2, 3, 4, 5], [], [])] rfl rfl rfl ?_ | (refine call_h [] [] (hS) (by decide) rfl rfl ?_; rintro _ _ ⟨rfl, rfl⟩) | (refine call_hx [] [512] (hT) (by decide) ?_ rfl ?_; (focus (first | rfl | (simp (maxSteps := 1000000) (disch := first | omega | (simp only [LN, numOk, verOk, rfP, rvP, rhP, frP, blH, bytesOf_length, scanR, scanH, scanP, rsP, rsR, rsH] <;> omega) | exact Ck.mk rfl) only [VC, T, Nat.reduceMul, Nat.reduceAdd, Nat.reduceSub, Nat.reduceLT, Nat.reduceEqDiff, Nat.reduceLeDiff, Nat.reduceBEq, reduceCtorEq, Int.reduceToNat, ↓reduceIte, rfP, rvP, rhP, frP, blH, bytesOf_length, scanR, scanH, scanP, rsP, rsR, rsH]; done)))))) <;> (try simp (maxSteps := 1000000) (disch := first | omega | (simp only [LN, numOk, verOk, rfP, rvP, rhP, frP, blH, bytesOf_length, scanR, scanH, scanP, rsP, rsR, rsH] <;> omega) | exact Ck.mk rfl) only [ee, VC, T, Nat.reduceMul, Nat.reduceAdd, Nat.reduceSub, Nat.reduceLT, Nat.reduceEqDiff, Nat.reduceLeDiff, Nat.reduceBEq, reduceCtorEq, Int.reduceToNat, ↓reduceIte, rfP, rvP, rhP, frP, blH, bytesOf_length, scanR, scanH, scanP, rsP, rsR, rsH]) <;> (try clear ee))
  · exact fin_t [some 512] (⟨rfl, rfl⟩) rfl (by simp [RV, RV2, RVl, RV1, tau, tget, hget, data1, oneOf, rsR, rsH]) (by simp [RH, RVl, RV1, tau, hget, data1, rsR, rsH]) (by simp [Taus, hget, rsR, rsH])
  · exact fin_t [none] (⟨rfl, rfl⟩) rfl (by simp [RV, RV2, RVl, RV1, tau, tget, hget, data1, oneOf, rsR, rsH]) (by simp [RH, RVl, RV1, tau, hget, data1, rsR, rsH]) (by simp [Taus, hget, rsR, rsH])
  · exact fin_t [none] (⟨rfl, rfl⟩) rfl (by simp [RV, RV2, RVl, RV1, tau, tget, hget, data1, oneOf, rsR, rsH]) (by simp [RH, RVl, RV1, tau, hget, data1, rsR, rsH]) (by simp [Taus, hget, rsR, rsH])
theorem impl_ReadSealed (b : ByteArray) (hb : b.size ≤ 1073741824) : Fn Tryz.prog 180 [.str b] [] (rsP (rSealed b)) [] := by
  obtain ⟨_, _, ⟨rfl, rfl⟩, h⟩ := impl_ReadSealedR b hb
  refine h.far ?_
  simp [fz, fz2, fz1, cvtl, elems, rsR, rsH, rsP, hget, data1]
theorem spec_ReadSealed (b : ByteArray) (hb : b.size ≤ 1073741824) : Fn Tryz.prog 134 [.str b] [] (rsP (rSealed b)) [] := by
  have hS := spec_Scan b hb
  have hF := scan_f b
  have hM := sealed_ok b
  unfold rSealed
  unfold sealedB scSeal at hM ⊢
  generalize scan b = t at *
  obtain ⟨ok, v, s, base, l, rs, os, e, m⟩ := t
  obtain ⟨f1, f2, f3, f4, f5, f6, f7, f8, f9⟩ := hF
  simp only at f1 f2 f3 f4 f5 f6 f7 f8 f9 hS hM ⊢
  have hT := spec_SealText v s base l rs (by omega) (fun r hr => by have := f6 r hr; omega)
  refine fn_x tok (n := 31) (rs := [.cell 2 61, .tmp 3, .tmp 4]) Tryz.func134 (by decide) rfl rfl rfl rfl ?_
  refine Wr.go ?_
  repeat' ((first | (have ee := True.intro; refine Wr.mk ?_) | ((first | refine br_go ?_ ?_ | refine pick_go ?_ ?_) <;> intro ee f <;> (try simp only [BB] at f) <;> (try simp only [numOk, verOk] at f)) | (have ee := True.intro; first | refine dr_go mixed (id := 4) [([], [5], []), ([0], [27], []), ([], [5], [192]), ([2], [29], [192]), ([0, 1], [2, 28], []), ([0, 1, 2, 3, 4], [30], []), ([0, 1, 2, 3, 4, 5], [], [])] rfl rfl rfl ?_ | refine call_x (hS) rfl ⟨rfl⟩ ?_ | refine call_x (hT) rfl ⟨rfl⟩ ?_)) <;> (try simp (maxSteps := 1000000) (disch := first | omega | (simp only [LN, numOk, verOk, rfP, rvP, rhP, frP, blH, bytesOf_length, scanR, scanH, scanP, rsP, rsR, rsH] <;> omega) | exact Ck.mk rfl) only [ee, VC, T, Nat.reduceMul, Nat.reduceAdd, Nat.reduceSub, Nat.reduceLT, Nat.reduceEqDiff, Nat.reduceLeDiff, Nat.reduceBEq, reduceCtorEq, Int.reduceToNat, ↓reduceIte, rfP, rvP, rhP, frP, blH, bytesOf_length, scanR, scanH, scanP, rsP, rsR, rsH]) <;> (try clear ee))
  have hx : ¬ sealT v s base l rs = b := fun hx => by
    have := (hM (by simp_all)).2.2.2
    rw [f] at this; cases this
  rw [decide_eq_false hx]; rfl
theorem impl_SealedOk (b : ByteArray) (hb : b.size ≤ 1073741824) : Fn Tryz.prog 135 [.str b] [] (.bool (rSealed b).2.2) [] := by
  have h := impl_ReadSealed b hb
  refine fn_x tok (n := 13) (rs := [.tmp 2]) Tryz.func135 (by decide) rfl rfl rfl rfl ?_
  refine Wr.go ?_
  repeat' ((first | (have ee := True.intro; refine Wr.mk ?_) | ((first | refine br_go ?_ ?_ | refine pick_go ?_ ?_) <;> intro ee f <;> (try simp only [BB] at f) <;> (try simp only [numOk, verOk] at f)) | (have ee := True.intro; first | refine call_x (h) rfl ⟨rfl⟩ ?_)) <;> (try simp (maxSteps := 1000000) (disch := first | omega | (simp only [LN, numOk, verOk, rfP, rvP, rhP, frP, blH, bytesOf_length, scanR, scanH, scanP, rsP, rsR, rsH] <;> omega) | exact Ck.mk rfl) only [ee, VC, T, Nat.reduceMul, Nat.reduceAdd, Nat.reduceSub, Nat.reduceLT, Nat.reduceEqDiff, Nat.reduceLeDiff, Nat.reduceBEq, reduceCtorEq, Int.reduceToNat, ↓reduceIte, rfP, rvP, rhP, frP, blH, bytesOf_length, scanR, scanH, scanP, rsP, rsR, rsH]) <;> (try clear ee))
theorem spec_SealedOk (b : ByteArray) (hb : b.size ≤ 1073741824) : Fn Tryz.prog 81 [.str b] [] (.bool (rSealed b).2.2) [] := by
  have h := spec_ReadSealed b hb
  refine fn_x tok (n := 13) (rs := [.tmp 2]) Tryz.func81 (by decide) rfl rfl rfl rfl ?_
  refine Wr.go ?_
  repeat' ((first | (have ee := True.intro; refine Wr.mk ?_) | ((first | refine br_go ?_ ?_ | refine pick_go ?_ ?_) <;> intro ee f <;> (try simp only [BB] at f) <;> (try simp only [numOk, verOk] at f)) | (have ee := True.intro; first | refine call_x (h) rfl ⟨rfl⟩ ?_)) <;> (try simp (maxSteps := 1000000) (disch := first | omega | (simp only [LN, numOk, verOk, rfP, rvP, rhP, frP, blH, bytesOf_length, scanR, scanH, scanP, rsP, rsR, rsH] <;> omega) | exact Ck.mk rfl) only [ee, VC, T, Nat.reduceMul, Nat.reduceAdd, Nat.reduceSub, Nat.reduceLT, Nat.reduceEqDiff, Nat.reduceLeDiff, Nat.reduceBEq, reduceCtorEq, Int.reduceToNat, ↓reduceIte, rfP, rvP, rhP, frP, blH, bytesOf_length, scanR, scanH, scanP, rsP, rsR, rsH]) <;> (try clear ee))
theorem impl_GoesOn (b : ByteArray) (p l : Int) (hb : b.size ≤ 1073741824) : Fn Tryz.prog 141 [.str b, .int .i64 p, .int .i64 l] [] (.bool ((rHead b).2.2.2.2 && decide ((rHead b).2.2.1 = p) && decide ((rHead b).2.2.2.1 = l))) [] := by
  have h := impl_ReadHead b (by omega)
  refine fn_x tok (n := 27) (rs := [.tmp 6]) Tryz.func141 (by decide) rfl rfl rfl rfl ?_
  refine Wr.go ?_
  repeat' ((first | (have ee := True.intro; refine Wr.mk ?_) | ((first | refine br_go ?_ ?_ | refine pick_go ?_ ?_) <;> intro ee f <;> (try simp only [BB] at f) <;> (try simp only [numOk, verOk] at f)) | (have ee := True.intro; first | refine call_x (h) rfl ⟨rfl⟩ ?_)) <;> (try simp (maxSteps := 1000000) (disch := first | omega | (simp only [LN, numOk, verOk, rfP, rvP, rhP, frP, blH, bytesOf_length, scanR, scanH, scanP, rsP, rsR, rsH] <;> omega) | exact Ck.mk rfl) only [ee, VC, T, Nat.reduceMul, Nat.reduceAdd, Nat.reduceSub, Nat.reduceLT, Nat.reduceEqDiff, Nat.reduceLeDiff, Nat.reduceBEq, reduceCtorEq, Int.reduceToNat, ↓reduceIte, rfP, rvP, rhP, frP, blH, bytesOf_length, scanR, scanH, scanP, rsP, rsR, rsH]) <;> (try clear ee))
theorem spec_GoesOn (b : ByteArray) (p l : Int) (hb : b.size ≤ 1073741824) : Fn Tryz.prog 52 [.str b, .int .i64 p, .int .i64 l] [] (.bool ((rHead b).2.2.2.2 && decide ((rHead b).2.2.1 = p) && decide ((rHead b).2.2.2.1 = l))) [] := by
  have h := spec_ReadHead b (by omega)
  refine fn_x tok (n := 27) (rs := [.tmp 6]) Tryz.func52 (by decide) rfl rfl rfl rfl ?_
  refine Wr.go ?_
  repeat' ((first | (have ee := True.intro; refine Wr.mk ?_) | ((first | refine br_go ?_ ?_ | refine pick_go ?_ ?_) <;> intro ee f <;> (try simp only [BB] at f) <;> (try simp only [numOk, verOk] at f)) | (have ee := True.intro; first | refine call_x (h) rfl ⟨rfl⟩ ?_)) <;> (try simp (maxSteps := 1000000) (disch := first | omega | (simp only [LN, numOk, verOk, rfP, rvP, rhP, frP, blH, bytesOf_length, scanR, scanH, scanP, rsP, rsR, rsH] <;> omega) | exact Ck.mk rfl) only [ee, VC, T, Nat.reduceMul, Nat.reduceAdd, Nat.reduceSub, Nat.reduceLT, Nat.reduceEqDiff, Nat.reduceLeDiff, Nat.reduceBEq, reduceCtorEq, Int.reduceToNat, ↓reduceIte, rfP, rvP, rhP, frP, blH, bytesOf_length, scanR, scanH, scanP, rsP, rsR, rsH]) <;> (try clear ee))
end Go.Pv

/- What functions of the program and of the reference do, in plain values. -/
namespace Go.Pv
open Go.Proofs Go.Mth
set_option linter.unusedSimpArgs false
set_option linter.unusedVariables false
set_option maxHeartbeats 4000000
set_option maxRecDepth 4000

/-! ### draws: a cursor over bytes -/
section
variable {hp hr : Hp}
theorem frz1_rv' {x y : PV} (h : frz1 hp x = some y) : RV1 hp hr [] y x ∧ RV2 hp hr [] y x ∧ RV hp hr [] y x := by
  unfold frz1 at h
  split at h
  · cases h; exact ⟨.inr (.inl ⟨rfl, rfl⟩), .inr (.inl ⟨rfl, rfl⟩), .inr (.inl ⟨rfl, rfl⟩)⟩
  · cases h; exact ⟨trivial, trivial, trivial⟩
  · rename_i g n
    split at h
    · rename_i hg
      rw [Option.map_eq_some_iff] at h
      obtain ⟨xs, h1, rfl⟩ := h
      have k : RV1 hp hr [] (.far xs) (.row g n) := .inr (.inr ⟨g, n, rfl, h1, by simp, Nat.le_of_ble_eq_true hg⟩)
      exact ⟨k, k, k⟩
    · cases h
  · split at h
    · rename_i hd
      cases h
      cases x <;> first
        | exact ⟨⟨hd, rfl⟩, ⟨hd, rfl⟩, ⟨hd, rfl⟩⟩
        | exact ⟨.inl rfl, .inl rfl, .inl rfl⟩
        | cases hd
    · cases h
theorem frz2_rv' {x y : PV} (h : frz2 hp x = some y) : RV2 hp hr [] y x ∧ RV hp hr [] y x := by
  cases x
  case agg xs =>
    simp only [frz2, Option.map_eq_some_iff] at h
    obtain ⟨ys, h1, rfl⟩ := h
    have k : RV2 hp hr [] (.agg ys) (.agg xs) := ⟨xs, rfl, cvtl_rvl (fun _ _ h => (frz1_rv' h).1) h1⟩
    exact ⟨k, k⟩
  all_goals (simp only [frz2] at h; exact (frz1_rv' h).2)
theorem frz_rv' {x y : PV} (h : frz hp x = some y) : RV hp hr [] y x := by
  cases x
  case tup xs =>
    simp only [frz, Option.map_eq_some_iff] at h
    obtain ⟨ys, h1, rfl⟩ := h
    exact ⟨xs, rfl, cvtl_rvl (fun _ _ h => (frz2_rv' h).1) h1⟩
  all_goals (simp only [frz] at h; exact (frz2_rv' h).2)
theorem rvl_self : ∀ {cs : List PV}, cs.all data1 = true → RVl (RV1 hp hr []) cs cs
  | [], _ => trivial
  | x :: cs, h => by
    simp only [List.all_cons, Bool.and_eq_true] at h
    refine ⟨?_, rvl_self h.2⟩
    cases x <;> first
      | exact ⟨h.1, rfl⟩
      | exact .inl rfl
      | exact trivial
      | cases h.1
theorem fin_c {T : Tab} {rs : List ResultVar} {ha : Hp} {Q : PV → Hp → Prop} {s : St} {xs cs : List PV} {y : PV} {q : TypeId} (h1 : resv T s rs = some xs) (h2 : frz s.hp (oneOf xs) = some y) (hc : hget s.hp 0 = some (.box q cs)) (hcs : cs.all data1 = true) (hq : Q y [(0, .box q cs)]) : Fin T rs ha Q s :=
  fin_t [] hq h1 (frz_rv' h2) ⟨⟨cs, hc, rvl_self hcs⟩, trivial⟩ trivial
end
def curB (code : List Int) (i h : Int) : HC := .box 142 [.far (code.map (.int .u8)), .int .i64 i, .int .i64 h]
def CurOk (code : List Int) (i h : Int) : Prop := (0 ≤ i ∧ i ≤ code.length) ∧ i64 h
def Bytes (code : List Int) : Prop := code.length ≤ 1048576 ∧ ∀ x ∈ code, 0 ≤ x ∧ x ≤ 255
/-- What a draw brings: a value of which A holds, and a cursor. -/
def CQ (code : List Int) (A : PV → Prop) (r : PV) (m : Hp) : Prop := A r ∧ ∃ i h, m = [(0, curB code i h)] ∧ CurOk code i h
/-- 0 .. n-1; 0 where n is not above 0. -/
def Bel (n x : Int) : Prop := (n ≤ 0 → x = 0) ∧ (0 < n → 0 ≤ x ∧ x < n)
def Mem (xs : List Int) (x : Int) : Prop := x ∈ xs
def MemT (xs : List ByteArray) (x : ByteArray) : Prop := x ∈ xs
def isBool (r : PV) : Prop := ∃ x, r = .bool x
def isInt (A : Int → Prop) (r : PV) : Prop := ∃ x, r = .int .i64 x ∧ A x
def isStr' (A : ByteArray → Prop) (r : PV) : Prop := ∃ x, r = .str x ∧ A x
theorem wrap_i64r (n : Int) : i64 (IntKind.i64.wrap n) := by rw [IntKind.wrap_i64]; unfold i64; omega
theorem and_mask30 (s : Int) : Go.bits .and .i64 s 1073741823 = s % 1073741824 := and_mask64 s 30 (by decide)
theorem l01New (code : List Int) (hb : Bytes code) : FnE Tryz.prog 86 [.far (code.map (.int .u8))] [] (fun r m => r = .ref 64 0 ∧ ∃ h, m = [(64, curB code 0 h)] ∧ CurOk code 0 h) := by
  obtain ⟨hl, hx⟩ := hb
  refine fn_e tok (n := 32) (rs := [.tmp 2]) Tryz.func86 (by decide) rfl rfl rfl rfl (low_of rfl) ?_
  refine Wr.go ?_
  repeat' ((first | (have ee := True.intro; refine Wr.mk ?_) | ((first | refine br_go ?_ ?_ | refine pick_go ?_ ?_) <;> intro ee f <;> (try simp only [BB] at f) <;> (try simp only [numOk, verOk] at f))) <;> (try simp (maxSteps := 1000000) (disch := first | omega | (simp only [LN, numOk, verOk, rfP, rvP, rhP, frP, curB, bkd] <;> omega) | exact Ck.mk rfl) only [ee, VC, T, Nat.reduceMul, Nat.reduceAdd, Nat.reduceSub, Nat.reduceLT, Nat.reduceEqDiff, Nat.reduceLeDiff, Nat.reduceBEq, reduceCtorEq, Int.reduceToNat, ↓reduceIte, rfP, rvP, rhP, frP, curB, bkd]) <;> (try clear ee))
  refine lp_go (fun x : Nat × Int => ⟨32, [(0, .far (code.map (.int .u8))), (3, .int .i64 x.2), (4, .int .i64 x.1)], []⟩) (fun x => x.1 ≤ code.length ∧ 0 ≤ x.2 ∧ x.2 ≤ 1073741824) (fun x => code.length - x.1) (0, 94701 + code.length) ?_ ⟨Nat.zero_le _, by simp only; omega, by simp only; omega⟩ ?_
  · (simp (disch := first | omega | (simp only [LN, numOk, verOk] <;> omega) | exact Ck.mk rfl) only [SB, EQ, Nat.reduceMul, Nat.reduceAdd, Nat.reduceSub, Nat.reduceLT, Nat.reduceEqDiff, Nat.reduceLeDiff, Nat.reduceBEq, reduceCtorEq, Int.reduceToNat, ↓reduceIte]; try omega)
  · rintro ⟨i, h⟩ ⟨h1, h2, h3⟩ N hN
    simp only at h1 h2 h3
    have hg : i < code.length → 0 ≤ code.getD i default ∧ code.getD i default ≤ 255 := fun h => hx _ (getD_mem _ _ h)
    refine Wr.go ?_
    repeat' ((first | (have ee := True.intro; refine Wr.mk ?_) | ((first | refine br_go ?_ ?_ | refine pick_go ?_ ?_) <;> intro ee f <;> (try simp only [BB] at f) <;> (try simp only [numOk, verOk] at f))) <;> (try simp (maxSteps := 1000000) (disch := first | omega | (simp only [LN, numOk, verOk, rfP, rvP, rhP, frP, curB, bkd, and_mask30] <;> omega) | exact Ck.mk rfl) only [ee, VC, T, Nat.reduceMul, Nat.reduceAdd, Nat.reduceSub, Nat.reduceLT, Nat.reduceEqDiff, Nat.reduceLeDiff, Nat.reduceBEq, reduceCtorEq, Int.reduceToNat, ↓reduceIte, rfP, rvP, rhP, frP, curB, bkd, and_mask30]) <;> (try clear ee))
    · refine hN (i + 1, (h * 131 + code.getD i default + 7) % 1073741824) _ ⟨by simp only; omega, by simp only; omega, by simp only; omega⟩ (by simp only; omega) ?_
      (simp (disch := first | omega | (simp only [LN, numOk, verOk] <;> omega) | exact Ck.mk rfl) only [SB, EQ, Nat.reduceMul, Nat.reduceAdd, Nat.reduceSub, Nat.reduceLT, Nat.reduceEqDiff, Nat.reduceLeDiff, Nat.reduceBEq, reduceCtorEq, Int.reduceToNat, ↓reduceIte]; try omega)
    · exact fin_t [some 2048] (⟨rfl, h, rfl, ⟨by omega, by omega⟩, by unfold i64; omega⟩) rfl (by simp [RV, RV2, RVl, RV1, tau, tget, hget, data1, oneOf, curB]) (by simp [RH, RVl, RV1, tau, hget, data1, curB]) (by simp [Taus, hget, curB])
    · exact fin_t [some 2048] (⟨rfl, h, rfl, ⟨by omega, by omega⟩, by unfold i64; omega⟩) rfl (by simp [RV, RV2, RVl, RV1, tau, tget, hget, data1, oneOf, curB]) (by simp [RH, RVl, RV1, tau, hget, data1, curB]) (by simp [Taus, hget, curB])
theorem l01Byte (code : List Int) (hb : Bytes code) (i h : Int) (hc : CurOk code i h) : FnE Tryz.prog 155 [.ref 0 0] [(0, curB code i h)] (CQ code (isInt (Bel 256))) := by
  obtain ⟨⟨h1, h2⟩, h3⟩ := hc
  obtain ⟨hl, hx⟩ := hb
  have hw := wrap_i64r (IntKind.i64.wrap (h * 6364136223846793005) + 1442695040888963407)
  have hg : ∀ n : Nat, n < code.length → 0 ≤ code.getD n default ∧ code.getD n default ≤ 255 := fun n h => hx _ (getD_mem _ _ h)
  refine fn_e tok (n := 58) (rs := [.tmp 2]) Tryz.func155 (by decide) rfl rfl rfl rfl (low_of rfl) ?_
  refine Wr.go ?_
  repeat' ((first | (have ee := True.intro; refine Wr.mk ?_) | ((first | refine br_go ?_ ?_ | refine pick_go ?_ ?_) <;> intro ee f <;> (try simp only [BB] at f) <;> (try simp only [numOk, verOk] at f)) | (have ee := True.intro; first | refine dr_go mixed (id := 2) [([], [0], []), ([0], [13], []), ([0, 1], [14], []), ([0, 1, 2], [15], []), ([0, 1, 2, 3], [16], []), ([], [0], []), ([5], [18], []), ([5, 6], [19], []), ([5, 6, 7], [20], []), ([5, 6, 7, 8], [21], []), ([0, 1, 2, 3, 4, 5, 6, 7, 8, 9], [17, 22], []), ([0, 1, 2, 3, 4, 5, 6, 7, 8, 9, 10], [23], []), ([0, 1, 2, 3, 4, 5, 6, 7, 8, 9, 10, 11], [24], [])] rfl rfl rfl ?_ | refine dr_go mixed (id := 3) [([], [0], []), ([0], [25], []), ([0, 1], [26], []), ([0, 1, 2], [27], []), ([], [0], []), ([4], [29], []), ([4, 5], [30], []), ([4, 5, 6], [31], []), ([4, 5, 6, 7], [32], []), ([0, 1, 2, 3, 4, 5, 6, 7, 8], [28, 33], [])] rfl rfl rfl ?_ | refine dr_go mixed (id := 4) [([], [3], []), ([], [0], []), ([1], [36], []), ([1, 2], [37], []), ([1, 2, 3], [38], []), ([], [0], []), ([5], [40], []), ([5, 6], [41], []), ([5, 6, 7], [42], []), ([1, 2, 3, 4, 5, 6, 7, 8], [39, 43], []), ([1, 2, 3, 4, 5, 6, 7, 8, 9], [44], []), ([1, 2, 3, 4, 5, 6, 7, 8, 9, 10], [45], []), ([0, 1, 2, 3, 4, 5, 6, 7, 8, 9, 10, 11], [35, 46], []), ([0, 1, 2, 3, 4, 5, 6, 7, 8, 9, 10, 11, 12], [47], []), ([0, 1, 2, 3, 4, 5, 6, 7, 8, 9, 10, 11, 12, 13], [48], [])] rfl rfl rfl ?_)) <;> (try simp (maxSteps := 1000000) (disch := first | omega | (simp only [LN, numOk, verOk, rfP, rvP, rhP, frP, curB, bkd, and_255] <;> omega) | exact Ck.mk rfl) only [ee, VC, T, Nat.reduceMul, Nat.reduceAdd, Nat.reduceSub, Nat.reduceLT, Nat.reduceEqDiff, Nat.reduceLeDiff, Nat.reduceBEq, reduceCtorEq, Int.reduceToNat, ↓reduceIte, rfP, rvP, rhP, frP, curB, bkd, and_255]) <;> (try clear ee))
  · refine fin_c rfl (by first | rfl | (simp (maxSteps := 1000000) (disch := first | omega | (simp only [LN, numOk, verOk, rfP, rvP, rhP, frP, curB, bkd] <;> omega) | exact Ck.mk rfl) only [VC, T, Nat.reduceMul, Nat.reduceAdd, Nat.reduceSub, Nat.reduceLT, Nat.reduceEqDiff, Nat.reduceLeDiff, Nat.reduceBEq, reduceCtorEq, Int.reduceToNat, ↓reduceIte, rfP, rvP, rhP, frP, curB, bkd]; done)) rfl rfl ?_
    exact ⟨⟨_, rfl, fun h => by omega, fun _ => by omega⟩, _, _, rfl, ⟨by omega, by omega⟩, hw⟩
  · refine fin_c rfl (by first | rfl | (simp (maxSteps := 1000000) (disch := first | omega | (simp only [LN, numOk, verOk, rfP, rvP, rhP, frP, curB, bkd] <;> omega) | exact Ck.mk rfl) only [VC, T, Nat.reduceMul, Nat.reduceAdd, Nat.reduceSub, Nat.reduceLT, Nat.reduceEqDiff, Nat.reduceLeDiff, Nat.reduceBEq, reduceCtorEq, Int.reduceToNat, ↓reduceIte, rfP, rvP, rhP, frP, curB, bkd]; done)) rfl rfl ?_
    exact ⟨⟨_, rfl, fun h => by omega, fun _ => by omega⟩, _, _, rfl, ⟨by omega, by omega⟩, hw⟩
theorem l01Below (code : List Int) (hb : Bytes code) (n : Int) (hn : n ≤ 1000000000) (i h : Int) (hc : CurOk code i h) : FnE Tryz.prog 106 [.ref 0 0, .int .i64 n] [(0, curB code i h)] (CQ code (isInt (Bel n))) := by
  have ht : ∀ x : Int, 0 ≤ x → x.tmod n = x % n := fun x h => Int.tmod_eq_emod_of_nonneg h
  have hm : ∀ x : Int, 0 < n → 0 ≤ x % n ∧ x % n < n := fun x h => ⟨Int.emod_nonneg _ (by omega), Int.emod_lt_of_pos _ h⟩
  refine fn_e tok (n := 37) (rs := [.tmp 4]) Tryz.func106 (by decide) rfl rfl rfl rfl (low_of rfl) ?_
  refine Wr.go ?_
  repeat' ((first | (have ee := True.intro; refine Wr.mk ?_) | ((first | refine br_go ?_ ?_ | refine pick_go ?_ ?_) <;> intro ee f <;> (try simp only [BB] at f) <;> (try simp only [numOk, verOk] at f)) | (have ee := True.intro; first | (refine call_h [0] [] (l01Byte code hb _ _ (by assumption)) (by decide) rfl rfl ?_; rintro _ _ ⟨⟨x, rfl, hx1, hx2⟩, i', h', rfl, hc'⟩))) <;> (try simp (maxSteps := 1000000) (disch := first | omega | (simp only [LN, numOk, verOk, rfP, rvP, rhP, frP, curB, bkd, ht] <;> omega) | exact Ck.mk rfl) only [ee, VC, T, Nat.reduceMul, Nat.reduceAdd, Nat.reduceSub, Nat.reduceLT, Nat.reduceEqDiff, Nat.reduceLeDiff, Nat.reduceBEq, reduceCtorEq, Int.reduceToNat, ↓reduceIte, rfP, rvP, rhP, frP, curB, bkd, ht]) <;> (try clear ee))
  · refine fin_c rfl (by first | rfl | (simp (maxSteps := 1000000) (disch := first | omega | (simp only [LN, numOk, verOk, rfP, rvP, rhP, frP, curB, bkd] <;> omega) | exact Ck.mk rfl) only [VC, T, Nat.reduceMul, Nat.reduceAdd, Nat.reduceSub, Nat.reduceLT, Nat.reduceEqDiff, Nat.reduceLeDiff, Nat.reduceBEq, reduceCtorEq, Int.reduceToNat, ↓reduceIte, rfP, rvP, rhP, frP, curB, bkd]; done)) rfl rfl ?_
    exact ⟨⟨_, rfl, fun _ => rfl, fun _ => by omega⟩, _, _, rfl, by assumption⟩
  · refine fin_c rfl (by first | rfl | (simp (maxSteps := 1000000) (disch := first | omega | (simp only [LN, numOk, verOk, rfP, rvP, rhP, frP, curB, bkd] <;> omega) | exact Ck.mk rfl) only [VC, T, Nat.reduceMul, Nat.reduceAdd, Nat.reduceSub, Nat.reduceLT, Nat.reduceEqDiff, Nat.reduceLeDiff, Nat.reduceBEq, reduceCtorEq, Int.reduceToNat, ↓reduceIte, rfP, rvP, rhP, frP, curB, bkd]; done)) rfl rfl ?_
    refine ⟨⟨_, rfl, ?_, ?_⟩, _, _, rfl, by assumption⟩
    · intro h; omega
    · intro h; exact hm _ h
  · refine fin_c rfl (by first | rfl | (simp (maxSteps := 1000000) (disch := first | omega | (simp only [LN, numOk, verOk, rfP, rvP, rhP, frP, curB, bkd] <;> omega) | exact Ck.mk rfl) only [VC, T, Nat.reduceMul, Nat.reduceAdd, Nat.reduceSub, Nat.reduceLT, Nat.reduceEqDiff, Nat.reduceLeDiff, Nat.reduceBEq, reduceCtorEq, Int.reduceToNat, ↓reduceIte, rfP, rvP, rhP, frP, curB, bkd]; done)) rfl rfl ?_
    refine ⟨⟨_, rfl, ?_, ?_⟩, _, _, rfl, by assumption⟩
    · intro h; omega
    · intro h; exact hm _ h
theorem l01Once (code : List Int) (hb : Bytes code) (n : Int) (hn : n ≤ 1000000000) (i h : Int) (hc : CurOk code i h) : FnE Tryz.prog 137 [.ref 0 0, .int .i64 n] [(0, curB code i h)] (CQ code isBool) := by
  refine fn_e tok (n := 9) (rs := [.tmp 4]) Tryz.func137 (by decide) rfl rfl rfl rfl (low_of rfl) ?_
  refine Wr.go ?_
  repeat' ((first | (have ee := True.intro; refine Wr.mk ?_) | ((first | refine br_go ?_ ?_ | refine pick_go ?_ ?_) <;> intro ee f <;> (try simp only [BB] at f) <;> (try simp only [numOk, verOk] at f)) | (have ee := True.intro; first | (refine call_h [0] [] (l01Below code hb _ (by omega) _ _ (by assumption)) (by decide) rfl rfl ?_; rintro _ _ ⟨⟨x, rfl, hx1, hx2⟩, i', h', rfl, hc'⟩))) <;> (try simp (maxSteps := 1000000) (disch := first | omega | (simp only [LN, numOk, verOk, rfP, rvP, rhP, frP, curB, bkd] <;> omega) | exact Ck.mk rfl) only [ee, VC, T, Nat.reduceMul, Nat.reduceAdd, Nat.reduceSub, Nat.reduceLT, Nat.reduceEqDiff, Nat.reduceLeDiff, Nat.reduceBEq, reduceCtorEq, Int.reduceToNat, ↓reduceIte, rfP, rvP, rhP, frP, curB, bkd]) <;> (try clear ee))
  refine fin_c rfl (by first | rfl | (simp (maxSteps := 1000000) (disch := first | omega | (simp only [LN, numOk, verOk, rfP, rvP, rhP, frP, curB, bkd] <;> omega) | exact Ck.mk rfl) only [VC, T, Nat.reduceMul, Nat.reduceAdd, Nat.reduceSub, Nat.reduceLT, Nat.reduceEqDiff, Nat.reduceLeDiff, Nat.reduceBEq, reduceCtorEq, Int.reduceToNat, ↓reduceIte, rfP, rvP, rhP, frP, curB, bkd]; done)) rfl rfl ?_
  exact ⟨⟨_, rfl⟩, _, _, rfl, by assumption⟩
theorem l01PickInt (code : List Int) (hb : Bytes code) (xs : List Int) (h0 : xs ≠ []) (hl : xs.length ≤ 1000) (i h : Int) (hc : CurOk code i h) : FnE Tryz.prog 143 [.ref 0 0, .far (xs.map (.int .i64))] [(0, curB code i h)] (CQ code (isInt (Mem xs))) := by
  have hl0 : 0 < xs.length := List.length_pos_iff.2 h0
  refine fn_e tok (n := 12) (rs := [.tmp 4]) Tryz.func143 (by decide) rfl rfl rfl rfl (low_of rfl) ?_
  refine Wr.go ?_
  repeat' ((first | (have ee := True.intro; refine Wr.mk ?_) | ((first | refine br_go ?_ ?_ | refine pick_go ?_ ?_) <;> intro ee f <;> (try simp only [BB] at f) <;> (try simp only [numOk, verOk] at f)) | (have ee := True.intro; first | (refine call_h [0] [] (l01Below code hb _ (by omega) _ _ (by assumption)) (by decide) rfl rfl ?_; rintro _ _ ⟨⟨x, rfl, hx1, hx2⟩, i', h', rfl, hc'⟩))) <;> (try simp (maxSteps := 1000000) (disch := first | omega | (simp only [LN, numOk, verOk, rfP, rvP, rhP, frP, curB, bkd] <;> omega) | exact Ck.mk rfl) only [ee, VC, T, Nat.reduceMul, Nat.reduceAdd, Nat.reduceSub, Nat.reduceLT, Nat.reduceEqDiff, Nat.reduceLeDiff, Nat.reduceBEq, reduceCtorEq, Int.reduceToNat, ↓reduceIte, rfP, rvP, rhP, frP, curB, bkd]) <;> (try clear ee))
  refine Wr.go ?_
  repeat' ((first | (have ee := True.intro; refine Wr.mk ?_) | ((first | refine br_go ?_ ?_ | refine pick_go ?_ ?_) <;> intro ee f <;> (try simp only [BB] at f) <;> (try simp only [numOk, verOk] at f)) | (have ee := True.intro; first | (refine call_h [0] [] (l01Below code hb _ (by omega) _ _ (by assumption)) (by decide) rfl rfl ?_; rintro _ _ ⟨⟨x, rfl, hx1, hx2⟩, i', h', rfl, hc'⟩))) <;> (try simp (maxSteps := 1000000) (disch := first | omega | (simp only [LN, numOk, verOk, rfP, rvP, rhP, frP, curB, bkd] <;> omega) | exact Ck.mk rfl) only [ee, VC, T, Nat.reduceMul, Nat.reduceAdd, Nat.reduceSub, Nat.reduceLT, Nat.reduceEqDiff, Nat.reduceLeDiff, Nat.reduceBEq, reduceCtorEq, Int.reduceToNat, ↓reduceIte, rfP, rvP, rhP, frP, curB, bkd]) <;> (try clear ee))
  refine fin_c rfl (by first | rfl | (simp (maxSteps := 1000000) (disch := first | omega | (simp only [LN, numOk, verOk, rfP, rvP, rhP, frP, curB, bkd] <;> omega) | exact Ck.mk rfl) only [VC, T, Nat.reduceMul, Nat.reduceAdd, Nat.reduceSub, Nat.reduceLT, Nat.reduceEqDiff, Nat.reduceLeDiff, Nat.reduceBEq, reduceCtorEq, Int.reduceToNat, ↓reduceIte, rfP, rvP, rhP, frP, curB, bkd]; done)) rfl rfl ?_
  exact ⟨⟨_, rfl, getD_mem _ _ (by omega)⟩, _, _, rfl, by assumption⟩
theorem l01Pick (code : List Int) (hb : Bytes code) (xs : List ByteArray) (h0 : xs ≠ []) (hl : xs.length ≤ 1000) (i h : Int) (hc : CurOk code i h) : FnE Tryz.prog 182 [.ref 0 0, .far (xs.map .str)] [(0, curB code i h)] (CQ code (isStr' (MemT xs))) := by
  have hl0 : 0 < xs.length := List.length_pos_iff.2 h0
  refine fn_e tok (n := 12) (rs := [.tmp 4]) Tryz.func182 (by decide) rfl rfl rfl rfl (low_of rfl) ?_
  refine Wr.go ?_
  repeat' ((first | (have ee := True.intro; refine Wr.mk ?_) | ((first | refine br_go ?_ ?_ | refine pick_go ?_ ?_) <;> intro ee f <;> (try simp only [BB] at f) <;> (try simp only [numOk, verOk] at f)) | (have ee := True.intro; first | (refine call_h [0] [] (l01Below code hb _ (by omega) _ _ (by assumption)) (by decide) rfl rfl ?_; rintro _ _ ⟨⟨x, rfl, hx1, hx2⟩, i', h', rfl, hc'⟩))) <;> (try simp (maxSteps := 1000000) (disch := first | omega | (simp only [LN, numOk, verOk, rfP, rvP, rhP, frP, curB, bkd] <;> omega) | exact Ck.mk rfl) only [ee, VC, T, Nat.reduceMul, Nat.reduceAdd, Nat.reduceSub, Nat.reduceLT, Nat.reduceEqDiff, Nat.reduceLeDiff, Nat.reduceBEq, reduceCtorEq, Int.reduceToNat, ↓reduceIte, rfP, rvP, rhP, frP, curB, bkd]) <;> (try clear ee))
  refine fin_c rfl (by first | rfl | (simp (maxSteps := 1000000) (disch := first | omega | (simp only [LN, numOk, verOk, rfP, rvP, rhP, frP, curB, bkd] <;> omega) | exact Ck.mk rfl) only [VC, T, Nat.reduceMul, Nat.reduceAdd, Nat.reduceSub, Nat.reduceLT, Nat.reduceEqDiff, Nat.reduceLeDiff, Nat.reduceBEq, reduceCtorEq, Int.reduceToNat, ↓reduceIte, rfP, rvP, rhP, frP, curB, bkd]; done)) rfl rfl ?_
  exact ⟨⟨_, rfl, getD_mem _ _ (by omega)⟩, _, _, rfl, by assumption⟩
def SzIn (n : Int) (x : ByteArray) : Prop := (x.size : Int) ≤ n
theorem l01Text (code : List Int) (hb : Bytes code) (n : Int) (hn : n ≤ 1000000) (i h : Int) (hc : CurOk code i h) : FnE Tryz.prog 222 [.ref 0 0, .int .i64 n] [(0, curB code i h)] (CQ code (isStr' (SzIn (max 0 n)))) := by
  refine fn_e tok (n := 23) (rs := [.tmp 4]) Tryz.func222 (by decide) rfl rfl rfl rfl (low_of rfl) ?_
  refine Wr.go ?_
  repeat' ((first | (have ee := True.intro; refine Wr.mk ?_) | ((first | refine br_go ?_ ?_ | refine pick_go ?_ ?_) <;> intro ee f <;> (try simp only [BB] at f) <;> (try simp only [numOk, verOk] at f))) <;> (try simp (maxSteps := 1000000) (disch := first | omega | (simp only [LN, numOk, verOk, rfP, rvP, rhP, frP, curB, bkd] <;> omega) | exact Ck.mk rfl) only [ee, VC, T, Nat.reduceMul, Nat.reduceAdd, Nat.reduceSub, Nat.reduceLT, Nat.reduceEqDiff, Nat.reduceLeDiff, Nat.reduceBEq, reduceCtorEq, Int.reduceToNat, ↓reduceIte, rfP, rvP, rhP, frP, curB, bkd]) <;> (try clear ee))
  · refine lp_go (fun x : List Int × Int × Int => ⟨23, [(0, .ref 0 0), (1, .int .i64 5000), (5, .row 640 x.1.length), (6, .int .i64 x.1.length)], [(640, .row ⟨1, 0⟩ (x.1.map (.int .u8))), (0, curB code x.2.1 x.2.2)]⟩) (fun x => ((x.1.length : Int) ≤ max 0 5000 ∧ ∀ z ∈ x.1, 0 ≤ z ∧ z ≤ 255) ∧ CurOk code x.2.1 x.2.2) (fun x => (5000 : Int).toNat - x.1.length) ([], i, h) ?_ ⟨⟨by simp only [List.length_nil]; omega, fun _ h => absurd h (by simp)⟩, hc⟩ ?_
    · (simp (disch := first | omega | (simp only [LN, numOk, verOk, curB] <;> omega) | exact Ck.mk rfl) only [SB, EQ, Nat.reduceMul, Nat.reduceAdd, Nat.reduceSub, Nat.reduceLT, Nat.reduceEqDiff, Nat.reduceLeDiff, Nat.reduceBEq, reduceCtorEq, Int.reduceToNat, ↓reduceIte, curB]; try omega)
    · rintro ⟨bs, i, h⟩ ⟨⟨h1, h2⟩, hc⟩ N hN
      simp only at h1 h2 hc
      refine Wr.go ?_
      repeat' ((first | (have ee := True.intro; refine Wr.mk ?_) | ((first | refine br_go ?_ ?_ | refine pick_go ?_ ?_) <;> intro ee f <;> (try simp only [BB] at f) <;> (try simp only [numOk, verOk] at f)) | (have ee := True.intro; first | (refine call_h [0] [] (l01Byte code hb _ _ (by assumption)) (by decide) rfl rfl ?_; rintro _ _ ⟨⟨x, rfl, hx1, hx2⟩, i', h', rfl, hc'⟩))) <;> (try simp (maxSteps := 1000000) (disch := first | omega | (simp only [LN, numOk, verOk, rfP, rvP, rhP, frP, curB, bkd] <;> omega) | exact Ck.mk rfl) only [ee, VC, T, Nat.reduceMul, Nat.reduceAdd, Nat.reduceSub, Nat.reduceLT, Nat.reduceEqDiff, Nat.reduceLeDiff, Nat.reduceBEq, reduceCtorEq, Int.reduceToNat, ↓reduceIte, rfP, rvP, rhP, frP, curB, bkd]) <;> (try clear ee))
      · have hx := hx2 (by decide)
        refine hN (bs ++ [x % 256], i', h') _ ⟨⟨by simp only [List.length_append, List.length_singleton]; omega, fun z hz => ?_⟩, hc'⟩ (by simp only [List.length_append, List.length_singleton]; omega) ?_
        · rcases List.mem_append.1 hz with hz | hz
          · exact h2 z hz
          · rw [List.mem_singleton.1 hz]; omega
        · (simp (disch := first | omega | (simp only [LN, numOk, verOk, curB] <;> omega) | exact Ck.mk rfl) only [SB, EQ, Nat.reduceMul, Nat.reduceAdd, Nat.reduceSub, Nat.reduceLT, Nat.reduceEqDiff, Nat.reduceLeDiff, Nat.reduceBEq, reduceCtorEq, Int.reduceToNat, ↓reduceIte, curB]; try omega)
      · refine ⟨fun z hz => by have := h2 z hz; omega, ?_⟩
        refine fin_c rfl (by first | rfl | (simp (maxSteps := 1000000) (disch := first | omega | (simp only [LN, numOk, verOk, rfP, rvP, rhP, frP, curB, bkd] <;> omega) | exact Ck.mk rfl) only [VC, T, Nat.reduceMul, Nat.reduceAdd, Nat.reduceSub, Nat.reduceLT, Nat.reduceEqDiff, Nat.reduceLeDiff, Nat.reduceBEq, reduceCtorEq, Int.reduceToNat, ↓reduceIte, rfP, rvP, rhP, frP, curB, bkd]; done)) rfl rfl ?_
        exact ⟨⟨_, rfl, by unfold SzIn; rw [strOf_size]; omega⟩, _, _, rfl, hc⟩
  · refine lp_go (fun x : List Int × Int × Int => ⟨23, [(0, .ref 0 0), (1, .int .i64 n), (5, .row 640 x.1.length), (6, .int .i64 x.1.length)], [(640, .row ⟨1, 0⟩ (x.1.map (.int .u8))), (0, curB code x.2.1 x.2.2)]⟩) (fun x => ((x.1.length : Int) ≤ max 0 n ∧ ∀ z ∈ x.1, 0 ≤ z ∧ z ≤ 255) ∧ CurOk code x.2.1 x.2.2) (fun x => (n : Int).toNat - x.1.length) ([], i, h) ?_ ⟨⟨by simp only [List.length_nil]; omega, fun _ h => absurd h (by simp)⟩, hc⟩ ?_
    · (simp (disch := first | omega | (simp only [LN, numOk, verOk, curB] <;> omega) | exact Ck.mk rfl) only [SB, EQ, Nat.reduceMul, Nat.reduceAdd, Nat.reduceSub, Nat.reduceLT, Nat.reduceEqDiff, Nat.reduceLeDiff, Nat.reduceBEq, reduceCtorEq, Int.reduceToNat, ↓reduceIte, curB]; try omega)
    · rintro ⟨bs, i, h⟩ ⟨⟨h1, h2⟩, hc⟩ N hN
      simp only at h1 h2 hc
      refine Wr.go ?_
      repeat' ((first | (have ee := True.intro; refine Wr.mk ?_) | ((first | refine br_go ?_ ?_ | refine pick_go ?_ ?_) <;> intro ee f <;> (try simp only [BB] at f) <;> (try simp only [numOk, verOk] at f)) | (have ee := True.intro; first | (refine call_h [0] [] (l01Byte code hb _ _ (by assumption)) (by decide) rfl rfl ?_; rintro _ _ ⟨⟨x, rfl, hx1, hx2⟩, i', h', rfl, hc'⟩))) <;> (try simp (maxSteps := 1000000) (disch := first | omega | (simp only [LN, numOk, verOk, rfP, rvP, rhP, frP, curB, bkd] <;> omega) | exact Ck.mk rfl) only [ee, VC, T, Nat.reduceMul, Nat.reduceAdd, Nat.reduceSub, Nat.reduceLT, Nat.reduceEqDiff, Nat.reduceLeDiff, Nat.reduceBEq, reduceCtorEq, Int.reduceToNat, ↓reduceIte, rfP, rvP, rhP, frP, curB, bkd]) <;> (try clear ee))
      · have hx := hx2 (by decide)
        refine hN (bs ++ [x % 256], i', h') _ ⟨⟨by simp only [List.length_append, List.length_singleton]; omega, fun z hz => ?_⟩, hc'⟩ (by simp only [List.length_append, List.length_singleton]; omega) ?_
        · rcases List.mem_append.1 hz with hz | hz
          · exact h2 z hz
          · rw [List.mem_singleton.1 hz]; omega
        · (simp (disch := first | omega | (simp only [LN, numOk, verOk, curB] <;> omega) | exact Ck.mk rfl) only [SB, EQ, Nat.reduceMul, Nat.reduceAdd, Nat.reduceSub, Nat.reduceLT, Nat.reduceEqDiff, Nat.reduceLeDiff, Nat.reduceBEq, reduceCtorEq, Int.reduceToNat, ↓reduceIte, curB]; try omega)
      · refine ⟨fun z hz => by have := h2 z hz; omega, ?_⟩
        refine fin_c rfl (by first | rfl | (simp (maxSteps := 1000000) (disch := first | omega | (simp only [LN, numOk, verOk, rfP, rvP, rhP, frP, curB, bkd] <;> omega) | exact Ck.mk rfl) only [VC, T, Nat.reduceMul, Nat.reduceAdd, Nat.reduceSub, Nat.reduceLT, Nat.reduceEqDiff, Nat.reduceLeDiff, Nat.reduceBEq, reduceCtorEq, Int.reduceToNat, ↓reduceIte, rfP, rvP, rhP, frP, curB, bkd]; done)) rfl rfl ?_
        exact ⟨⟨_, rfl, by unfold SzIn; rw [strOf_size]; omega⟩, _, _, rfl, hc⟩
def isHd (A : Int × Int × Int × Int → Prop) (r : PV) : Prop := ∃ v s b l, r = .agg [.int .i64 v, .int .i64 s, .int .i64 b, .int .i64 l] ∧ A (v, s, b, l)
def Hd8 (x : Int × Int × Int × Int) : Prop := (1 ≤ x.1 ∧ x.1 ≤ 2) ∧ (1 ≤ x.2.1 ∧ x.2.1 ≤ 4) ∧ (0 ≤ x.2.2.1 ∧ x.2.2.1 ≤ 8) ∧ (0 ≤ x.2.2.2 ∧ x.2.2.2 ≤ 999999)
theorem l08Head (code : List Int) (hb : Bytes code) (i h : Int) (hc : CurOk code i h) : FnE Tryz.prog 223 [.ref 0 0] [(0, curB code i h)] (CQ code (isHd Hd8)) := by
  refine fn_e tok (n := 14) (rs := [.cell 2 61]) Tryz.func223 (by decide) rfl rfl rfl rfl (low_of rfl) ?_
  refine Wr.go ?_
  repeat' ((first | (have ee := True.intro; refine Wr.mk ?_) | ((first | refine br_go ?_ ?_ | refine pick_go ?_ ?_) <;> intro ee f <;> (try simp only [BB] at f) <;> (try simp only [numOk, verOk] at f)) | (have ee := True.intro; first | (refine call_h [0] [] (l01Below code hb _ (by omega) _ _ (by assumption)) (by decide) rfl rfl ?_; rintro _ _ ⟨⟨x, rfl, hx1, hx2⟩, i', h', rfl, hc'⟩))) <;> (try simp (maxSteps := 1000000) (disch := first | omega | (simp only [LN, numOk, verOk, rfP, rvP, rhP, frP, curB, bkd] <;> omega) | exact Ck.mk rfl) only [ee, VC, T, Nat.reduceMul, Nat.reduceAdd, Nat.reduceSub, Nat.reduceLT, Nat.reduceEqDiff, Nat.reduceLeDiff, Nat.reduceBEq, reduceCtorEq, Int.reduceToNat, ↓reduceIte, rfP, rvP, rhP, frP, curB, bkd]) <;> (try clear ee))
  refine fin_c rfl (by first | rfl | (simp (maxSteps := 1000000) (disch := first | omega | (simp only [LN, numOk, verOk, rfP, rvP, rhP, frP, curB, bkd] <;> omega) | exact Ck.mk rfl) only [VC, T, Nat.reduceMul, Nat.reduceAdd, Nat.reduceSub, Nat.reduceLT, Nat.reduceEqDiff, Nat.reduceLeDiff, Nat.reduceBEq, reduceCtorEq, Int.reduceToNat, ↓reduceIte, rfP, rvP, rhP, frP, curB, bkd]; done)) rfl rfl ?_
  exact ⟨⟨_, _, _, _, rfl, by unfold Hd8; simp only; omega⟩, _, _, rfl, by assumption⟩
def Rec (x : ByteArray) : Prop := x.size ≤ 60
theorem l08Record (code : List Int) (hb : Bytes code) (i h : Int) (hc : CurOk code i h) : FnE Tryz.prog 183 [.ref 0 0] [(0, curB code i h)] (CQ code (isStr' Rec)) := by
  refine fn_e tok (n := 18) (rs := [.tmp 2]) Tryz.func183 (by decide) rfl rfl rfl rfl (low_of rfl) ?_
  refine Wr.go ?_
  repeat' ((first | (have ee := True.intro; refine Wr.mk ?_) | ((first | refine br_go ?_ ?_ | refine pick_go ?_ ?_) <;> intro ee f <;> (try simp only [BB] at f) <;> (try simp only [numOk, verOk] at f)) | (have ee := True.intro; first | (refine call_h [0] [] (l01Below code hb _ (by omega) _ _ (by assumption)) (by decide) rfl rfl ?_; rintro _ _ ⟨⟨x, rfl, hx1, hx2⟩, i', h', rfl, hc'⟩) | (refine call_h [0] [] (l01Text code hb _ (by omega) _ _ (by assumption)) (by decide) rfl rfl ?_; rintro _ _ ⟨⟨t, rfl, ht⟩, i', h', rfl, hc'⟩))) <;> (try simp (maxSteps := 1000000) (disch := first | omega | (simp only [LN, numOk, verOk, rfP, rvP, rhP, frP, curB, bkd] <;> omega) | exact Ck.mk rfl) only [ee, VC, T, Nat.reduceMul, Nat.reduceAdd, Nat.reduceSub, Nat.reduceLT, Nat.reduceEqDiff, Nat.reduceLeDiff, Nat.reduceBEq, reduceCtorEq, Int.reduceToNat, ↓reduceIte, rfP, rvP, rhP, frP, curB, bkd]) <;> (try clear ee))
  all_goals
    refine fin_c rfl (by first | rfl | (simp (maxSteps := 1000000) (disch := first | omega | (simp only [LN, numOk, verOk, rfP, rvP, rhP, frP, curB, bkd] <;> omega) | exact Ck.mk rfl) only [VC, T, Nat.reduceMul, Nat.reduceAdd, Nat.reduceSub, Nat.reduceLT, Nat.reduceEqDiff, Nat.reduceLeDiff, Nat.reduceBEq, reduceCtorEq, Int.reduceToNat, ↓reduceIte, rfP, rvP, rhP, frP, curB, bkd]; done)) rfl rfl ?_
    refine ⟨⟨_, rfl, ?_⟩, _, _, rfl, by assumption⟩
    first
      | exact Nat.zero_le _
      | (unfold SzIn at ht; unfold Rec; omega)
def isTexts (A : List ByteArray → Prop) (r : PV) : Prop := ∃ x, r = .far (x.map .str) ∧ A x
def Recs (n : Int) (x : List ByteArray) : Prop := (x.length : Int) ≤ n ∧ ∀ r ∈ x, r.size ≤ 60
theorem l08Records (code : List Int) (hb : Bytes code) (n : Int) (hn : 0 ≤ n ∧ n ≤ 1000) (i h : Int) (hc : CurOk code i h) : FnE Tryz.prog 184 [.ref 0 0, .int .i64 n] [(0, curB code i h)] (CQ code (isTexts (Recs n))) := by
  refine fn_e tok (n := 22) (rs := [.tmp 4]) Tryz.func184 (by decide) rfl rfl rfl rfl (low_of rfl) ?_
  refine Wr.go ?_
  repeat' ((first | (have ee := True.intro; refine Wr.mk ?_) | ((first | refine br_go ?_ ?_ | refine pick_go ?_ ?_) <;> intro ee f <;> (try simp only [BB] at f) <;> (try simp only [numOk, verOk] at f))) <;> (try simp (maxSteps := 1000000) (disch := first | omega | (simp only [LN, numOk, verOk, rfP, rvP, rhP, frP, curB, bkd] <;> omega) | exact Ck.mk rfl) only [ee, VC, T, Nat.reduceMul, Nat.reduceAdd, Nat.reduceSub, Nat.reduceLT, Nat.reduceEqDiff, Nat.reduceLeDiff, Nat.reduceBEq, reduceCtorEq, Int.reduceToNat, ↓reduceIte, rfP, rvP, rhP, frP, curB, bkd]) <;> (try clear ee))
  refine lp_go (fun x : List ByteArray × Int × Int => ⟨22, [(0, .ref 0 0), (1, .int .i64 n), (5, .row 512 x.1.length), (6, .int .i64 x.1.length)], [(512, .row ⟨1, 0⟩ (x.1.map .str)), (0, curB code x.2.1 x.2.2)]⟩) (fun x => Recs n x.1 ∧ CurOk code x.2.1 x.2.2) (fun x => n.toNat - x.1.length) ([], i, h) ?_ ⟨⟨by simp only [List.length_nil]; omega, fun _ h => absurd h (by simp)⟩, hc⟩ ?_
  · (simp (disch := first | omega | (simp only [LN, numOk, verOk, curB] <;> omega) | exact Ck.mk rfl) only [SB, EQ, Nat.reduceMul, Nat.reduceAdd, Nat.reduceSub, Nat.reduceLT, Nat.reduceEqDiff, Nat.reduceLeDiff, Nat.reduceBEq, reduceCtorEq, Int.reduceToNat, ↓reduceIte, curB]; try omega)
  · rintro ⟨rs, i, h⟩ ⟨⟨h1, h2⟩, hc⟩ N hN
    simp only at h1 h2 hc
    refine Wr.go ?_
    repeat' ((first | (have ee := True.intro; refine Wr.mk ?_) | ((first | refine br_go ?_ ?_ | refine pick_go ?_ ?_) <;> intro ee f <;> (try simp only [BB] at f) <;> (try simp only [numOk, verOk] at f)) | (have ee := True.intro; first | (refine call_h [0] [] (l01Below code hb _ (by omega) _ _ (by assumption)) (by decide) rfl rfl ?_; rintro _ _ ⟨⟨x, rfl, hx1, hx2⟩, i', h', rfl, hc'⟩) | (refine call_h [0] [] (l08Record code hb _ _ (by assumption)) (by decide) rfl rfl ?_; rintro _ _ ⟨⟨t, rfl, ht⟩, i', h', rfl, hc'⟩))) <;> (try simp (maxSteps := 1000000) (disch := first | omega | (simp only [LN, numOk, verOk, rfP, rvP, rhP, frP, curB, bkd] <;> omega) | exact Ck.mk rfl) only [ee, VC, T, Nat.reduceMul, Nat.reduceAdd, Nat.reduceSub, Nat.reduceLT, Nat.reduceEqDiff, Nat.reduceLeDiff, Nat.reduceBEq, reduceCtorEq, Int.reduceToNat, ↓reduceIte, rfP, rvP, rhP, frP, curB, bkd]) <;> (try clear ee))
    · refine hN (rs ++ [t], _, _) _ ⟨⟨by simp only [List.length_append, List.length_singleton]; omega, fun z hz => ?_⟩, by assumption⟩ (by simp only [List.length_append, List.length_singleton]; omega) ?_
      · rcases List.mem_append.1 hz with hz | hz
        · exact h2 z hz
        · rw [List.mem_singleton.1 hz]; exact ht
      · (simp (disch := first | omega | (simp only [LN, numOk, verOk, curB] <;> omega) | exact Ck.mk rfl) only [SB, EQ, Nat.reduceMul, Nat.reduceAdd, Nat.reduceSub, Nat.reduceLT, Nat.reduceEqDiff, Nat.reduceLeDiff, Nat.reduceBEq, reduceCtorEq, Int.reduceToNat, ↓reduceIte, curB]; try omega)
    · refine fin_c (y := .far (rs.map .str)) rfl (by first | rfl | (simp (maxSteps := 1000000) (disch := first | omega | (simp only [LN, numOk, verOk, rfP, rvP, rhP, frP, curB, bkd] <;> omega) | exact Ck.mk rfl) only [VC, T, Nat.reduceMul, Nat.reduceAdd, Nat.reduceSub, Nat.reduceLT, Nat.reduceEqDiff, Nat.reduceLeDiff, Nat.reduceBEq, reduceCtorEq, Int.reduceToNat, ↓reduceIte, rfP, rvP, rhP, frP, curB, bkd]; done)) rfl rfl ?_
      exact ⟨⟨_, rfl, h1, h2⟩, _, _, rfl, by assumption⟩
theorem bits_u8 (op : BinOp) (a b : Int) : isByte (.int .u8 (Go.bits op .u8 a b)) := by
  unfold Go.bits
  show 0 ≤ IntKind.u8.wrap _ ∧ IntKind.u8.wrap _ < 256
  rw [IntKind.wrap_u8]
  omega
theorem l08Bent (code : List Int) (hb : Bytes code) (t : ByteArray) (ht : t.size ≤ 1000000) (i h : Int) (hc : CurOk code i h) : FnE Tryz.prog 186 [.ref 0 0, .str t] [(0, curB code i h)] (CQ code (isStr' (SzIn (t.size + 4)))) := by
  refine fn_e tok (n := 62) (rs := [.tmp 4]) Tryz.func186 (by decide) rfl rfl rfl rfl (low_of rfl) ?_
  refine Wr.go ?_
  repeat' ((first | (have ee := True.intro; refine Wr.mk ?_) | ((first | refine br_go ?_ ?_ | refine pick_go ?_ ?_) <;> intro ee f <;> (try simp only [BB] at f) <;> (try simp only [numOk, verOk] at f)) | (have ee := True.intro; first | refine dr_go mixed (id := 8) [([], [1], []), ([], [5], []), ([0, 1], [26, 27], []), ([], [1], []), ([], [5], []), ([4], [30], []), ([3, 4, 5], [29, 31], []), ([0, 1, 2, 3, 4, 5, 6], [28, 32], []), ([0, 1, 2, 3, 4, 5, 6, 7], [33], [])] rfl rfl rfl ?_ | refine dr_go mixed (id := 11) [([], [1], []), ([], [5], []), ([0, 1], [43, 44], [0]), ([], [1], []), ([], [5], []), ([3, 4], [46, 47], [0]), ([], [0], []), ([6], [49], []), ([6, 7], [50], []), ([6, 7, 8], [51], []), ([3, 4, 5, 6, 7, 8, 9], [48, 52], []), ([3, 4, 5, 6, 7, 8, 9, 10], [53], []), ([3, 4, 5, 6, 7, 8, 9, 10, 11], [54], []), ([0, 1, 2, 3, 4, 5, 6, 7, 8, 9, 10, 11, 12], [45, 55], []), ([], [1], []), ([], [5], []), ([15], [58], [0]), ([14, 15, 16], [57, 59], [0]), ([0, 1, 2, 3, 4, 5, 6, 7, 8, 9, 10, 11, 12, 13, 14, 15, 16, 17], [56, 60], []), ([0, 1, 2, 3, 4, 5, 6, 7, 8, 9, 10, 11, 12, 13, 14, 15, 16, 17, 18], [61], [])] rfl rfl rfl ?_ | (refine call_h [0] [] (l01Once code hb _ (by omega) _ _ (by assumption)) (by decide) rfl rfl ?_; rintro _ _ ⟨⟨x, rfl⟩, i', h', rfl, hc'⟩) | (refine call_h [0] [] (l01Below code hb _ (by omega) _ _ (by assumption)) (by decide) rfl rfl ?_; rintro _ _ ⟨⟨x, rfl, hx1, hx2⟩, i', h', rfl, hc'⟩) | (refine call_h [0] [] (l01Text code hb _ (by omega) _ _ (by assumption)) (by decide) rfl rfl ?_; rintro _ _ ⟨⟨u, rfl, hu⟩, i', h', rfl, hc'⟩))) <;> (try simp (maxSteps := 1000000) (disch := first | omega | (simp only [LN, numOk, verOk, rfP, rvP, rhP, frP, curB, bkd, ByteArray.size_extract, ByteArray.size_append] <;> omega) | exact Ck.mk rfl) only [ee, VC, T, Nat.reduceMul, Nat.reduceAdd, Nat.reduceSub, Nat.reduceLT, Nat.reduceEqDiff, Nat.reduceLeDiff, Nat.reduceBEq, reduceCtorEq, Int.reduceToNat, ↓reduceIte, rfP, rvP, rhP, frP, curB, bkd, ByteArray.size_extract, ByteArray.size_append]) <;> (try clear ee))
  · refine fin_c rfl (by first | rfl | (simp (maxSteps := 1000000) (disch := first | omega | (simp only [LN, numOk, verOk, rfP, rvP, rhP, frP, curB, bkd] <;> omega) | exact Ck.mk rfl) only [VC, T, Nat.reduceMul, Nat.reduceAdd, Nat.reduceSub, Nat.reduceLT, Nat.reduceEqDiff, Nat.reduceLeDiff, Nat.reduceBEq, reduceCtorEq, Int.reduceToNat, ↓reduceIte, rfP, rvP, rhP, frP, curB, bkd]; done)) rfl rfl ?_
    exact ⟨⟨_, rfl, by unfold SzIn; omega⟩, _, _, rfl, by assumption⟩
  · refine fin_c rfl (by first | rfl | (simp (maxSteps := 1000000) (disch := first | omega | (simp only [LN, numOk, verOk, rfP, rvP, rhP, frP, curB, bkd] <;> omega) | exact Ck.mk rfl) only [VC, T, Nat.reduceMul, Nat.reduceAdd, Nat.reduceSub, Nat.reduceLT, Nat.reduceEqDiff, Nat.reduceLeDiff, Nat.reduceBEq, reduceCtorEq, Int.reduceToNat, ↓reduceIte, rfP, rvP, rhP, frP, curB, bkd]; done)) rfl rfl ?_
    exact ⟨⟨_, rfl, by unfold SzIn; omega⟩, _, _, rfl, by assumption⟩
  · refine fin_c rfl (by first | rfl | (simp (maxSteps := 1000000) (disch := first | omega | (simp only [LN, numOk, verOk, rfP, rvP, rhP, frP, curB, bkd] <;> omega) | exact Ck.mk rfl) only [VC, T, Nat.reduceMul, Nat.reduceAdd, Nat.reduceSub, Nat.reduceLT, Nat.reduceEqDiff, Nat.reduceLeDiff, Nat.reduceBEq, reduceCtorEq, Int.reduceToNat, ↓reduceIte, rfP, rvP, rhP, frP, curB, bkd]; done)) rfl rfl ?_
    exact ⟨⟨_, rfl, by unfold SzIn; (try simp only [ByteArray.size_extract]); omega⟩, _, _, rfl, by assumption⟩
  · refine fin_c rfl (by first | rfl | (simp (maxSteps := 1000000) (disch := first | omega | (simp only [LN, numOk, verOk, rfP, rvP, rhP, frP, curB, bkd] <;> omega) | exact Ck.mk rfl) only [VC, T, Nat.reduceMul, Nat.reduceAdd, Nat.reduceSub, Nat.reduceLT, Nat.reduceEqDiff, Nat.reduceLeDiff, Nat.reduceBEq, reduceCtorEq, Int.reduceToNat, ↓reduceIte, rfP, rvP, rhP, frP, curB, bkd]; done)) rfl rfl ?_
    exact ⟨⟨_, rfl, by unfold SzIn; (try simp only [ByteArray.size_append, ByteArray.size_extract]); omega⟩, _, _, rfl, by assumption⟩
  · unfold SzIn at hu
    refine ⟨by omega, ?_⟩
    refine fin_c rfl (by first | rfl | (simp (maxSteps := 1000000) (disch := first | omega | (simp only [LN, numOk, verOk, rfP, rvP, rhP, frP, curB, bkd] <;> omega) | exact Ck.mk rfl) only [VC, T, Nat.reduceMul, Nat.reduceAdd, Nat.reduceSub, Nat.reduceLT, Nat.reduceEqDiff, Nat.reduceLeDiff, Nat.reduceBEq, reduceCtorEq, Int.reduceToNat, ↓reduceIte, rfP, rvP, rhP, frP, curB, bkd]; done)) rfl rfl ?_
    exact ⟨⟨_, rfl, by unfold SzIn; simp only [ByteArray.size_append]; omega⟩, _, _, rfl, by assumption⟩
  · have e1 : ∀ z : Int, (strP [.int .u8 z]).size = 1 := fun z => rfl
    refine ⟨fun z hz => ?_, by rw [e1]; omega, by rw [e1]; omega, ?_⟩
    · rw [List.mem_singleton.1 hz]
      exact bits_u8 _ _ _
    · refine fin_c rfl (by first | rfl | (simp (maxSteps := 1000000) (disch := first | omega | (simp only [LN, numOk, verOk, rfP, rvP, rhP, frP, curB, bkd] <;> omega) | exact Ck.mk rfl) only [VC, T, Nat.reduceMul, Nat.reduceAdd, Nat.reduceSub, Nat.reduceLT, Nat.reduceEqDiff, Nat.reduceLeDiff, Nat.reduceBEq, reduceCtorEq, Int.reduceToNat, ↓reduceIte, rfP, rvP, rhP, frP, curB, bkd]; done)) rfl rfl ?_
      exact ⟨⟨_, rfl, by unfold SzIn; simp only [ByteArray.size_append, ByteArray.size_extract, e1]; omega⟩, _, _, rfl, by assumption⟩
theorem l10Frames (v s b l : Int) (rs : List ByteArray) (hb : 0 ≤ b ∧ b ≤ 1000) (hr : Recs 1000 rs) : FnV Tryz.prog 185 [.agg [.int .i64 v, .int .i64 s, .int .i64 b, .int .i64 l], .far (rs.map .str)] (isStr' (SzIn (46 + 84 * rs.length))) := by
  obtain ⟨hr1, hr2⟩ := hr
  have ht := headT_le v s b l
  refine fn_v tok (n := 29) (rs := [.tmp 4]) Tryz.func185 (by decide) rfl rfl rfl rfl ?_
  refine Wr.go ?_
  repeat' ((first | (have ee := True.intro; refine Wr.mk ?_) | ((first | refine br_go ?_ ?_ | refine pick_go ?_ ?_) <;> intro ee f <;> (try simp only [BB] at f) <;> (try simp only [numOk, verOk] at f)) | (have ee := True.intro; first | refine call_x (spec_HeadText _ _ _ _) rfl ⟨rfl⟩ ?_)) <;> (try simp (maxSteps := 1000000) (disch := first | omega | (simp only [LN, numOk, verOk, rfP, rvP, rhP, frP, curB, bkd] <;> omega) | exact Ck.mk rfl) only [ee, VC, T, Nat.reduceMul, Nat.reduceAdd, Nat.reduceSub, Nat.reduceLT, Nat.reduceEqDiff, Nat.reduceLeDiff, Nat.reduceBEq, reduceCtorEq, Int.reduceToNat, ↓reduceIte, rfP, rvP, rhP, frP, curB, bkd]) <;> (try clear ee))
  refine lp_go (fun x : Nat × ByteArray => ⟨29, [(1, .far (rs.map .str)), (2, .ref 192 0), (5, .str x.2), (6, .int .i64 x.1)], [(192, .box 61 [.int .i64 v, .int .i64 s, .int .i64 b, .int .i64 l])]⟩) (fun x => x.1 ≤ rs.length ∧ x.2.size ≤ 46 + 84 * x.1) (fun x => rs.length - x.1) (0, headT v s b l) ?_ ⟨Nat.zero_le _, ht⟩ ?_
  · (simp (disch := first | omega | (simp only [LN, numOk, verOk] <;> omega) | exact Ck.mk rfl) only [SB, EQ, Nat.reduceMul, Nat.reduceAdd, Nat.reduceSub, Nat.reduceLT, Nat.reduceEqDiff, Nat.reduceLeDiff, Nat.reduceBEq, reduceCtorEq, Int.reduceToNat, ↓reduceIte]; try omega)
  · rintro ⟨i, t⟩ ⟨h1, h2⟩ N hN
    simp only at h1 h2
    have hf := frameT_le v (b + i) (rs.getD i default)
    have hrs : i < rs.length → (rs.getD i default).size ≤ 60 := fun h => hr2 _ (getD_mem _ _ h)
    refine Wr.go ?_
    repeat' ((first | (have ee := True.intro; refine Wr.mk ?_) | ((first | refine br_go ?_ ?_ | refine pick_go ?_ ?_) <;> intro ee f <;> (try simp only [BB] at f) <;> (try simp only [numOk, verOk] at f)) | (have ee := True.intro; first | refine dr_go mixed (id := 5) [([], [5], []), ([], [2], []), ([1], [16], []), ([], [2], []), ([3], [18], []), ([], [6], []), ([3, 4, 5], [19, 20], []), ([], [1], []), ([], [6], []), ([7, 8], [22, 23], []), ([7, 8, 9], [24], []), ([1, 2, 3, 4, 5, 6, 7, 8, 9, 10], [17, 21, 25], []), ([0, 1, 2, 3, 4, 5, 6, 7, 8, 9, 10, 11], [15, 26], []), ([0, 1, 2, 3, 4, 5, 6, 7, 8, 9, 10, 11, 12], [27], [])] rfl rfl rfl ?_ | refine call_x (spec_FrameText _ _ _ (by have := hrs (by omega); omega)) rfl ⟨rfl⟩ ?_)) <;> (try simp (maxSteps := 1000000) (disch := first | omega | (simp only [LN, numOk, verOk, rfP, rvP, rhP, frP, curB, bkd] <;> omega) | exact Ck.mk rfl) only [ee, VC, T, Nat.reduceMul, Nat.reduceAdd, Nat.reduceSub, Nat.reduceLT, Nat.reduceEqDiff, Nat.reduceLeDiff, Nat.reduceBEq, reduceCtorEq, Int.reduceToNat, ↓reduceIte, rfP, rvP, rhP, frP, curB, bkd]) <;> (try clear ee))
    · refine hN (i + 1, t ++ frameT v (b + i) (rs.getD i default)) _ ⟨by simp only; omega, by simp only [ByteArray.size_append]; omega⟩ (by simp only; omega) ?_
      (simp (disch := first | omega | (simp only [LN, numOk, verOk] <;> omega) | exact Ck.mk rfl) only [SB, EQ, Nat.reduceMul, Nat.reduceAdd, Nat.reduceSub, Nat.reduceLT, Nat.reduceEqDiff, Nat.reduceLeDiff, Nat.reduceBEq, reduceCtorEq, Int.reduceToNat, ↓reduceIte]; try omega)
    · exact ⟨_, rfl, by unfold SzIn; omega⟩
theorem l10File (code : List Int) (hb : Bytes code) (i h : Int) (hc : CurOk code i h) : FnE Tryz.prog 188 [.ref 0 0] [(0, curB code i h)] (CQ code (isStr' (SzIn 200000))) := by
  refine fn_e tok (n := 21) (rs := [.tmp 2]) Tryz.func188 (by decide) rfl rfl rfl rfl (low_of rfl) ?_
  refine Wr.go ?_
  repeat' ((first | (have ee := True.intro; refine Wr.mk ?_) | ((first | refine br_go ?_ ?_ | refine pick_go ?_ ?_) <;> intro ee f <;> (try simp only [BB] at f) <;> (try simp only [numOk, verOk] at f)) | (have ee := True.intro; first | (refine call_h [0] [] (l08Head code hb _ _ (by assumption)) (by decide) rfl rfl ?_; rintro _ _ ⟨⟨v, s, b, l, rfl, hx⟩, i', h', rfl, hc'⟩) | (refine call_h [0] [] (l08Records code hb _ (by omega) _ _ (by assumption)) (by decide) rfl rfl ?_; rintro _ _ ⟨⟨rs, rfl, hr1, hr2⟩, i', h', rfl, hc'⟩) | (refine call_h [0] [] (l01Once code hb _ (by omega) _ _ (by assumption)) (by decide) rfl rfl ?_; rintro _ _ ⟨⟨x, rfl⟩, i', h', rfl, hc'⟩) | refine call_x (spec_SealText _ _ _ _ _ (by omega) (fun r hr => by have := hr2 r hr; omega)) rfl ⟨rfl⟩ ?_ | (refine call_v (l10Frames v s b l rs (by unfold Hd8 at hx; simp only at hx; omega) ⟨by omega, hr2⟩) rfl ?_; rintro _ ⟨u, rfl, hu⟩; refine ⟨⟨rfl⟩, ?_⟩) | (refine call_h [0] [] (l08Bent code hb _ (by have := sealT_le v s b l rs; omega) _ _ (by assumption)) (by decide) rfl rfl ?_; rintro _ _ ⟨⟨w, rfl, hw⟩, i', h', rfl, hc'⟩) | (refine call_h [0] [] (l08Bent code hb _ (by unfold SzIn at hu; omega) _ _ (by assumption)) (by decide) rfl rfl ?_; rintro _ _ ⟨⟨w, rfl, hw⟩, i', h', rfl, hc'⟩))) <;> (try simp (maxSteps := 1000000) (disch := first | omega | (simp only [LN, numOk, verOk, rfP, rvP, rhP, frP, curB, bkd] <;> omega) | exact Ck.mk rfl) only [ee, VC, T, Nat.reduceMul, Nat.reduceAdd, Nat.reduceSub, Nat.reduceLT, Nat.reduceEqDiff, Nat.reduceLeDiff, Nat.reduceBEq, reduceCtorEq, Int.reduceToNat, ↓reduceIte, rfP, rvP, rhP, frP, curB, bkd]) <;> (try clear ee))
  · refine fin_c rfl (by first | rfl | (simp (maxSteps := 1000000) (disch := first | omega | (simp only [LN, numOk, verOk, rfP, rvP, rhP, frP, curB, bkd] <;> omega) | exact Ck.mk rfl) only [VC, T, Nat.reduceMul, Nat.reduceAdd, Nat.reduceSub, Nat.reduceLT, Nat.reduceEqDiff, Nat.reduceLeDiff, Nat.reduceBEq, reduceCtorEq, Int.reduceToNat, ↓reduceIte, rfP, rvP, rhP, frP, curB, bkd]; done)) rfl rfl ?_
    have := sealT_le v s b l rs
    exact ⟨⟨_, rfl, by unfold SzIn at *; omega⟩, _, _, rfl, by assumption⟩
  · refine fin_c rfl (by first | rfl | (simp (maxSteps := 1000000) (disch := first | omega | (simp only [LN, numOk, verOk, rfP, rvP, rhP, frP, curB, bkd] <;> omega) | exact Ck.mk rfl) only [VC, T, Nat.reduceMul, Nat.reduceAdd, Nat.reduceSub, Nat.reduceLT, Nat.reduceEqDiff, Nat.reduceLeDiff, Nat.reduceBEq, reduceCtorEq, Int.reduceToNat, ↓reduceIte, rfP, rvP, rhP, frP, curB, bkd]; done)) rfl rfl ?_
    exact ⟨⟨_, rfl, by unfold SzIn at *; omega⟩, _, _, rfl, by assumption⟩
end Go.Pv

/- What functions of the program and of the reference do, in plain values. -/
namespace Go.Pv
open Go.Proofs Go.Mth
set_option linter.unusedSimpArgs false
set_option linter.unusedVariables false
set_option maxHeartbeats 4000000
set_option maxRecDepth 4000

end Go.Pv

/- What functions of the program and of the reference do, in plain values. -/
namespace Go.Pv
open Go.Proofs Go.Mth
set_option linter.unusedSimpArgs false
set_option linter.unusedVariables false
set_option maxHeartbeats 4000000
set_option maxRecDepth 4000

end Go.Pv

/- Names of files, in plain numbers. -/
namespace Go.Mth
open Go.RowKit

/-! ### sixteen digits -/
def hexD (d : Int) : Int := if d < 10 then 48 + d else 87 + d
/-- So many digits, the highest first. -/
def hexL : Nat → Int → List Int
  | 0, _ => []
  | k + 1, n => hexL k (n / 16) ++ [hexD (n % 16)]
theorem hexL_length : ∀ (k : Nat) (n : Int), (hexL k n).length = k
  | 0, _ => rfl
  | k + 1, n => by rw [hexL, List.length_append, hexL_length k]; rfl
theorem hexD_range (d : Int) (h0 : 0 ≤ d) (h1 : d < 16) : 0 ≤ hexD d ∧ hexD d ≤ 255 := by unfold hexD; split <;> omega
theorem hexL_range : ∀ (k : Nat) (n : Int), ∀ x ∈ hexL k n, 0 ≤ x ∧ x ≤ 255
  | 0, _, x, h => by simp [hexL] at h
  | k + 1, n, x, h => by
    rcases List.mem_append.1 h with h | h
    · exact hexL_range k _ x h
    · rw [List.mem_singleton.1 h]; exact hexD_range _ (by omega) (by omega)
/-- The value of a digit; -1 of what is none (small letters alone). -/
def hexV (c : Int) : Int := if 48 ≤ c ∧ c ≤ 57 then c - 48 else if 97 ≤ c ∧ c ≤ 102 then c - 87 else -1
theorem hexV_D (d : Int) (h0 : 0 ≤ d) (h1 : d < 16) : hexV (hexD d) = d := by
  unfold hexV hexD
  split <;> (repeat' split) <;> omega
/-- The number of so many digits; none if one is no digit. -/
def hexN : Int → List Int → Option Int
  | n, [] => some n
  | n, c :: l => if 0 ≤ hexV c then hexN (16 * n + hexV c) l else none
theorem hexN_app : ∀ (l : List Int) (n : Int) (m : List Int), hexN n (l ++ m) = (hexN n l).bind fun k => hexN k m
  | [], _, _ => rfl
  | c :: l, n, m => by
    rw [List.cons_append, hexN, hexN]
    split
    · exact hexN_app l _ m
    · rfl
theorem hexN_L : ∀ (k : Nat) (n : Int), 0 ≤ n → n < 16 ^ k → hexN 0 (hexL k n) = some n
  | 0, n, h0, h1 => by
    have : n = 0 := by simp at h1; omega
    rw [this]; rfl
  | k + 1, n, h0, h1 => by
    have hp : n / 16 < 16 ^ k := by rw [Int.pow_succ] at h1; omega
    rw [hexL, hexN_app, hexN_L k (n / 16) (by omega) hp]
    show hexN (n / 16) [hexD (n % 16)] = some n
    unfold hexN
    rw [hexV_D _ (by omega) (by omega), if_pos (by omega)]
    unfold hexN
    congr 1; omega
/-- The name of a file of a base. -/
def segL (n : Int) : List Int := [115] ++ hexL 8 n ++ [46, 115, 101, 103]
def segT (n : Int) : ByteArray := if numOk n then strOf (segL n) else ⟨#[]⟩
def tmpT (n : Int) : ByteArray := if numOk n then strOf (segL n ++ [46, 116, 109, 112]) else ⟨#[]⟩
theorem segL_range (n : Int) : ∀ x ∈ segL n, 0 ≤ x ∧ x ≤ 255 := fun x h => by
  unfold segL at h
  rcases List.mem_append.1 h with h | h
  · rcases List.mem_append.1 h with h | h
    · rw [List.mem_singleton.1 h]; decide
    · exact hexL_range _ _ x h
  · simp at h; omega
theorem segL_length (n : Int) : (segL n).length = 13 := by
  unfold segL
  rw [List.length_append, List.length_append, hexL_length]; rfl
theorem segT_size (n : Int) (h : numOk n) : (segT n).size = 13 := by
  unfold segT
  rw [if_pos h, strOf_size, segL_length]
theorem tmpT_size (n : Int) (h : numOk n) : (tmpT n).size = 17 := by
  unfold tmpT
  rw [if_pos h, strOf_size, List.length_append, segL_length]; rfl
theorem segT_le (n : Int) : (segT n).size ≤ 13 := by
  by_cases h : numOk n
  · rw [segT_size n h]; exact Nat.le_refl _
  · unfold segT; rw [if_neg h]; exact Nat.zero_le _
theorem tmpT_le (n : Int) : (tmpT n).size ≤ 17 := by
  by_cases h : numOk n
  · rw [tmpT_size n h]; exact Nat.le_refl _
  · unfold tmpT; rw [if_neg h]; exact Nat.zero_le _
theorem bytesOf_segT (n : Int) (h : numOk n) : bytesOf (segT n) = segL n := by
  unfold segT
  rw [if_pos h, bytesOf_strOf _ (segL_range n)]
theorem bytesOf_tmpT (n : Int) (h : numOk n) : bytesOf (tmpT n) = segL n ++ [46, 116, 109, 112] := by
  unfold tmpT
  rw [if_pos h, bytesOf_strOf _ (fun x hx => by
    rcases List.mem_append.1 hx with hx | hx
    · exact segL_range n x hx
    · simp at hx; omega)]
/-- The eight digits of a name. -/
def digits (b : ByteArray) : List Int := ((bytesOf b).drop 1).take 8
theorem digits_seg (n : Int) (h : numOk n) : digits (segT n) = hexL 8 n := by
  unfold digits
  rw [bytesOf_segT n h]
  unfold segL
  rw [List.append_assoc, List.drop_left' (by rfl), List.take_left' (hexL_length 8 n)]
theorem digits_tmp (n : Int) (h : numOk n) : digits (tmpT n) = hexL 8 n := by
  unfold digits
  rw [bytesOf_tmpT n h]
  unfold segL
  rw [List.append_assoc, List.append_assoc, List.drop_left' (by rfl), List.take_left' (hexL_length 8 n)]
theorem hexN_8 (n : Int) (h : numOk n) : hexN 0 (hexL 8 n) = some n := hexN_L 8 n h.1 (by have := h.2; show n < 4294967296; omega)
/-- What a name is, and its base. -/
def nameOf (b : ByteArray) : Int × Int :=
  match hexN 0 (digits b) with
  | some n => if segT n = b ∧ numOk n then (1, n) else if tmpT n = b ∧ numOk n then (2, n) else (0, 0)
  | none => (0, 0)
theorem nameOf_seg (n : Int) (h : numOk n) : nameOf (segT n) = (1, n) := by
  unfold nameOf
  rw [digits_seg n h, hexN_8 n h]
  simp only
  rw [if_pos ⟨trivial, h⟩]
theorem segT_ne_tmpT (n m : Int) (h : numOk n) (k : numOk m) : segT n ≠ tmpT m := fun e => by
  have := congrArg ByteArray.size e
  rw [segT_size n h, tmpT_size m k] at this
  omega
theorem nameOf_tmp (n : Int) (h : numOk n) : nameOf (tmpT n) = (2, n) := by
  unfold nameOf
  rw [digits_tmp n h, hexN_8 n h]
  simp only
  rw [if_neg (fun e => segT_ne_tmpT n n h h e.1), if_pos ⟨trivial, h⟩]
theorem nameOf_other (b : ByteArray) (h1 : ∀ n, numOk n → b ≠ segT n) (h2 : ∀ n, numOk n → b ≠ tmpT n) : nameOf b = (0, 0) := by
  unfold nameOf
  split
  · rename_i n _
    rw [if_neg (fun e => h1 n e.2 e.1.symm), if_neg (fun e => h2 n e.2 e.1.symm)]
  · rfl
theorem nameOf_kind (b : ByteArray) : (nameOf b = (1, (nameOf b).2) ∧ numOk (nameOf b).2 ∧ b = segT (nameOf b).2) ∨ (nameOf b = (2, (nameOf b).2) ∧ numOk (nameOf b).2 ∧ b = tmpT (nameOf b).2) ∨ nameOf b = (0, 0) := by
  unfold nameOf
  split
  · split
    · rename_i h; exact .inl ⟨rfl, h.2, h.1.symm⟩
    · split
      · rename_i h; exact .inr (.inl ⟨rfl, h.2, h.1.symm⟩)
      · exact .inr (.inr rfl)
  · exact .inr (.inr rfl)
end Go.Mth

/- Disks, in plain numbers: nodes, entries, the texts of a row's files. -/
namespace Go.Mth
open Go.RowKit

abbrev Nd := Int × ByteArray × Int
abbrev Et := ByteArray × Int
abbrev Dk := List Nd × List Et × List Et × List ByteArray × Int × Int

/-- The place of the first that is so, from i on; -1 if none is. -/
def findI {α : Type} (p : α → Bool) : List α → Nat → Int
  | [], _ => -1
  | x :: r, i => if p x = true then i else findI p r (i + 1)
theorem findI_step {α : Type} [Inhabited α] (p : α → Bool) (xs : List α) (i : Nat) (h : i < xs.length) : findI p (xs.drop i) i = if p (xs.getD i default) = true then (i : Int) else findI p (xs.drop (i + 1)) (i + 1) := by
  rw [List.drop_eq_getElem_cons h, List.getD_eq_getElem?_getD, List.getElem?_eq_getElem h]; rfl
theorem findI_end {α : Type} (p : α → Bool) (xs : List α) (i : Nat) (h : xs.length ≤ i) : findI p (xs.drop i) i = -1 := by
  rw [List.drop_eq_nil_of_le h]; rfl
theorem findI_cases {α : Type} [Inhabited α] (p : α → Bool) : ∀ (xs : List α) (i : Nat), findI p xs i = -1 ∧ (∀ x ∈ xs, p x = false) ∨ ∃ k : Nat, findI p xs i = ((i + k : Nat) : Int) ∧ k < xs.length ∧ p (xs.getD k default) = true ∧ ∀ j, j < k → p (xs.getD j default) = false
  | [], i => .inl ⟨rfl, fun x h => by simp at h⟩
  | x :: r, i => by
    unfold findI
    cases hp : p x with
    | true =>
      rw [if_pos rfl]
      exact .inr ⟨0, rfl, by simp, by simpa using hp, fun j h => by omega⟩
    | false =>
      rw [if_neg (by simp)]
      rcases findI_cases p r (i + 1) with ⟨h1, h2⟩ | ⟨k, h1, h2, h3, h4⟩
      · exact .inl ⟨h1, fun y hy => by rcases List.mem_cons.1 hy with rfl | hy; exact hp; exact h2 y hy⟩
      · refine .inr ⟨k + 1, by rw [h1]; congr 1; omega, by simp; omega, by simpa using h3, fun j hj => ?_⟩
        cases j with
        | zero => simpa using hp
        | succ j => simpa using h4 j (by omega)
theorem findI_range {α : Type} [Inhabited α] (p : α → Bool) (xs : List α) : findI p xs 0 = -1 ∨ (0 ≤ findI p xs 0 ∧ findI p xs 0 < xs.length ∧ p (xs.getD (findI p xs 0).toNat default) = true) := by
  rcases findI_cases p xs 0 with ⟨h1, _⟩ | ⟨k, h1, h2, h3, _⟩
  · exact .inl h1
  · rw [h1]; exact .inr ⟨by omega, by omega, by simpa using h3⟩

def placeI (es : List Et) (n : ByteArray) : Int := findI (fun e => decide (e.1 = n)) es 0
def nodeI (ns : List Nd) (k : Int) : Int := findI (fun x => decide (x.1 = k)) ns 0
def noNd : Nd := (0, ⟨#[]⟩, 0)
theorem placeI_r (es : List Et) (n : ByteArray) : placeI es n = -1 ∨ (0 ≤ placeI es n ∧ placeI es n < es.length) := by
  rcases findI_range (fun e : Et => decide (e.1 = n)) es with h | ⟨h1, h2, _⟩
  · exact .inl h
  · exact .inr ⟨h1, h2⟩
theorem nodeI_r (ns : List Nd) (k : Int) : nodeI ns k = -1 ∨ (0 ≤ nodeI ns k ∧ nodeI ns k < ns.length) := by
  rcases findI_range (fun x : Nd => decide (x.1 = k)) ns with h | ⟨h1, h2, _⟩
  · exact .inl h
  · exact .inr ⟨h1, h2⟩
/-- The number of a name; 0 without one. -/
def entT (es : List Et) (n : ByteArray) : Int := if placeI es n < 0 then 0 else (es.getD (placeI es n).toNat default).2
/-- The place of the node of a name. -/
def nodeP (d : Dk) (n : ByteArray) : Int := if placeI d.2.1 n < 0 then -1 else nodeI d.1 (d.2.1.getD (placeI d.2.1 n).toNat default).2
theorem nodeP_r (d : Dk) (n : ByteArray) : nodeP d n = -1 ∨ (0 ≤ nodeP d n ∧ nodeP d n < d.1.length) := by
  unfold nodeP
  split
  · exact .inl rfl
  · exact nodeI_r _ _
def nodeT (d : Dk) (n : ByteArray) : Nd × Bool := if nodeP d n < 0 then (noNd, false) else (d.1.getD (nodeP d n).toNat default, true)
def fileT (d : Dk) (n : ByteArray) : ByteArray × Bool := ((nodeT d n).1.2.1, (nodeT d n).2)
def textT (d : Dk) (b : Int) : ByteArray := (fileT d (segT b)).1

/-- How large a disk is. -/
structure DkOk (d : Dk) : Prop where
  ns : d.1.length ≤ 1048576
  es : d.2.1.length ≤ 1048576
  os : d.2.2.1.length ≤ 1048576
  ss : d.2.2.2.1.length ≤ 1048576
  nt : ∀ n ∈ d.1, n.2.1.size ≤ 1048576
  et : ∀ e ∈ d.2.1, e.1.size ≤ 1048576
  ot : ∀ e ∈ d.2.2.1, e.1.size ≤ 1048576
  st : ∀ s ∈ d.2.2.2.1, s.size ≤ 1048576
theorem fileT_le {d : Dk} (h : DkOk d) (n : ByteArray) : (fileT d n).1.size ≤ 1048576 := by
  unfold fileT nodeT
  split
  · exact Nat.zero_le _
  · rename_i hn
    refine h.nt _ ?_
    rcases nodeP_r d n with h1 | ⟨h1, h2⟩
    · omega
    · simp only
      rw [List.getD_eq_getElem?_getD, List.getElem?_eq_getElem (by omega)]
      exact List.getElem_mem _
theorem textT_le {d : Dk} (h : DkOk d) (b : Int) : (textT d b).size ≤ 1048576 := fileT_le h _

/-! ### the files that go on from one another -/
def recs (b : ByteArray) : List ByteArray := (scan b).2.2.2.2.2.1
def goOk (t : ByteArray) (b l : Int) : Prop := ((rHead t).2.2.2.2 = true ∧ (rHead t).2.2.1 = b ∧ (rHead t).2.2.2.1 = l) ∧ 0 < (recs t).length
instance (t : ByteArray) (b l : Int) : Decidable (goOk t b l) := inferInstanceAs (Decidable (_ ∧ _))
def chGo (d : Dk) : Nat → Int → Int → List Int
  | 0, _, _ => []
  | k + 1, b, l => if goOk (textT d b) b l then b :: chGo d k (b + (recs (textT d b)).length) (linkAll l (recs (textT d b))) else []
def chainT (d : Dk) : List Int := chGo d 16 0 0
theorem chGo_length (d : Dk) : ∀ (k : Nat) (b l : Int), (chGo d k b l).length ≤ k
  | 0, _, _ => Nat.le_refl _
  | k + 1, b, l => by
    unfold chGo
    split
    · rw [List.length_cons]; have := chGo_length d k (b + (recs (textT d b)).length) (linkAll l (recs (textT d b))); omega
    · exact Nat.zero_le _
theorem chainT_length (d : Dk) : (chainT d).length ≤ 16 := chGo_length d 16 0 0
/-- One file more. -/
theorem chGo_snoc (d : Dk) (L : List Int) (b l : Int) (h : chainT d = L ++ chGo d (16 - L.length) b l) (hl : L.length < 16) (hg : goOk (textT d b) b l) :
    chainT d = (L ++ [b]) ++ chGo d (16 - (L ++ [b]).length) (b + (recs (textT d b)).length) (linkAll l (recs (textT d b))) := by
  rw [h, show 16 - L.length = (16 - (L ++ [b]).length) + 1 by rw [List.length_append, List.length_singleton]; omega]
  conv => lhs; unfold chGo
  rw [if_pos hg, List.append_assoc]; rfl
theorem chGo_stop (d : Dk) (L : List Int) (b l : Int) (h : chainT d = L ++ chGo d (16 - L.length) b l) (hg : 16 ≤ L.length ∨ ¬ goOk (textT d b) b l) : chainT d = L := by
  rw [h]
  by_cases hl : 16 ≤ L.length
  · rw [show 16 - L.length = 0 by omega]; simp [chGo]
  · rw [show 16 - L.length = (15 - L.length) + 1 by omega]
    unfold chGo
    rw [if_neg (hg.resolve_left hl), List.append_nil]
theorem recs_le (b : ByteArray) : (recs b).length ≤ b.size ∧ (∀ r ∈ recs b, r.size ≤ 60) := ⟨(scan_f b).2.2.2.2.1, (scan_f b).2.2.2.2.2.1⟩
theorem chGo_range {d : Dk} (h : DkOk d) : ∀ (k : Nat) (b l : Int), 0 ≤ b → ∀ x ∈ chGo d k b l, 0 ≤ x ∧ x ≤ b + 1048576 * k
  | 0, _, _, _, x, hx => by simp [chGo] at hx
  | k + 1, b, l, hb, x, hx => by
    unfold chGo at hx
    split at hx
    · rcases List.mem_cons.1 hx with rfl | hx
      · omega
      · have h1 := (recs_le (textT d b)).1
        have h2 := textT_le h b
        have := chGo_range h k (b + (recs (textT d b)).length) (linkAll l (recs (textT d b))) (by omega) x hx
        omega
    · simp at hx
theorem chainT_range {d : Dk} (h : DkOk d) : ∀ x ∈ chainT d, 0 ≤ x ∧ x ≤ 16777216 := fun x hx => by
  have := chGo_range h 16 0 0 (Int.le_refl _) x hx
  omega
theorem rHead_no0 (b : ByteArray) (h : ¬ (rHead b).2.2.2.2 = true) : rHead b = (0, 0, 0, 0, false) := by
  unfold rHead at h ⊢
  split
  · rfl
  · split
    · rename_i h1 h2
      rw [if_neg h1, if_pos h2] at h
      exact absurd rfl h
    · rfl
theorem scan_ver (b : ByteArray) : (scan b).2.1 = (rHead b).1 := by
  unfold scan
  split
  · rfl
  · rename_i h; rw [rHead_no0 b h]
theorem scan_link (b : ByteArray) : (scan b).2.2.2.2.1 = (rHead b).2.2.2.1 := by
  unfold scan
  split
  · rfl
  · rename_i h; rw [rHead_no0 b h]
def versT (d : Dk) : List Int := (chainT d).map fun b => (rHead (textT d b)).1
def oldT (l : List Int) : Int := l.foldr (fun v n => (if v = 1 then 1 else 0) + n) 0
/-! ### digits, as they are laid -/
theorem hexL_zero : ∀ k : Nat, hexL k 0 = List.replicate k 48
  | 0 => rfl
  | k + 1 => by
    rw [hexL, show (0 : Int) / 16 = 0 by rfl, hexL_zero k, show hexD ((0 : Int) % 16) = 48 by rfl, List.replicate_succ']
theorem hexL_pad : ∀ (k m : Nat) (n : Int), 0 ≤ n → n < 16 ^ k → hexL (k + m) n = List.replicate m 48 ++ hexL k n
  | 0, m, n, h0, h1 => by
    have : n = 0 := by simp at h1; omega
    subst this
    rw [Nat.zero_add, hexL_zero]
    simp [hexL]
  | k + 1, m, n, h0, h1 => by
    have hp : n / 16 < 16 ^ k := by rw [Int.pow_succ] at h1; omega
    rw [show k + 1 + m = (k + m) + 1 by omega, hexL, hexL, hexL_pad k m (n / 16) (by omega) hp, List.append_assoc]
/-- Digits that are laid from the lowest on: u is what is left of n behind the digits of L. -/
structure Hx (n u : Int) (L : List Int) : Prop where
  cut : ∀ k, hexL (k + L.length) n = hexL k u ++ L
  val : n < 16 ^ L.length * (u + 1)
  low : 0 ≤ u
  top : 16 ^ L.length * u ≤ n
  one : L = [] ∨ 1 ≤ u
theorem Hx.start {n : Int} (h : 0 ≤ n) : Hx n n [] := ⟨fun k => by simp, by simp; omega, h, by simp, .inl rfl⟩
theorem Hx.step {n u : Int} {L : List Int} (h : Hx n u L) (hu : 16 ≤ u) : Hx n (u / 16) (hexD (u % 16) :: L) := by
  have hp : (0 : Int) < 16 ^ L.length := Int.pow_pos (by decide)
  refine ⟨fun k => ?_, ?_, by omega, ?_, .inr (by omega)⟩
  · rw [List.length_cons, show k + (L.length + 1) = (k + 1) + L.length by omega, h.cut, hexL, List.append_assoc]; rfl
  · rw [List.length_cons, Int.pow_succ, Int.mul_assoc]
    exact Int.lt_of_lt_of_le h.val (Int.mul_le_mul_of_nonneg_left (by omega) (by omega))
  · rw [List.length_cons, Int.pow_succ, Int.mul_assoc]
    exact Int.le_trans (Int.mul_le_mul_of_nonneg_left (by omega) (by omega)) h.top
theorem Hx.len {n u : Int} {L : List Int} (h : Hx n u L) (hn : n < 4294967296) : L.length ≤ 7 := by
  rcases h.one with h1 | h2
  · subst h1; simp
  · refine Decidable.byContradiction fun hc => ?_
    have h1 := h.top
    have e : ((16 ^ 8 : Nat) : Int) ≤ ((16 ^ L.length : Nat) : Int) := Int.ofNat_le.2 (Nat.pow_le_pow_right (by decide) (by omega))
    rw [Int.natCast_pow] at e
    have h3 : (16 : Int) ^ L.length * 1 ≤ 16 ^ L.length * u := Int.mul_le_mul_of_nonneg_left h2 (by have : (0 : Int) < 16 ^ L.length := Int.pow_pos (by decide); omega)
    have h4 : ((16 ^ 8 : Nat) : Int) = 4294967296 := by rfl
    have h5 : ((16 ^ L.length : Nat) : Int) = (16 : Int) ^ L.length := Int.natCast_pow 16 L.length
    omega
theorem Hx.le {n u : Int} {L : List Int} (h : Hx n u L) : u ≤ n := by
  have hp : (0 : Int) < 16 ^ L.length := Int.pow_pos (by decide)
  have h1 : 1 * u ≤ 16 ^ L.length * u := Int.mul_le_mul_of_nonneg_right (by omega) h.low
  have := h.top
  omega
/-- All digits laid. -/
theorem Hx.fin {n u : Int} {L : List Int} (h : Hx n u L) (hu : u < 16) : hexD u :: L = hexL (L.length + 1) n ∧ n < 16 ^ (L.length + 1) := by
  have e := h.cut 1
  have h0 := h.low
  rw [show 1 + L.length = L.length + 1 by omega, show hexL 1 u = [hexD (u % 16)] from rfl, show u % 16 = u by omega] at e
  refine ⟨e.symm, ?_⟩
  have hp : (0 : Int) < 16 ^ L.length := Int.pow_pos (by decide)
  rw [Int.pow_succ]
  exact Int.lt_of_lt_of_le h.val (Int.mul_le_mul_of_nonneg_left (by omega) (by omega))
end Go.Mth

/- Deeds on disks, in plain numbers. -/
namespace Go.Mth
open Go.RowKit

/-! ### right names -/
def nmB (x : Int) : Prop := (97 ≤ x ∧ x ≤ 122) ∨ (48 ≤ x ∧ x ≤ 57) ∨ x = 46 ∨ x = 45
instance (x : Int) : Decidable (nmB x) := inferInstanceAs (Decidable (_ ∨ _))
def nmOk (b : ByteArray) : Prop := (∀ i : Nat, i < b.size → nmB (bt b i)) ∧ 1 ≤ b.size ∧ b.size ≤ 20
instance (b : ByteArray) : Decidable (nmOk b) := inferInstanceAs (Decidable (_ ∧ _))

/-! ### decimals -/
def decN : Int → List Int → Option Int
  | a, [] => some a
  | a, x :: r => if 48 ≤ x ∧ x ≤ 57 then decN (10 * a + (x - 48)) r else none
theorem decN_step (a : Int) (L : List Int) (i : Nat) (h : i < L.length) : decN a (L.drop i) = if 48 ≤ L.getD i default ∧ L.getD i default ≤ 57 then decN (10 * a + (L.getD i default - 48)) (L.drop (i + 1)) else none := by
  rw [List.drop_eq_getElem_cons h, List.getD_eq_getElem?_getD, List.getElem?_eq_getElem h]; rfl
def decL : Nat → Int → List Int
  | 0, _ => []
  | k + 1, n => if n = 0 then [] else decL k (n / 10) ++ [48 + n % 10]
def decT (n : Int) : ByteArray := if n = 0 then strOf [48] else strOf (decL 20 n)
theorem decL_range : ∀ (k : Nat) (n : Int), ∀ x ∈ decL k n, 48 ≤ x ∧ x ≤ 57
  | 0, _, x, h => by simp [decL] at h
  | k + 1, n, x, h => by
    unfold decL at h
    split at h
    · simp at h
    · rcases List.mem_append.1 h with h | h
      · exact decL_range k _ x h
      · rw [List.mem_singleton] at h; omega
theorem decL_len : ∀ (k : Nat) (n : Int), (decL k n).length ≤ k
  | 0, _ => Nat.le_refl _
  | k + 1, n => by
    unfold decL
    split
    · exact Nat.zero_le _
    · rw [List.length_append, List.length_singleton]
      have := decL_len k (n / 10)
      omega
/-- A decimal of a number that is at most 1000000000. -/
def rdec (t : ByteArray) : Int × Bool := match decN 0 (bytesOf t) with
  | some n => if t.size ≤ 10 ∧ n ≤ 1000000000 ∧ decT n = t then (n, true) else (0, false)
  | none => (0, false)

/-! ### entries -/
def hasT (L : List Et) (n : ByteArray) : Prop := 0 ≤ placeI L n
instance (L : List Et) (n : ByteArray) : Decidable (hasT L n) := inferInstanceAs (Decidable (_ ≤ _))
def dropT (L : List Et) (n : ByteArray) : List Et := L.filter fun e => decide (e.1 ≠ n)
def sLt (a b : ByteArray) : Bool := Op.bytesLess a.toList b.toList
/-- With an entry more: ahead of the first that is not below it, and in the place of those of its name. -/
def putG (e : Et) : Bool → List Et → List Et
  | d, [] => if d then [] else [e]
  | d, x :: r => (if d = false ∧ sLt x.1 e.1 = false then [e] else []) ++ (if x.1 = e.1 then [] else [x]) ++ putG e (d || !sLt x.1 e.1) r
def putT (L : List Et) (e : Et) : List Et := putG e false L

/-! ### steps -/
def colI (s : ByteArray) : Int := findI (fun x : Int => decide (x = 58)) ((bytesOf s).drop 1) 1
/-- What a step says: a name, another one, a number, and whether it is right. -/
def stT (s : ByteArray) : ByteArray × ByteArray × Int × Bool :=
  if s.size < 2 ∨ (bt s 0 ≠ 43 ∧ bt s 0 ≠ 45 ∧ bt s 0 ≠ 62) then (⟨#[]⟩, ⟨#[]⟩, 0, false)
  else if bt s 0 = 45 then (s.extract 1 s.size, ⟨#[]⟩, 0, true)
  else if colI s < 0 then (⟨#[]⟩, ⟨#[]⟩, 0, false)
  else if bt s 0 = 62 then (s.extract 1 (colI s).toNat, s.extract ((colI s).toNat + 1) s.size, 0, decide (nmOk (s.extract ((colI s).toNat + 1) s.size)) && !decide (s.extract 1 (colI s).toNat = s.extract ((colI s).toNat + 1) s.size))
  else (s.extract 1 (colI s).toNat, ⟨#[]⟩, (rdec (s.extract ((colI s).toNat + 1) s.size)).1, (rdec (s.extract ((colI s).toNat + 1) s.size)).2 && decide (nmOk (s.extract 1 (colI s).toNat)))
/-- The entries behind a step. -/
def sdT (L : List Et) (s : ByteArray) : Option (List Et) :=
  if (stT s).2.2.2 = true ∧ nmOk (stT s).1 ∧ (bt s 0 = 43 ∨ hasT L (stT s).1) then
    some (if bt s 0 = 43 then putT L ((stT s).1, (stT s).2.2.1) else if bt s 0 = 45 then dropT L (stT s).1 else putT (dropT L (stT s).1) ((stT s).2.1, if bt s 0 = 62 then entT L (stT s).1 else (stT s).2.2.1))
  else none
def sgT : List Et → List ByteArray → List Et × Bool
  | L, [] => (L, true)
  | L, s :: r => match sdT L s with
    | some L2 => sgT L2 r
    | none => ([], false)
theorem sgT_step (L : List Et) (S : List ByteArray) (i : Nat) (h : i < S.length) : sgT L (S.drop i) = match sdT L (S.getD i default) with
    | some L2 => sgT L2 (S.drop (i + 1))
    | none => ([], false) := by
  rw [List.drop_eq_getElem_cons h, List.getD_eq_getElem?_getD, List.getElem?_eq_getElem h]; rfl
/-- The entries behind the first k steps. -/
def stepsT (d : Dk) (k : Nat) : List Et × Bool := sgT d.2.2.1 (d.2.2.2.1.take k)

/-! ### right disks -/
def usedT (d : Dk) : Int := (d.1.map fun x => (x.2.1.size : Int)).sum
def entsOk (d : Dk) (L : List Et) : Prop := (∀ i : Nat, i < L.length → nmOk (L.getD i default).1 ∧ 0 ≤ nodeI d.1 (L.getD i default).2 ∧ (0 < i → sLt (L.getD (i - 1) default).1 (L.getD i default).1 = true)) ∧ L.length ≤ 16
instance (d : Dk) (L : List Et) : Decidable (entsOk d L) := inferInstanceAs (Decidable (_ ∧ _))
def nodesOk (d : Dk) : Prop := ∀ i : Nat, i < d.1.length → (1 ≤ (d.1.getD i default).1 ∧ (d.1.getD i default).1 ≤ d.2.2.2.2.2 - 1) ∧ (0 ≤ (d.1.getD i default).2.2 ∧ (d.1.getD i default).2.2 ≤ (d.1.getD i default).2.1.size) ∧ (0 < i → (d.1.getD (i - 1) default).1 < (d.1.getD i default).1)
instance (d : Dk) : Decidable (nodesOk d) := by unfold nodesOk; infer_instance
def stepsOk (d : Dk) : Prop := ∀ k : Nat, k < d.2.2.2.1.length + 1 → (stepsT d k).2 = true ∧ entsOk d (stepsT d k).1 ∧ (k = d.2.2.2.1.length → (stepsT d k).1 = d.2.1)
instance (d : Dk) : Decidable (stepsOk d) := by unfold stepsOk; infer_instance
def diskOk (d : Dk) : Prop := (d.1.length ≤ 64 ∧ (0 ≤ d.2.2.2.2.1 ∧ d.2.2.2.2.1 ≤ 1000000000) ∧ (1 ≤ d.2.2.2.2.2 ∧ d.2.2.2.2.2 ≤ 1000000000) ∧ usedT d ≤ d.2.2.2.2.1) ∧ nodesOk d ∧ stepsOk d
instance (d : Dk) : Decidable (diskOk d) := inferInstanceAs (Decidable (_ ∧ _))

/-! ### deeds -/
def usedB (d : Dk) (id : Int) : Prop := ∃ k : Nat, k < d.2.2.2.1.length + 1 ∧ ∃ e ∈ (stepsT d k).1, e.2 = id
instance (d : Dk) (id : Int) : Decidable (usedB d id) := by unfold usedB; infer_instance
def cleanT (d : Dk) : Dk := (d.1.filter fun x => decide (usedB d x.1), d.2)
def createT (d : Dk) (n : ByteArray) : Dk × Int :=
  if ¬ diskOk d then (d, 3) else if ¬ nmOk n then (d, 1) else if hasT d.2.1 n then (d, 2)
  else if 16 ≤ d.2.1.length ∨ 64 ≤ d.1.length ∨ 1000000000 ≤ d.2.2.2.2.2 then (d, 4)
  else (cleanT (d.1 ++ [(d.2.2.2.2.2, ⟨#[]⟩, 0)], putT d.2.1 (n, d.2.2.2.2.2), d.2.2.1, d.2.2.2.1 ++ [strOf [43] ++ n ++ strOf [58] ++ decT d.2.2.2.2.2], d.2.2.2.2.1, d.2.2.2.2.2 + 1), 0)
def setNd (d : Dk) (k : Nat) (x : Nd) : Dk := (d.1.set k x, d.2)
def appendT (d : Dk) (n t : ByteArray) : Dk × Int :=
  if ¬ diskOk d ∨ ¬ hasT d.2.1 n then (d, 3)
  else if (t.size : Int) > d.2.2.2.2.1 - usedT d then (setNd d (nodeI d.1 (entT d.2.1 n)).toNat ((d.1.getD (nodeI d.1 (entT d.2.1 n)).toNat default).1, (d.1.getD (nodeI d.1 (entT d.2.1 n)).toNat default).2.1 ++ t.extract 0 (d.2.2.2.2.1 - usedT d).toNat, (d.1.getD (nodeI d.1 (entT d.2.1 n)).toNat default).2.2), 5)
  else (setNd d (nodeI d.1 (entT d.2.1 n)).toNat ((d.1.getD (nodeI d.1 (entT d.2.1 n)).toNat default).1, (d.1.getD (nodeI d.1 (entT d.2.1 n)).toNat default).2.1 ++ t, (d.1.getD (nodeI d.1 (entT d.2.1 n)).toNat default).2.2), 0)
def syncT (d : Dk) (n : ByteArray) : Dk × Int :=
  if ¬ diskOk d ∨ ¬ hasT d.2.1 n then (d, 3)
  else (setNd d (nodeI d.1 (entT d.2.1 n)).toNat ((d.1.getD (nodeI d.1 (entT d.2.1 n)).toNat default).1, (d.1.getD (nodeI d.1 (entT d.2.1 n)).toNat default).2.1, (d.1.getD (nodeI d.1 (entT d.2.1 n)).toNat default).2.1.size), 0)
def renameT (d : Dk) (a b : ByteArray) : Dk × Int :=
  if ¬ diskOk d ∨ ¬ hasT d.2.1 a then (d, 3) else if ¬ nmOk b ∨ a = b then (d, 1)
  else (cleanT (d.1, putT (dropT d.2.1 a) (b, entT d.2.1 a), d.2.2.1, d.2.2.2.1 ++ [strOf [62] ++ a ++ strOf [58] ++ b], d.2.2.2.2), 0)
def removeT (d : Dk) (n : ByteArray) : Dk × Int :=
  if ¬ diskOk d ∨ ¬ hasT d.2.1 n then (d, 3)
  else (cleanT (d.1, dropT d.2.1 n, d.2.2.1, d.2.2.2.1 ++ [strOf [45] ++ n], d.2.2.2.2), 0)
def syncNamesT (d : Dk) : Dk := if ¬ diskOk d then d else cleanT (d.1, d.2.1, d.2.1, [], d.2.2.2.2)
def newT (r : Int) : Dk := ([], [], [], [], if r < 0 then 0 else r, 1)
end Go.Mth

/- Laws of rows and of deeds, in plain numbers. -/
namespace Go.Mth
open Go.RowKit

/-! ### texts in order -/
theorem bl_trans : ∀ {a b c : List UInt8}, Op.bytesLess a b = true → Op.bytesLess b c = true → Op.bytesLess a c = true
  | _, [], _, h, _ => by cases ‹List UInt8› <;> simp [Op.bytesLess] at h
  | _, _ :: _, [], _, h => by simp [Op.bytesLess] at h
  | [], _ :: _, _ :: _, _, _ => by simp [Op.bytesLess]
  | x :: a, y :: b, z :: c, h1, h2 => by
    simp only [Op.bytesLess, Bool.or_eq_true, Bool.and_eq_true, decide_eq_true_eq, beq_iff_eq] at *
    rcases h1 with h1 | ⟨rfl, h1⟩
    · rcases h2 with h2 | ⟨rfl, h2⟩
      · exact .inl (UInt8.lt_trans h1 h2)
      · exact .inl h1
    · rcases h2 with h2 | ⟨rfl, h2⟩
      · exact .inl h2
      · exact .inr ⟨rfl, bl_trans h1 h2⟩
theorem sLt_trans {a b c : ByteArray} (h1 : sLt a b = true) (h2 : sLt b c = true) : sLt a c = true := bl_trans h1 h2
/-- Names, each ahead of the next one. -/
theorem asc_pairs : ∀ (L : List ByteArray), (∀ i : Nat, i + 1 < L.length → sLt (L.getD i default) (L.getD (i + 1) default) = true) → L.Pairwise fun a b => sLt a b = true
  | [], _ => List.Pairwise.nil
  | [a], _ => List.pairwise_singleton _ _
  | a :: b :: r, h => by
    have ih := asc_pairs (b :: r) (fun i hi => h (i + 1) (by simpa using hi))
    have h0 : sLt a b = true := h 0 (by simp)
    refine List.pairwise_cons.2 ⟨fun c hc => ?_, ih⟩
    rcases List.mem_cons.1 hc with rfl | hc
    · exact h0
    · exact sLt_trans h0 ((List.pairwise_cons.1 ih).1 c hc)
theorem entsOk_pairs {d : Dk} {L : List Et} (h : entsOk d L) : (L.map (·.1)).Pairwise fun a b => sLt a b = true := by
  refine asc_pairs _ fun i hi => ?_
  rw [List.length_map] at hi
  have := (h.1 (i + 1) hi).2.2 (by omega)
  rw [Nat.add_sub_cancel] at this
  have e : ∀ k, k < L.length → (L.map (·.1)).getD k default = (L.getD k default).1 := fun k hk => by
    rw [List.getD_eq_getElem?_getD, List.getElem?_map, List.getElem?_eq_getElem hk, List.getD_eq_getElem?_getD, List.getElem?_eq_getElem hk]; rfl
  rw [e i (by omega), e (i + 1) hi]
  exact this
theorem diskOk_ents {d : Dk} (h : diskOk d) : entsOk d d.2.1 := by
  obtain ⟨h1, h2, h3⟩ := h.2.2 d.2.2.2.1.length (Nat.lt_succ_self _)
  rw [h3 rfl] at h2
  exact h2
theorem entT_has (L : List Et) (n : ByteArray) (h : hasT L n) : ∃ i : Nat, i < L.length ∧ entT L n = (L.getD i default).2 := by
  unfold hasT at h
  rcases placeI_r L n with h1 | ⟨h1, h2⟩
  · omega
  · exact ⟨(placeI L n).toNat, by omega, by unfold entT; rw [if_neg (by omega)]⟩
/-- The node of a name of a right disk is there. -/
theorem node_there {d : Dk} {n : ByteArray} (h : diskOk d) (hn : hasT d.2.1 n) : 0 ≤ nodeI d.1 (entT d.2.1 n) ∧ nodeI d.1 (entT d.2.1 n) < d.1.length := by
  obtain ⟨i, hi, e⟩ := entT_has _ _ hn
  have h1 := ((diskOk_ents h).1 i hi).2.1
  rw [← e] at h1
  rcases nodeI_r d.1 (entT d.2.1 n) with h2 | h2
  · omega
  · exact h2
end Go.Mth

/- Disks made of constants, in plain numbers. -/
namespace Go.Mth
open Go.RowKit

def nm0t : ByteArray := ⟨#[115, 48, 48, 48, 48, 48, 48, 48, 48, 46, 115, 101, 103, 46, 116, 109, 112]⟩
def st0t : ByteArray := ⟨#[43, 115, 48, 48, 48, 48, 48, 48, 48, 48, 46, 115, 101, 103, 46, 116, 109, 112, 58, 49]⟩
def one : ByteArray := ⟨#[97]⟩
def dk0t : Dk := ([(1, ⟨#[]⟩, 0)], [(nm0t, 1)], [], [st0t], 500, 2)
set_option maxRecDepth 100000 in
set_option synthInstance.maxHeartbeats 200000 in
set_option synthInstance.maxSize 1000 in
theorem create0t : createT (newT 500) nm0t = (dk0t, 0) := by decide +kernel
end Go.Mth

/- Bounds of what deeds make, in plain numbers. -/
namespace Go.Mth
open Go.RowKit
set_option linter.unusedVariables false

theorem colI_def (s : ByteArray) : colI s = findI (fun x : Int => decide (x = 58)) ((bytesOf s).drop 1) 1 := rfl
def stNo (s : ByteArray) : Prop := s.size < 2 ∨ (bt s 0 ≠ 43 ∧ bt s 0 ≠ 45 ∧ bt s 0 ≠ 62)
theorem stT_A (s : ByteArray) (h : stNo s) : stT s = (⟨#[]⟩, ⟨#[]⟩, 0, false) := if_pos h
theorem stT_B (s : ByteArray) (h : ¬ stNo s) (h2 : bt s 0 = 45) : stT s = (s.extract 1 s.size, ⟨#[]⟩, 0, true) := by
  unfold stNo at h; unfold stT; rw [if_neg h, if_pos h2]
theorem stT_C (s : ByteArray) (h : ¬ stNo s) (h2 : ¬ bt s 0 = 45) (h3 : colI s = -1) : stT s = (⟨#[]⟩, ⟨#[]⟩, 0, false) := by
  unfold stNo at h; unfold stT; rw [if_neg h, if_neg h2, if_pos (by omega)]
theorem stT_D (s : ByteArray) (h : ¬ stNo s) (h2 : bt s 0 = 62) (c : Nat) (h3 : colI s = (c : Int)) : stT s = (s.extract 1 c, s.extract (c + 1) s.size, 0, decide (nmOk (s.extract (c + 1) s.size)) && !decide (s.extract 1 c = s.extract (c + 1) s.size)) := by
  unfold stNo at h; unfold stT; rw [if_neg h, if_neg (by omega), if_neg (by omega), if_pos h2, h3, Int.toNat_natCast]
theorem stT_E (s : ByteArray) (h : ¬ stNo s) (h2 : bt s 0 = 43) (c : Nat) (h3 : colI s = (c : Int)) : stT s = (s.extract 1 c, ⟨#[]⟩, (rdec (s.extract (c + 1) s.size)).1, (rdec (s.extract (c + 1) s.size)).2 && decide (nmOk (s.extract 1 c))) := by
  unfold stNo at h; unfold stT; rw [if_neg h, if_neg (by omega), if_neg (by omega), if_neg (by omega), h3, Int.toNat_natCast]
theorem ex_le (s : ByteArray) (i j : Nat) : (s.extract i j).size ≤ s.size := by rw [ByteArray.size_extract]; omega
theorem putG_step (e : Et) (d : Bool) (L : List Et) (i : Nat) (h : i < L.length) : putG e d (L.drop i) = (if d = false ∧ sLt (L.getD i default).1 e.1 = false then [e] else []) ++ (if (L.getD i default).1 = e.1 then [] else [L.getD i default]) ++ putG e (d || !sLt (L.getD i default).1 e.1) (L.drop (i + 1)) := by
  rw [List.drop_eq_getElem_cons h, List.getD_eq_getElem?_getD, List.getElem?_eq_getElem h]; rfl
theorem putG_len (e : Et) : ∀ (L : List Et) (d : Bool), (putG e d L).length ≤ L.length + 1
  | [], d => by unfold putG; split <;> simp
  | x :: r, d => by
    unfold putG
    have h1 := putG_len e r (d || !sLt x.1 e.1)
    have h2 : d = true → (putG e true r).length ≤ r.length := fun _ => by
      have : ∀ r : List Et, (putG e true r).length ≤ r.length := fun r => by
        induction r with
        | nil => simp [putG]
        | cons y r ih => simp only [putG, Bool.true_or, List.length_append, List.length_cons, Bool.true_eq_false, false_and, if_false, List.length_nil, Nat.zero_add]; split <;> simp <;> omega
      exact this r
    rw [List.length_append, List.length_append, List.length_cons]
    have h3 : (if x.1 = e.1 then ([] : List Et) else [x]).length ≤ 1 := by split <;> simp
    by_cases hc : d = false ∧ sLt x.1 e.1 = false
    · rw [if_pos hc, hc.1, hc.2]
      have h4 : (putG e true r).length ≤ r.length := by
        have : ∀ r : List Et, (putG e true r).length ≤ r.length := fun r => by
          induction r with
          | nil => simp [putG]
          | cons y r ih => simp only [putG, Bool.true_or, List.length_append, List.length_cons, Bool.true_eq_false, false_and, if_false, List.length_nil, Nat.zero_add]; split <;> simp <;> omega
        exact this r
      simp only [Bool.not_false, Bool.or_true, List.length_singleton] at *
      omega
    · rw [if_neg hc]
      simp only [List.length_nil]
      omega
theorem putT_len (L : List Et) (e : Et) : (putT L e).length ≤ L.length + 1 := putG_len e L false
theorem sdT_no (L : List Et) (s : ByteArray) (h : (stT s).2.2.2 = false ∨ ¬ nmOk (stT s).1 ∨ (¬ bt s 0 = 43 ∧ ¬ hasT L (stT s).1)) : sdT L s = none := by
  unfold sdT
  rw [if_neg]
  rintro ⟨h1, h2, h3⟩
  rcases h with h | h | h
  · rw [h1] at h; exact Bool.noConfusion h
  · exact h h2
  · exact h3.elim h.1 h.2
theorem sdT_43 (L : List Et) (s : ByteArray) (h : (stT s).2.2.2 = true) (hn : nmOk (stT s).1) (hc : bt s 0 = 43) : sdT L s = some (putT L ((stT s).1, (stT s).2.2.1)) := by
  unfold sdT
  rw [if_pos ⟨h, hn, .inl hc⟩, if_pos hc]
theorem sdT_45 (L : List Et) (s : ByteArray) (h : (stT s).2.2.2 = true) (hn : nmOk (stT s).1) (hc : bt s 0 = 45) (hh : hasT L (stT s).1) : sdT L s = some (dropT L (stT s).1) := by
  unfold sdT
  rw [if_pos ⟨h, hn, .inr hh⟩, if_neg (by omega), if_pos hc]
theorem sdT_62 (L : List Et) (s : ByteArray) (h : (stT s).2.2.2 = true) (hn : nmOk (stT s).1) (hc : bt s 0 = 62) (hh : hasT L (stT s).1) : sdT L s = some (putT (dropT L (stT s).1) ((stT s).2.1, entT L (stT s).1)) := by
  unfold sdT
  rw [if_pos ⟨h, hn, .inr hh⟩, if_neg (by omega), if_neg (by omega), if_pos hc]
theorem stT_ok (s : ByteArray) (h : (stT s).2.2.2 = true) : 2 ≤ s.size ∧ (bt s 0 = 43 ∨ bt s 0 = 45 ∨ bt s 0 = 62) := by
  by_cases hn : stNo s
  · rw [stT_A s hn] at h; exact Bool.noConfusion h
  · unfold stNo at hn; omega
theorem stT_le (s : ByteArray) : (stT s).1.size ≤ s.size ∧ (stT s).2.1.size ≤ s.size := by
  have h0 : (⟨#[]⟩ : ByteArray).size = 0 := rfl
  have he := ex_le s
  unfold stT
  split
  · exact ⟨Nat.zero_le _, Nat.zero_le _⟩
  · split
    · exact ⟨he _ _, Nat.zero_le _⟩
    · split
      · exact ⟨Nat.zero_le _, Nat.zero_le _⟩
      · split
        · exact ⟨he _ _, he _ _⟩
        · exact ⟨he _ _, Nat.zero_le _⟩
theorem dropT_len (L : List Et) (n : ByteArray) : (dropT L n).length ≤ L.length := List.length_filter_le _ _
theorem putG_mem (e : Et) : ∀ (L : List Et) (d : Bool) (x : Et), x ∈ putG e d L → x = e ∨ x ∈ L
  | [], d, x, h => by
    unfold putG at h
    split at h
    · simp at h
    · exact .inl (List.mem_singleton.1 h)
  | y :: r, d, x, h => by
    unfold putG at h
    rcases List.mem_append.1 h with h | h
    · rcases List.mem_append.1 h with h | h
      · split at h
        · exact .inl (List.mem_singleton.1 h)
        · simp at h
      · split at h
        · simp at h
        · rw [List.mem_singleton] at h; subst h; exact .inr List.mem_cons_self
    · rcases putG_mem e r _ x h with h | h
      · exact .inl h
      · exact .inr (List.mem_cons_of_mem _ h)
/-- What one step makes of entries of short names: entries of short names, at most one more. -/
theorem sdT_le (L : List Et) (s : ByteArray) (M : List Et) (n : Nat) (h : sdT L s = some M) (hL : ∀ e ∈ L, e.1.size ≤ n) (hs : s.size ≤ n) : M.length ≤ L.length + 1 ∧ ∀ e ∈ M, e.1.size ≤ n := by
  obtain ⟨h1, h2⟩ := stT_le s
  unfold sdT at h
  split at h
  · have h := Option.some.inj h
    subst h
    split
    · exact ⟨putT_len _ _, fun e he => (putG_mem _ _ _ _ he).elim (fun h => by rw [h]; simp only; omega) (hL e)⟩
    · split
      · exact ⟨Nat.le_trans (dropT_len _ _) (Nat.le_succ _), fun e he => hL e (List.mem_filter.1 he).1⟩
      · refine ⟨Nat.le_trans (putT_len _ _) (Nat.succ_le_succ (dropT_len _ _)), fun e he => ?_⟩
        rcases putG_mem _ _ _ _ he with h | h
        · rw [h]; simp only; omega
        · exact hL e (List.mem_filter.1 h).1
  · cases h
theorem sgT_le (n : Nat) : ∀ (S : List ByteArray) (L : List Et), (∀ e ∈ L, e.1.size ≤ n) → (∀ s ∈ S, s.size ≤ n) → (sgT L S).1.length ≤ L.length + S.length ∧ ∀ e ∈ (sgT L S).1, e.1.size ≤ n
  | [], L, h1, _ => ⟨Nat.le_refl _, h1⟩
  | s :: S, L, h1, h2 => by
    unfold sgT
    cases h : sdT L s with
    | none => exact ⟨Nat.zero_le _, fun e he => by simp at he⟩
    | some M =>
      obtain ⟨q1, q2⟩ := sdT_le L s M n h h1 (h2 s List.mem_cons_self)
      obtain ⟨q3, q4⟩ := sgT_le n S M q2 (fun x hx => h2 x (List.mem_cons_of_mem _ hx))
      simp only
      refine ⟨?_, q4⟩
      rw [List.length_cons]
      omega

/-! ### bounds of disks -/
structure DkB (a b : Nat) (d : Dk) : Prop where
  ns : d.1.length ≤ a
  es : d.2.1.length ≤ a
  os : d.2.2.1.length ≤ a
  ss : d.2.2.2.1.length ≤ a
  nt : ∀ n ∈ d.1, n.2.1.size ≤ b
  et : ∀ e ∈ d.2.1, e.1.size ≤ b
  ot : ∀ e ∈ d.2.2.1, e.1.size ≤ b
  st : ∀ s ∈ d.2.2.2.1, s.size ≤ b
theorem DkB.ok {a b : Nat} {d : Dk} (h : DkB a b d) (ha : a ≤ 1048576) (hb : b ≤ 1048576) : DkOk d :=
  ⟨Nat.le_trans h.ns ha, Nat.le_trans h.es ha, Nat.le_trans h.os ha, Nat.le_trans h.ss ha, fun x hx => Nat.le_trans (h.nt x hx) hb, fun x hx => Nat.le_trans (h.et x hx) hb, fun x hx => Nat.le_trans (h.ot x hx) hb, fun x hx => Nat.le_trans (h.st x hx) hb⟩
theorem DkB.mono {a b a' b' : Nat} {d : Dk} (h : DkB a b d) (ha : a ≤ a') (hb : b ≤ b') : DkB a' b' d :=
  ⟨Nat.le_trans h.ns ha, Nat.le_trans h.es ha, Nat.le_trans h.os ha, Nat.le_trans h.ss ha, fun x hx => Nat.le_trans (h.nt x hx) hb, fun x hx => Nat.le_trans (h.et x hx) hb, fun x hx => Nat.le_trans (h.ot x hx) hb, fun x hx => Nat.le_trans (h.st x hx) hb⟩
theorem newT_B (r : Int) (a b : Nat) : DkB a b (newT r) :=
  ⟨Nat.zero_le _, Nat.zero_le _, Nat.zero_le _, Nat.zero_le _, fun x h => absurd h (by simp [newT]), fun x h => absurd h (by simp [newT]), fun x h => absurd h (by simp [newT]), fun x h => absurd h (by simp [newT])⟩
theorem cleanT_B {a b : Nat} {d : Dk} (h : DkB a b d) : DkB a b (cleanT d) :=
  ⟨Nat.le_trans (List.length_filter_le _ _) h.ns, h.es, h.os, h.ss, fun x hx => h.nt x (List.mem_filter.1 hx).1, h.et, h.ot, h.st⟩
theorem decT_le (n : Int) : (decT n).size ≤ 20 := by
  unfold decT
  split
  · decide
  · rw [strOf_size]
    exact decL_len 20 n
theorem mem_snoc {α : Type} {P : α → Prop} {l : List α} {y : α} (h : ∀ x ∈ l, P x) (hy : P y) : ∀ x ∈ l ++ [y], P x := fun x hx => by
  rcases List.mem_append.1 hx with hx | hx
  · exact h x hx
  · rw [List.mem_singleton] at hx; subst hx; exact hy
theorem putT_mem {L : List Et} {e : Et} {b : Nat} (h : ∀ x ∈ L, x.1.size ≤ b) (he : e.1.size ≤ b) : ∀ x ∈ putT L e, x.1.size ≤ b := fun x hx => by
  rcases putG_mem _ _ _ _ hx with rfl | hx
  · exact he
  · exact h x hx
theorem dropT_mem {L : List Et} {n : ByteArray} {b : Nat} (h : ∀ x ∈ L, x.1.size ≤ b) : ∀ x ∈ dropT L n, x.1.size ≤ b := fun x hx => h x (List.mem_filter.1 hx).1
theorem createT_B {a b : Nat} {d : Dk} (h : DkB a b d) (n : ByteArray) (hn : n.size + 24 ≤ b) : DkB (a + 1) b (createT d n).1 := by
  have hm := h.mono (Nat.le_succ a) (Nat.le_refl b)
  unfold createT
  split
  · exact hm
  · split
    · exact hm
    · split
      · exact hm
      · split
        · exact hm
        · refine cleanT_B ⟨?_, Nat.le_trans (putT_len _ _) (Nat.succ_le_succ h.es), hm.os, ?_, mem_snoc h.nt (Nat.zero_le _), putT_mem h.et (by simp only; omega), h.ot, mem_snoc h.st ?_⟩
          · rw [List.length_append, List.length_singleton]; exact Nat.succ_le_succ h.ns
          · rw [List.length_append, List.length_singleton]; exact Nat.succ_le_succ h.ss
          · have := decT_le d.2.2.2.2.2
            simp only [ByteArray.size_append, strOf_size, List.length_singleton]
            omega
theorem setNd_B {a b : Nat} {d : Dk} (h : DkB a b d) (k : Nat) (x : Nd) (hx : x.2.1.size ≤ b) : DkB a b (setNd d k x) :=
  ⟨by show (d.1.set k x).length ≤ a; rw [List.length_set]; exact h.ns, h.es, h.os, h.ss, fun y hy => (List.mem_or_eq_of_mem_set hy).elim (h.nt y) fun e => e ▸ hx, h.et, h.ot, h.st⟩
theorem nd_le {a b : Nat} {d : Dk} (h : DkB a b d) (k : Nat) : (d.1.getD k default).2.1.size ≤ b := by
  by_cases hk : k < d.1.length
  · rw [List.getD_eq_getElem?_getD, List.getElem?_eq_getElem hk]; exact h.nt _ (List.getElem_mem _)
  · rw [List.getD_eq_getElem?_getD, List.getElem?_eq_none (by omega)]; exact Nat.zero_le _
theorem appendT_B {a b : Nat} {d : Dk} (h : DkB a b d) (n t : ByteArray) : DkB a (b + t.size) (appendT d n t).1 := by
  have hm := h.mono (Nat.le_refl a) (Nat.le_add_right b t.size)
  have hz := nd_le h (nodeI d.1 (entT d.2.1 n)).toNat
  unfold appendT
  split
  · exact hm
  · split
    · refine setNd_B hm _ _ ?_
      have := ex_le t 0 (d.2.2.2.2.1 - usedT d).toNat
      simp only [ByteArray.size_append]
      omega
    · refine setNd_B hm _ _ ?_
      simp only [ByteArray.size_append]
      omega
theorem syncT_B {a b : Nat} {d : Dk} (h : DkB a b d) (n : ByteArray) : DkB a b (syncT d n).1 := by
  unfold syncT
  split
  · exact h
  · exact setNd_B h _ _ (nd_le h _)
theorem renameT_B {a b : Nat} {d : Dk} (h : DkB a b d) (x y : ByteArray) (hn : x.size + y.size + 2 ≤ b) : DkB (a + 1) b (renameT d x y).1 := by
  have hm := h.mono (Nat.le_succ a) (Nat.le_refl b)
  unfold renameT
  split
  · exact hm
  · split
    · exact hm
    · refine cleanT_B ⟨hm.ns, Nat.le_trans (putT_len _ _) (Nat.succ_le_succ (Nat.le_trans (dropT_len _ _) h.es)), hm.os, ?_, h.nt, putT_mem (dropT_mem h.et) (by simp only; omega), h.ot, mem_snoc h.st ?_⟩
      · rw [List.length_append, List.length_singleton]; exact Nat.succ_le_succ h.ss
      · simp only [ByteArray.size_append, strOf_size, List.length_singleton]
        omega
theorem removeT_B {a b : Nat} {d : Dk} (h : DkB a b d) (n : ByteArray) (hn : n.size + 1 ≤ b) : DkB (a + 1) b (removeT d n).1 := by
  have hm := h.mono (Nat.le_succ a) (Nat.le_refl b)
  unfold removeT
  split
  · exact hm
  · refine cleanT_B ⟨hm.ns, Nat.le_trans (dropT_len _ _) hm.es, hm.os, ?_, h.nt, dropT_mem h.et, h.ot, mem_snoc h.st ?_⟩
    · rw [List.length_append, List.length_singleton]; exact Nat.succ_le_succ h.ss
    · simp only [ByteArray.size_append, strOf_size, List.length_singleton]
      omega
theorem syncNamesT_B {a b : Nat} {d : Dk} (h : DkB a b d) : DkB a b (syncNamesT d) := by
  unfold syncNamesT
  split
  · exact h
  · exact cleanT_B ⟨h.ns, h.es, h.es, Nat.zero_le _, h.nt, h.et, h.et, fun x hx => absurd hx (by simp)⟩
theorem flt_snoc {α : Type} [Inhabited α] (p : α → Bool) (L : List α) (i : Nat) (h : i < L.length) : (L.take (i + 1)).filter p = (L.take i).filter p ++ if p (L.getD i default) = true then [L.getD i default] else [] := by
  rw [take_snoc default L i h, List.filter_append]
  congr 1
  show List.filter p [rdOf default L i] = _
  have : rdOf default L (i : Int) = L.getD i default := rfl
  rw [this]
  cases hp : p (L.getD i default)
  · rw [List.filter_cons_of_neg (by rw [hp]; decide)]; rfl
  · rw [List.filter_cons_of_pos hp]; rfl
theorem eq_stp {α : Type} [Inhabited α] (xs ys : List α) (i : Nat) (hl : xs.length = ys.length) (hi : i < xs.length) (h : xs.take i = ys.take i) (he : xs.getD i default = ys.getD i default) : xs.take (i + 1) = ys.take (i + 1) := by
  rw [List.take_succ_eq_append_getElem hi, List.take_succ_eq_append_getElem (by omega), h]
  rw [List.getD_eq_getElem?_getD, List.getD_eq_getElem?_getD, List.getElem?_eq_getElem hi, List.getElem?_eq_getElem (by omega : i < ys.length)] at he
  exact congrArg (fun x => ys.take i ++ [x]) he
end Go.Mth

/- A row that is only read from then on; loops whose head is reached so. -/
namespace Go.Pv
open Go.RowKit
variable {P : Program} {T : Tab} {s : St}

/-- What stands in one state stands in another, too. -/
def Im (s' s : St) : Prop := ∀ (w0 : World) (V M : Bl) (Γ0 : Nat → Value) (h0 : Hp) (a : Act) (w : World), Rel w0 V M Γ0 h0 s a w → Rel w0 V M Γ0 h0 s' a w
theorem Im.sub {s' s : St} (h : Sub s' s) : Im s' s := fun _ _ _ _ _ _ _ R => h.rel R
theorem Im.trans {s3 s2 s1 : St} (h : Im s3 s2) (k : Im s2 s1) : Im s3 s1 := fun _ _ _ _ _ _ _ R => h _ _ _ _ _ _ _ (k _ _ _ _ _ _ _ R)
/-- A row is given up; what named it is a slice that is only read. -/
theorem Im.frz {s : St} (t : Tmp) (k : Nat) {n : Nat} {sz : Sz} {xs : List PV} (h1 : tget s.tm t = .row k n) (h2 : hget s.hp k = some (.row sz xs)) (h3 : n = xs.length) : Im ⟨s.n, (t, .far xs) :: s.tm, (k, .dead) :: s.hp⟩ s := fun w0 V M Γ0 h0 a w ⟨Γ, R⟩ => by
  have C := Chg.kill R (b := k) (by rw [h2]; simp)
  have R2 := C.rel R
  refine ⟨Γ, ⟨R2.kp, R2.defers, R2.size, R2.vlt, fun t' => ?_, R2.hp, R2.dis, R2.own, R2.gr, R2.low⟩⟩
  show VR w (Av V Γ ([(k, .dead)] ++ s.hp)) Γ ([(k, .dead)] ++ s.hp) (tget ((t, .far xs) :: s.tm) t') _
  by_cases e : t' = t
  · subst e
    have e2 : tget ((t', PV.far xs) :: s.tm) t' = .far xs := by simp [tget]
    rw [e2]
    have hx := R.tm t'
    rw [h1] at hx
    obtain ⟨ad, cap, hv, hc, hh⟩ := elems_vr (xs := xs) hx R.hp (by simp only [elems, h2]; rw [if_pos h3])
    rw [hv]
    refine .data ?_
    rcases hh with rfl | ⟨β, o, c, e, fr, z, rfl, hw, hz, hm, hav⟩
    · exact .far0 _ _
    · refine .far xs β o cap z c e fr ?_ hw hc hz (fun i x j y hx hy => (hm i x j y hx hy).1) fun i x j y hx hy => C.dr (hm i x j y hx hy).2
      rcases hav with hav | ⟨g', n', h3, hl, ho⟩
      · intro hb
        refine hav (hb.elim .inl fun ⟨k', l', o'⟩ => .inr ⟨k', (liveK l').2, o'⟩)
      · obtain rfl : g' = k := by
          rcases h3 with h3 | ⟨lo, hi, h3⟩
          · cases h3; rfl
          · cases h3
        intro hb
        rcases hb with hb | ⟨k', l', o'⟩
        · obtain ⟨p1, p2⟩ := R.vlt.1 β hb
          rcases R.own β ⟨g', hl, ho⟩ with p3 | p3
          · omega
          · exact p2 p3
        · exact (liveK l').1 (R.dis k' g' β (liveK l').2 hl o' ho)
  · have e2 : tget ((t, PV.far xs) :: s.tm) t' = tget s.tm t' := by simp [tget, e]
    rw [e2]
    exact R2.tm t'
theorem Im.go {s' s : St} (t : Tmp) (k : Nat) {n : Nat} {sz : Sz} {xs : List PV} (h1 : tget s.tm t = .row k n) (h2 : hget s.hp k = some (.row sz xs)) (h3 : n = xs.length) (h : Sub s' ⟨s.n, (t, .far xs) :: s.tm, (k, .dead) :: s.hp⟩) : Im s' s :=
  (Im.sub h).trans (Im.frz t k h1 h2 h3)

inductive RoundsI (P : Program) (c : Code) (e : PE) (s' : St) : Nat → St → Prop
  | last (n : Nat) (s : St) (h : Sem P c s fun e2 s2 => e2 = e ∧ s2 = s') (he : e ≠ .normal) : RoundsI P c e s' n s
  | more (n : Nat) (s s1 s2 : St) (h : Sem P c s fun e2 s3 => e2 = .normal ∧ s3 = s1) (hs : Im s2 s1) (h2 : RoundsI P c e s' n s2) : RoundsI P c e s' (n + 1) s

theorem RoundsI.sem {c : Code} {e : PE} {s' : St} {n : Nat} (h : RoundsI P c e s' n s) : Sem P (.loop c) s fun e2 s2 => e2 = e ∧ s2 = s' := fun w0 V M Γ0 h0 a w R => by
  refine wp_loop_nat (fun n a w => ∃ s, RoundsI P c e s' n s ∧ Rel w0 V M Γ0 h0 s a w) (n := n) ⟨s, h, R⟩ fun n a w ⟨s, hI, R⟩ => ?_
  cases hI with
  | last _ _ h he =>
    refine wp_mono (h w0 V M Γ0 h0 a w R) fun e' a' w' ⟨s1, R1, q⟩ => ?_
    cases e' <;> first
      | exact q.elim
      | exact absurd q.1.symm he
      | exact ⟨s1, R1, q⟩
  | more n _ s1 s2 h hs h2 =>
    refine wp_mono (h w0 V M Γ0 h0 a w R) fun e' a' w' ⟨s3, R1, q⟩ => ?_
    cases e' <;> first
      | exact q.elim
      | exact PE.noConfusion q.1
      | (obtain ⟨_, rfl⟩ := q; exact ⟨n, Nat.lt_succ_self n, s2, h2, hs _ _ _ _ _ _ _ R1⟩)

/-- A loop whose head is reached by what a state implies. -/
theorem lp_im {α : Type} (inv : α → St) (p : α → Prop) (μ : α → Nat) (x0 : α) {c : Code} {N : St → Prop} {X : Nat → St → Prop} {R : St → Prop} (h1 : Im (inv x0) s) (h2 : p x0)
    (round : ∀ x, p x → ∀ N : St → Prop, (∀ y s1, p y → μ y < μ x → Im (inv y) s1 → N s1) → vc P T c N X R (inv x)) : Lp P T c N X R s := fun hT => by
  have key : ∀ n x, μ x = n → p x → ∃ e s', toQ (fun _ => False) X R e s' ∧ ∃ n, RoundsI P c e s' n (inv x) := fun n => by
    induction n using Nat.strongRecOn with
    | _ n ih =>
      intro x hn hp
      obtain ⟨e, s1, q1, q2⟩ := vc_sound hT c (fun s1 => ∃ y, p y ∧ μ y < μ x ∧ Im (inv y) s1) X R _ (round x hp _ fun y s1 h1 h2 h3 => ⟨y, h1, h2, h3⟩)
      cases e
      case normal =>
        obtain ⟨y, py, hy, hs⟩ := q1
        obtain ⟨e, s', r1, k, r2⟩ := ih (μ y) (by omega) y rfl py
        exact ⟨e, s', r1, k + 1, .more k _ s1 _ q2 hs r2⟩
      · exact ⟨.exit _, s1, q1, 0, .last 0 _ q2 (fun e => PE.noConfusion e)⟩
      · exact ⟨.ret, s1, q1, 0, .last 0 _ q2 (fun e => PE.noConfusion e)⟩
  obtain ⟨e, s', r1, k, r2⟩ := key _ x0 rfl h2
  exact ⟨e, s', r1, fun w0 V M Γ0 h0 a w R => r2.sem w0 V M Γ0 h0 a w (h1 _ _ _ _ _ _ _ R)⟩
end Go.Pv

/- A row gets another key. -/
namespace Go.Pv
open Go.RowKit

def rn1 (k k' : Nat) : PV → PV
  | .row g n => if g = k then .row k' n else .row g n
  | x => x
def rn2 (k k' : Nat) : PV → PV
  | .agg xs => .agg (xs.map (rn1 k k'))
  | x => rn1 k k' x
section
variable {w : World} {V : Bl} {Γ : Nat → Value} {hp : Hp} {k k' : Nat} {sz : Sz} {xs : List PV}
def mvΓ (Γ : Nat → Value) (k k' : Nat) : Nat → Value := fun j => if j = k' then Γ k else Γ j
def mvH (hp : Hp) (k k' : Nat) (c : HC) : Hp := (k', c) :: (k, .dead) :: hp
theorem mv_k' (c : HC) : hget (mvH hp k k' c) k' = some c := by simp [mvH, hget]
theorem mv_k (c : HC) (h : k ≠ k') : hget (mvH hp k k' c) k = some .dead := by simp [mvH, hget, h]
theorem mv_o (c : HC) {j : Nat} (h1 : j ≠ k') (h2 : j ≠ k) : hget (mvH hp k k' c) j = hget hp j := by simp [mvH, hget, h1, h2]
theorem mv_ow (hk : hget hp k = some (.row sz xs)) (hk' : hget hp k' = none) (b : Nat) : Ow (mvΓ Γ k k') (mvH hp k k' (.row sz xs)) b ↔ Ow Γ hp b := by
  have hne : k ≠ k' := fun e => by rw [e, hk'] at hk; cases hk
  constructor
  · rintro ⟨j, l, o⟩
    by_cases e : j = k'
    · subst e
      refine ⟨k, by unfold live; rw [hk]; trivial, ?_⟩
      simpa [mvΓ] using o
    · by_cases e2 : j = k
      · subst e2
        unfold live at l
        rw [mv_k _ hne] at l
        exact l.elim
      · refine ⟨j, by unfold live at l ⊢; rwa [mv_o _ e e2] at l, ?_⟩
        simpa [mvΓ, e] using o
  · rintro ⟨j, l, o⟩
    by_cases e2 : j = k
    · subst e2
      exact ⟨k', by unfold live; rw [mv_k']; trivial, by simpa [mvΓ] using o⟩
    · have e : j ≠ k' := fun e => by subst e; unfold live at l; rw [hk'] at l; exact l
      exact ⟨j, by unfold live at l ⊢; rwa [mv_o _ e e2], by simpa [mvΓ, e] using o⟩
theorem mv_av (hk : hget hp k = some (.row sz xs)) (hk' : hget hp k' = none) (b : Nat) : Av V (mvΓ Γ k k') (mvH hp k k' (.row sz xs)) b ↔ Av V Γ hp b := or_congr Iff.rfl (mv_ow hk hk' b)
theorem mv_dr (hk : hget hp k = some (.row sz xs)) (hk' : hget hp k' = none) {x : PV} {v : Value} (h : DR w (Av V Γ hp) x v) : DR w (Av V (mvΓ Γ k k') (mvH hp k k' (.row sz xs))) x v :=
  h.step (fun _ _ _ => rfl) fun b _ hb => (mv_av hk hk' b).1 hb
/-- What named other keys goes on; what named the old one is not told of any more. -/
theorem mv_vr (hk : hget hp k = some (.row sz xs)) (hk' : hget hp k' = none) {x : PV} {v : Value} (h : VR w (Av V Γ hp) Γ hp x v) : VR w (Av V (mvΓ Γ k k') (mvH hp k k' (.row sz xs))) (mvΓ Γ k k') (mvH hp k k' (.row sz xs)) x v := by
  have hne : k ≠ k' := fun e => by rw [e, hk'] at hk; cases hk
  have nk : ∀ g, hget hp g ≠ none → g ≠ k' := fun g h e => h (e ▸ hk')
  have hg : ∀ g, hget hp g ≠ none → hget (mvH hp k k' (.row sz xs)) g ≠ none := fun g h => by
    by_cases e : g = k
    · subst e; rw [mv_k _ hne]; simp
    · rw [mv_o _ (nk g h) e]; exact h
  have hr : ∀ g c, hget hp g ≠ none → hget (mvH hp k k' (.row sz xs)) g = some c → c ≠ .dead → hget hp g = some c ∧ mvΓ Γ k k' g = Γ g := fun g c h h2 hd => by
    by_cases e : g = k
    · subst e; rw [mv_k _ hne] at h2; cases h2; exact absurd rfl hd
    · rw [mv_o _ (nk g h) e] at h2
      exact ⟨h2, if_neg (nk g h)⟩
  induction h with
  | data h => exact .data (mv_dr hk hk' h)
  | agg ys cs hl _ ih => exact .agg ys cs hl ih
  | tup ys cs hl _ ih => exact .tup ys cs hl ih
  | fn f ys cs hl _ ih => exact .fn f ys cs hl ih
  | row g n v ho h1 h2 => exact .row g n v ho (hg g h1) (fun sz' xs' e => (by obtain ⟨e1, e2⟩ := hr g _ h1 e (by simp); rw [e2]; exact h2 sz' xs' e1))
  | view g n lo hi v ho h1 h2 => exact .view g n lo hi v ho (hg g h1) (fun sz' xs' e => (by obtain ⟨e1, e2⟩ := hr g _ h1 e (by simp); rw [e2]; exact h2 sz' xs' e1))
  | elt g n i off v ho h1 h2 => exact .elt g n i off v ho (hg g h1) (fun sz' xs' e => (by obtain ⟨e1, e2⟩ := hr g _ h1 e (by simp); rw [e2]; exact h2 sz' xs' e1))
  | ref b off v ho h1 h2 => exact .ref b off v ho (hg b h1) (fun q cs e => (by obtain ⟨e1, e2⟩ := hr b _ h1 e (by simp); rw [e2]; exact h2 q cs e1))
theorem mv_rn1 (hk : hget hp k = some (.row sz xs)) (hk' : hget hp k' = none) {x : PV} {v : Value} (h : VR w (Av V Γ hp) Γ hp x v) : VR w (Av V (mvΓ Γ k k') (mvH hp k k' (.row sz xs))) (mvΓ Γ k k') (mvH hp k k' (.row sz xs)) (rn1 k k' x) v := by
  cases x <;> try exact mv_vr hk hk' h
  rename_i g n
  by_cases e : g = k
  · rw [show rn1 k k' (.row g n) = .row k' n from if_pos e]
    subst e
    cases h with
    | data h => cases h
    | row _ _ _ ho h1 h2 =>
      refine .row k' n v ho (by rw [mv_k']; simp) fun sz' xs' e => ?_
      rw [mv_k'] at e
      cases e
      obtain ⟨p1, p2⟩ := h2 sz xs hk
      exact ⟨p1, fun q => by rw [p2 q]; exact (if_pos rfl).symm⟩
  · rw [show rn1 k k' (.row g n) = .row g n from if_neg e]
    exact mv_vr hk hk' h
theorem mv_rn2 (hk : hget hp k = some (.row sz xs)) (hk' : hget hp k' = none) {x : PV} {v : Value} (h : VR w (Av V Γ hp) Γ hp x v) : VR w (Av V (mvΓ Γ k k') (mvH hp k k' (.row sz xs))) (mvΓ Γ k k') (mvH hp k k' (.row sz xs)) (rn2 k k' x) v := by
  cases x <;> try exact mv_rn1 hk hk' h
  rename_i ys
  obtain ⟨cs, rfl, h1, h2⟩ := vr_agg h
  refine .agg _ cs (by rw [List.length_map]; exact h1) fun i y hy => ?_
  rw [List.getElem?_map] at hy
  obtain ⟨z, hz, rfl⟩ := Option.map_eq_some_iff.1 hy
  exact mv_rn1 hk hk' (h2 i z hz)
end
/-- The row of key k, which temporary t names, gets the key k'. -/
theorem Im.ren {s : St} (t : Tmp) (k k' : Nat) {sz : Sz} {xs : List PV} (h1 : hget s.hp k = some (.row sz xs)) (h2 : hget s.hp k' = none) (h3 : 64 ≤ k') : Im ⟨s.n, (t, rn2 k k' (tget s.tm t)) :: s.tm, mvH s.hp k k' (.row sz xs)⟩ s := fun w0 V M Γ0 h0 a w ⟨Γ, R⟩ => by
  have hne : k ≠ k' := fun e => by rw [e, h2] at h1; cases h1
  refine ⟨mvΓ Γ k k', ⟨R.kp, R.defers, R.size, R.vlt, fun t' => ?_, fun j => ?_, fun j j' b l l' o o' => ?_, fun b hb => R.own b ((mv_ow h1 h2 b).1 hb), fun g hg => ?_, R.low⟩⟩
  · show VR w (Av V (mvΓ Γ k k') (mvH s.hp k k' (.row sz xs))) (mvΓ Γ k k') (mvH s.hp k k' (.row sz xs)) (tget ((t, rn2 k k' (tget s.tm t)) :: s.tm) t') _
    by_cases e : t' = t
    · subst e
      have e2 : tget ((t', rn2 k k' (tget s.tm t')) :: s.tm) t' = rn2 k k' (tget s.tm t') := by simp [tget]
      rw [e2]
      exact mv_rn2 h1 h2 (R.tm t')
    · have e2 : tget ((t, rn2 k k' (tget s.tm t)) :: s.tm) t' = tget s.tm t' := by simp [tget, e]
      rw [e2]
      exact mv_vr h1 h2 (R.tm t')
  · show HR w (Av V (mvΓ Γ k k') (mvH s.hp k k' (.row sz xs))) (mvΓ Γ k k') (mvH s.hp k k' (.row sz xs)) j
    by_cases e : j = k'
    · subst e
      have hr := R.hp k
      unfold HR at hr ⊢
      rw [h1] at hr
      rw [mv_k']
      simp only at hr ⊢
      obtain ⟨p0, hr⟩ := hr
      have eΓ : mvΓ Γ k j j = Γ k := if_pos rfl
      rw [eΓ]
      refine ⟨p0, hr.imp id ?_⟩
      rintro ⟨β, o, cap, c, e, fr, q1, q2, q3, q4, q5, q6, q7, q8⟩
      exact ⟨β, o, cap, c, e, fr, q1, q2, q3, q4, q5, q6, q7, fun i x j y hx hy => mv_dr h1 h2 (q8 i x j y hx hy)⟩
    · by_cases e2 : j = k
      · subst e2
        unfold HR
        rw [mv_k _ hne]
        trivial
      · have hr := R.hp j
        unfold HR at hr ⊢
        rw [mv_o _ e e2]
        have eΓ : mvΓ Γ k k' j = Γ j := if_neg e
        rw [eΓ]
        cases hh : hget s.hp j with
        | none => trivial
        | some c =>
          rw [hh] at hr
          cases c with
          | dead => trivial
          | box q cs =>
            obtain ⟨β, c, fr, q1, q2, q3, q4, q5⟩ := hr
            exact ⟨β, c, fr, q1, q2, q3, q4, fun i y hy => mv_vr h1 h2 (q5 i y hy)⟩
          | row sz' xs' =>
            obtain ⟨p0, hr⟩ := hr
            refine ⟨p0, hr.imp id ?_⟩
            rintro ⟨β, o, cap, c, e, fr, q1, q2, q3, q4, q5, q6, q7, q8⟩
            exact ⟨β, o, cap, c, e, fr, q1, q2, q3, q4, q5, q6, q7, fun i x j y hx hy => mv_dr h1 h2 (q8 i x j y hx hy)⟩
  · -- no two keys in one block
    have back : ∀ j, live (mvH s.hp k k' (.row sz xs)) j → ob (mvΓ Γ k k' j) = some b → ∃ i, live s.hp i ∧ ob (Γ i) = some b ∧ (j = k' ∧ i = k ∨ j ≠ k' ∧ i = j ∧ j ≠ k) := fun j l o => by
      by_cases e : j = k'
      · subst e
        exact ⟨k, by unfold live; rw [h1]; trivial, by simpa [mvΓ] using o, .inl ⟨rfl, rfl⟩⟩
      · by_cases e2 : j = k
        · subst e2
          unfold live at l
          rw [mv_k _ hne] at l
          exact l.elim
        · exact ⟨j, by unfold live at l ⊢; rwa [mv_o _ e e2] at l, by simpa [mvΓ, e] using o, .inr ⟨e, rfl, e2⟩⟩
    obtain ⟨i, l1, o1, q1⟩ := back j l o
    obtain ⟨i', l2, o2, q2⟩ := back j' l' o'
    have := R.dis i i' b l1 l2 o1 o2
    subst this
    rcases q1 with ⟨rfl, rfl⟩ | ⟨n1, rfl, n2⟩ <;> rcases q2 with ⟨rfl, e⟩ | ⟨n3, e, n4⟩
    · rfl
    · exact absurd e.symm n4
    · exact absurd e n2
    · exact e
  · obtain ⟨g1, g2, g3⟩ := R.gr g hg
    have hlow := R.low g hg
    have e : g ≠ k' := by omega
    have eΓ : mvΓ Γ k k' g = Γ g := if_neg e
    show hget (mvH s.hp k k' (.row sz xs)) g ≠ none ∧ (∀ sz' xs', hget (mvH s.hp k k' (.row sz xs)) g = some (.row sz' xs') → _) ∧ (∀ q cs, hget (mvH s.hp k k' (.row sz xs)) g = some (.box q cs) → _)
    by_cases e2 : g = k
    · subst e2
      rw [mv_k _ hne]
      exact ⟨by simp, fun _ _ h => (by cases h), fun _ _ h => (by cases h)⟩
    · rw [mv_o _ e e2, eΓ]
      exact ⟨g1, g2, g3⟩
/-- A slice that is nil, within what temporary t names, gets a key: an empty row. -/
theorem Im.nil {s : St} (t : Tmp) (k : Nat) (sz : Sz) (xs : List PV) (i : Nat) (h0 : 0 < sz.sz) (h1 : tget s.tm t = .agg xs) (hi : xs[i]? = some .nils) (h2 : hget s.hp k = none) : Im ⟨s.n, (t, .agg (xs.set i (.row k 0))) :: s.tm, (k, .row sz []) :: s.hp⟩ s := fun w0 V M Γ0 h00 a w ⟨Γ, R⟩ => by
  have hne : ∀ g, hget s.hp g ≠ none → g ≠ k := fun g hg e => hg (e ▸ h2)
  obtain ⟨Γ', hΓk, hΓ⟩ : ∃ Γ' : Nat → Value, Γ' k = .slice none 0 0 ∧ ∀ g, g ≠ k → Γ' g = Γ g := ⟨fun j => if j = k then .slice none 0 0 else Γ j, if_pos rfl, fun g hg => if_neg hg⟩
  have hold : ∀ g, g ≠ k → hget ([(k, HC.row sz [])] ++ s.hp) g = hget s.hp g := fun g hg => by simp [hget, hg]
  have hnew : hget ([(k, HC.row sz [])] ++ s.hp) k = some (.row sz []) := by simp [hget]
  have grow : Grow Γ Γ' s.hp ([(k, HC.row sz [])] ++ s.hp) := fun g hg => by
    rw [hold g (hne g hg), hΓ g (hne g hg)]
    exact ⟨hg, fun sz xs h => ⟨xs, h, Nat.le_refl _, fun _ => rfl⟩, fun _ cs' h => ⟨rfl, cs', h⟩⟩
  have lives : ∀ g, g ≠ k → live ([(k, HC.row sz [])] ++ s.hp) g → live s.hp g := fun g hg h => by unfold live at *; rwa [hold g hg] at h
  have nob : ∀ b, ob (Γ' k) ≠ some b := fun b h => by rw [hΓk] at h; cases h
  have own : ∀ b, Ow Γ' ([(k, HC.row sz [])] ++ s.hp) b → w.heap.size ≤ b ∨ Ow Γ s.hp b := fun b ⟨j, l, o⟩ => by
    by_cases e : j = k
    · subst e; exact absurd o (nob b)
    · rw [hΓ j e] at o; exact .inr ⟨j, lives j e l, o⟩
  have C : Chg V Γ Γ' s.hp ([(k, HC.row sz [])] ++ s.hp) w w := by
    refine ⟨Kp.refl _ _, grow, own, fun j => ?_, fun j j' b l l' e e' => ?_⟩
    · by_cases ek : j = k
      · subst ek
        unfold HR
        rw [hnew]
        exact ⟨h0, .inl ⟨rfl, hΓk⟩⟩
      · exact hr_keep (Kp.refl _ _) grow own (hold j ek) (hΓ j ek) (fun b _ _ _ => rfl) (R.hp j)
    · by_cases ek : j = k
      · subst ek; exact absurd e (nob b)
      · by_cases ek' : j' = k
        · subst ek'; exact absurd e' (nob b)
        · rw [hΓ j ek] at e
          rw [hΓ j' ek'] at e'
          exact R.dis j j' b (lives j ek l) (lives j' ek' l') e e'
  have R2 := C.rel R
  refine ⟨Γ', ⟨R2.kp, R2.defers, R2.size, R2.vlt, fun t' => ?_, R2.hp, R2.dis, R2.own, R2.gr, R2.low⟩⟩
  show VR w (Av V Γ' ([(k, HC.row sz [])] ++ s.hp)) Γ' ([(k, HC.row sz [])] ++ s.hp) (tget ((t, .agg (xs.set i (.row k 0))) :: s.tm) t') _
  by_cases e : t' = t
  · subst e
    have e2 : tget ((t', PV.agg (xs.set i (.row k 0))) :: s.tm) t' = .agg (xs.set i (.row k 0)) := by simp [tget]
    rw [e2]
    have hx : VR w (Av V Γ' ([(k, HC.row sz [])] ++ s.hp)) Γ' ([(k, HC.row sz [])] ++ s.hp) (tget s.tm t') (a.tmps.getD t' undef) := R2.tm t'
    rw [h1] at hx
    obtain ⟨cs, hv, hl, hcs⟩ := vr_agg hx
    rw [hv]
    refine .agg _ cs (by rw [List.length_set]; exact hl) fun j y hy => ?_
    rw [List.getElem?_set] at hy
    split at hy
    · rename_i hj
      subst hj
      split at hy
      · cases hy
        have hn := vr_nils (hcs i .nils hi)
        rw [hn]
        exact .row k 0 _ rfl (by rw [hnew]; simp) fun sz' xs' e => ⟨Nat.zero_le _, fun _ => hΓk.symm⟩
      · cases hy
    · exact hcs j y hy
  · have e2 : tget ((t, PV.agg (xs.set i (.row k 0))) :: s.tm) t' = tget s.tm t' := by simp [tget, e]
    rw [e2]
    exact R2.tm t'
/-- The same within a variable: the row of key k, which the variable of key g names, gets the key k'. -/
theorem Im.renB {s : St} (g k k' : Nat) {q : TypeId} {cs : List PV} {sz : Sz} {xs : List PV} (hg : hget s.hp g = some (.box q cs)) (h1 : hget s.hp k = some (.row sz xs)) (h2 : hget s.hp k' = none) (h3 : 64 ≤ k') : Im ⟨s.n, s.tm, (g, .box q (cs.map (rn1 k k'))) :: mvH s.hp k k' (.row sz xs)⟩ s := fun w0 V M Γ0 h0 a w ⟨Γ, R⟩ => by
  have hne : k ≠ k' := fun e => by rw [e, h2] at h1; cases h1
  have ngk : g ≠ k := fun e => by rw [e, h1] at hg; cases hg
  have ngk' : g ≠ k' := fun e => by rw [e, h2] at hg; cases hg
  have hH1 : hget (mvH s.hp k k' (.row sz xs)) g = some (.box q cs) := by rw [mv_o _ ngk' ngk, hg]
  have hHg : hget ((g, HC.box q (cs.map (rn1 k k'))) :: mvH s.hp k k' (.row sz xs)) g = some (.box q (cs.map (rn1 k k'))) := by simp [hget]
  have hHo : ∀ j, j ≠ g → hget ((g, HC.box q (cs.map (rn1 k k'))) :: mvH s.hp k k' (.row sz xs)) j = hget (mvH s.hp k k' (.row sz xs)) j := fun j hj => by simp [hget, hj]
  have lv : ∀ j, live ((g, HC.box q (cs.map (rn1 k k'))) :: mvH s.hp k k' (.row sz xs)) j ↔ live (mvH s.hp k k' (.row sz xs)) j := fun j => by
    by_cases e : j = g
    · subst e; unfold live; rw [hHg, hH1]
    · unfold live; rw [hHo j e]
  have ow : ∀ b, Ow (mvΓ Γ k k') ((g, HC.box q (cs.map (rn1 k k'))) :: mvH s.hp k k' (.row sz xs)) b ↔ Ow (mvΓ Γ k k') (mvH s.hp k k' (.row sz xs)) b := fun b => ⟨fun ⟨j, l, o⟩ => ⟨j, (lv j).1 l, o⟩, fun ⟨j, l, o⟩ => ⟨j, (lv j).2 l, o⟩⟩
  have grow : Grow (mvΓ Γ k k') (mvΓ Γ k k') (mvH s.hp k k' (.row sz xs)) ((g, HC.box q (cs.map (rn1 k k'))) :: mvH s.hp k k' (.row sz xs)) := fun j hj => by
    by_cases e : j = g
    · subst e
      rw [hHg]
      exact ⟨by simp, fun _ _ h => (by cases h), fun _ _ h => (by cases h; exact ⟨rfl, cs, hH1⟩)⟩
    · rw [hHo j e]
      exact ⟨hj, fun _ xs' h => ⟨xs', h, Nat.le_refl _, fun _ => rfl⟩, fun _ cs' h => ⟨rfl, cs', h⟩⟩
  have lift : ∀ {x : PV} {v : Value}, VR w (Av V (mvΓ Γ k k') (mvH s.hp k k' (.row sz xs))) (mvΓ Γ k k') (mvH s.hp k k' (.row sz xs)) x v → VR w (Av V (mvΓ Γ k k') ((g, HC.box q (cs.map (rn1 k k'))) :: mvH s.hp k k' (.row sz xs))) (mvΓ Γ k k') ((g, HC.box q (cs.map (rn1 k k'))) :: mvH s.hp k k' (.row sz xs)) x v := fun h =>
    (h.step (fun _ _ _ => rfl) (fun b _ hb => hb.imp id (ow b).1)).keys grow
  have liftD : ∀ {x : PV} {v : Value}, DR w (Av V Γ s.hp) x v → DR w (Av V (mvΓ Γ k k') ((g, HC.box q (cs.map (rn1 k k'))) :: mvH s.hp k k' (.row sz xs))) x v := fun h =>
    (mv_dr h1 h2 h).step (fun _ _ _ => rfl) (fun b _ hb => hb.imp id (ow b).1)
  refine ⟨mvΓ Γ k k', ⟨R.kp, R.defers, R.size, R.vlt, fun t' => lift (mv_vr h1 h2 (R.tm t')), fun j => ?_, fun j j' b l l' o o' => ?_, fun b hb => R.own b ((mv_ow h1 h2 b).1 ((ow b).1 hb)), fun g' hg' => ?_, R.low⟩⟩
  · show HR w (Av V (mvΓ Γ k k') ((g, HC.box q (cs.map (rn1 k k'))) :: mvH s.hp k k' (.row sz xs))) (mvΓ Γ k k') ((g, HC.box q (cs.map (rn1 k k'))) :: mvH s.hp k k' (.row sz xs)) j
    by_cases eg : j = g
    · subst eg
      have hr := R.hp j
      unfold HR at hr ⊢
      rw [hg] at hr
      rw [hHg]
      obtain ⟨β, c, fr, q1, q2, q3, q4, q5⟩ := hr
      have eΓ : mvΓ Γ k k' j = Γ j := if_neg ngk'
      refine ⟨β, c, fr, by rw [eΓ]; exact q1, q2, by rw [List.length_map]; exact q3, q4, fun i y hy => ?_⟩
      rw [List.getElem?_map] at hy
      obtain ⟨z, hz, rfl⟩ := Option.map_eq_some_iff.1 hy
      exact lift (mv_rn1 h1 h2 (q5 i z hz))
    · by_cases e : j = k'
      · subst e
        have hr := R.hp k
        unfold HR at hr ⊢
        rw [h1] at hr
        rw [hHo _ eg, mv_k']
        simp only at hr ⊢
        obtain ⟨p0, hr⟩ := hr
        have eΓ : mvΓ Γ k j j = Γ k := if_pos rfl
        rw [eΓ]
        refine ⟨p0, hr.imp id ?_⟩
        rintro ⟨β, o, cap, c, e, fr, q1, q2, q3, q4, q5, q6, q7, q8⟩
        exact ⟨β, o, cap, c, e, fr, q1, q2, q3, q4, q5, q6, q7, fun i x j y hx hy => liftD (q8 i x j y hx hy)⟩
      · by_cases e2 : j = k
        · subst e2
          unfold HR
          rw [hHo _ eg, mv_k _ hne]
          trivial
        · have hr := R.hp j
          unfold HR at hr ⊢
          rw [hHo _ eg, mv_o _ e e2]
          have eΓ : mvΓ Γ k k' j = Γ j := if_neg e
          rw [eΓ]
          cases hh : hget s.hp j with
          | none => trivial
          | some c =>
            rw [hh] at hr
            cases c with
            | dead => trivial
            | box q cs =>
              obtain ⟨β, c, fr, q1, q2, q3, q4, q5⟩ := hr
              exact ⟨β, c, fr, q1, q2, q3, q4, fun i y hy => lift (mv_vr h1 h2 (q5 i y hy))⟩
            | row sz' xs' =>
              obtain ⟨p0, hr⟩ := hr
              refine ⟨p0, hr.imp id ?_⟩
              rintro ⟨β, o, cap, c, e, fr, q1, q2, q3, q4, q5, q6, q7, q8⟩
              exact ⟨β, o, cap, c, e, fr, q1, q2, q3, q4, q5, q6, q7, fun i x j y hx hy => liftD (q8 i x j y hx hy)⟩
  · have back : ∀ j, live (mvH s.hp k k' (.row sz xs)) j → ob (mvΓ Γ k k' j) = some b → ∃ i, live s.hp i ∧ ob (Γ i) = some b ∧ (j = k' ∧ i = k ∨ j ≠ k' ∧ i = j ∧ j ≠ k) := fun j l o => by
      by_cases e : j = k'
      · subst e
        exact ⟨k, by unfold live; rw [h1]; trivial, by simpa [mvΓ] using o, .inl ⟨rfl, rfl⟩⟩
      · by_cases e2 : j = k
        · subst e2
          unfold live at l
          rw [mv_k _ hne] at l
          exact l.elim
        · exact ⟨j, by unfold live at l ⊢; rwa [mv_o _ e e2] at l, by simpa [mvΓ, e] using o, .inr ⟨e, rfl, e2⟩⟩
    obtain ⟨i, l1, o1, q1⟩ := back j ((lv j).1 l) o
    obtain ⟨i', l2, o2, q2⟩ := back j' ((lv j').1 l') o'
    have := R.dis i i' b l1 l2 o1 o2
    subst this
    rcases q1 with ⟨rfl, rfl⟩ | ⟨n1, rfl, n2⟩ <;> rcases q2 with ⟨rfl, e⟩ | ⟨n3, e, n4⟩
    · rfl
    · exact absurd e.symm n4
    · exact absurd e n2
    · exact e
  · obtain ⟨g1, g2, g3⟩ := R.gr g' hg'
    have hlow := R.low g' hg'
    have e : g' ≠ k' := by omega
    have eΓ : mvΓ Γ k k' g' = Γ g' := if_neg e
    dsimp only
    by_cases eg : g' = g
    · subst eg
      rw [hHg, eΓ]
      exact ⟨by simp, fun _ _ h => (by cases h), fun q' cs' h => (by cases h; exact g3 q cs hg)⟩
    · rw [hHo _ eg]
      by_cases e2 : g' = k
      · subst e2
        rw [mv_k _ hne]
        exact ⟨by simp, fun _ _ h => (by cases h), fun _ _ h => (by cases h)⟩
      · rw [mv_o _ e e2, eΓ]
        exact ⟨g1, g2, g3⟩
/-- A slice that is nil, within the variable of key g, gets a key: an empty row. -/
theorem Im.nilB {s : St} (g k : Nat) (sz : Sz) {q : TypeId} {cs : List PV} (i : Nat) (h0 : 0 < sz.sz) (hg : hget s.hp g = some (.box q cs)) (hi : cs[i]? = some .nils) (h2 : hget s.hp k = none) : Im ⟨s.n, s.tm, (g, .box q (cs.set i (.row k 0))) :: (k, .row sz []) :: s.hp⟩ s := fun w0 V M Γ0 h00 a w ⟨Γ, R⟩ => by
  have hne : ∀ g, hget s.hp g ≠ none → g ≠ k := fun g hg e => hg (e ▸ h2)
  have ngk : g ≠ k := hne g (by rw [hg]; simp)
  obtain ⟨Γ', hΓk, hΓ⟩ : ∃ Γ' : Nat → Value, Γ' k = .slice none 0 0 ∧ ∀ g, g ≠ k → Γ' g = Γ g := ⟨fun j => if j = k then .slice none 0 0 else Γ j, if_pos rfl, fun g hg => if_neg hg⟩
  have hgg : hget ((g, HC.box q (cs.set i (.row k 0))) :: (k, HC.row sz []) :: s.hp) g = some (.box q (cs.set i (.row k 0))) := by simp [hget]
  have hold : ∀ j, j ≠ g → j ≠ k → hget ((g, HC.box q (cs.set i (.row k 0))) :: (k, HC.row sz []) :: s.hp) j = hget s.hp j := fun j h1 h2 => by simp [hget, h1, h2]
  have hnew : hget ((g, HC.box q (cs.set i (.row k 0))) :: (k, HC.row sz []) :: s.hp) k = some (.row sz []) := by simp [hget, Ne.symm ngk]
  have grow : Grow Γ Γ' s.hp ((g, HC.box q (cs.set i (.row k 0))) :: (k, HC.row sz []) :: s.hp) := fun j hj => by
    have hk := hne j hj
    rw [hΓ j hk]
    by_cases e : j = g
    · subst e
      rw [hgg]
      exact ⟨by simp, fun _ _ h => (by cases h), fun _ _ h => (by cases h; exact ⟨rfl, cs, hg⟩)⟩
    · rw [hold j e hk]
      exact ⟨hj, fun sz xs h => ⟨xs, h, Nat.le_refl _, fun _ => rfl⟩, fun _ cs' h => ⟨rfl, cs', h⟩⟩
  have lives : ∀ j, j ≠ k → live ((g, HC.box q (cs.set i (.row k 0))) :: (k, HC.row sz []) :: s.hp) j → live s.hp j := fun j hj h => by
    by_cases e : j = g
    · subst e; unfold live; rw [hg]; trivial
    · unfold live at *; rwa [hold j e hj] at h
  have nob : ∀ b, ob (Γ' k) ≠ some b := fun b h => by rw [hΓk] at h; cases h
  have own : ∀ b, Ow Γ' ((g, HC.box q (cs.set i (.row k 0))) :: (k, HC.row sz []) :: s.hp) b → w.heap.size ≤ b ∨ Ow Γ s.hp b := fun b ⟨j, l, o⟩ => by
    by_cases e : j = k
    · subst e; exact absurd o (nob b)
    · rw [hΓ j e] at o; exact .inr ⟨j, lives j e l, o⟩
  have C : Chg V Γ Γ' s.hp ((g, HC.box q (cs.set i (.row k 0))) :: (k, HC.row sz []) :: s.hp) w w := by
    refine ⟨Kp.refl _ _, grow, own, fun j => ?_, fun j j' b l l' e e' => ?_⟩
    · by_cases ek : j = k
      · subst ek
        unfold HR
        rw [hnew]
        exact ⟨h0, .inl ⟨rfl, hΓk⟩⟩
      · by_cases eg : j = g
        · subst eg
          have hr := R.hp j
          unfold HR at hr ⊢
          rw [hg] at hr
          rw [hgg]
          obtain ⟨β, c, fr, q1, q2, q3, q4, q5⟩ := hr
          refine ⟨β, c, fr, by rw [hΓ j ek]; exact q1, q2, by rw [List.length_set]; exact q3, q4, fun m y hy => ?_⟩
          rw [List.getElem?_set] at hy
          split at hy
          · rename_i hm
            subst hm
            split at hy
            · cases hy
              have hn := vr_nils (q5 i .nils hi)
              rw [hn]
              exact .row k 0 _ rfl (by rw [hnew]; simp) fun sz' xs' e => ⟨Nat.zero_le _, fun _ => hΓk.symm⟩
            · cases hy
          · exact vr_lift (Kp.refl _ _) grow own (q5 m y hy)
        · exact hr_keep (Kp.refl _ _) grow own (hold j eg ek) (hΓ j ek) (fun b _ _ _ => rfl) (R.hp j)
    · by_cases ek : j = k
      · subst ek; exact absurd e (nob b)
      · by_cases ek' : j' = k
        · subst ek'; exact absurd e' (nob b)
        · rw [hΓ j ek] at e
          rw [hΓ j' ek'] at e'
          exact R.dis j j' b (lives j ek l) (lives j' ek' l') e e'
  exact ⟨Γ', C.rel R⟩
end Go.Pv

/- What functions of the program and of the reference do, in plain values. -/
namespace Go.Pv
open Go.Proofs Go.Mth
set_option linter.unusedSimpArgs false
set_option linter.unusedVariables false
set_option maxHeartbeats 4000000
set_option maxRecDepth 4000

/-! ### names of files -/
theorem isPow16 : Fn Tryz.prog 262 [.int .i64 16] [] (.bool true) [] := by
  have h : Go.bits .and .i64 16 (16 - 1) = 0 := by decide
  refine fn_x tok (n := 8) (rs := [.tmp 2]) Tryz.func262 (by decide) rfl rfl rfl rfl ?_
  refine Wr.go ?_
  repeat' ((first | (have ee := True.intro; refine Wr.mk ?_) | ((first | refine br_go ?_ ?_ | refine pick_go ?_ ?_) <;> intro ee f <;> (try simp only [BB] at f) <;> (try simp only [numOk, verOk] at f))) <;> (try simp (maxSteps := 1000000) (disch := first | omega | (simp only [LN, numOk, verOk, h, decide_true] <;> omega) | exact Ck.mk rfl) only [ee, VC, T, Nat.reduceMul, Nat.reduceAdd, Nat.reduceSub, Nat.reduceLT, Nat.reduceEqDiff, Nat.reduceLeDiff, Nat.reduceBEq, reduceCtorEq, Int.reduceToNat, ↓reduceIte, h, decide_true]) <;> (try clear ee))
theorem tz16 : Fn Tryz.prog 271 [.int .u64 16] [] (.int .i64 4) [] := by
  have h1 : IntKind.u64.wrap (0 - 16) = 18446744073709551600 := by decide
  have h2 : Go.bits .and .u64 16 18446744073709551600 = 16 := by decide
  have h3 : IntKind.u64.wrap (16 * 285870213051353865) = 4573923408821661840 := by decide
  have h4 : shr .u64 4573923408821661840 58 = 15 := by decide
  have h5 : (glob5.drop 15) = .int .u8 4 :: glob5.drop 16 := by rfl
  refine fn_x tok (n := 14) (rs := [.tmp 2]) Tryz.func271 (by decide) rfl rfl rfl rfl ?_
  refine Wr.go ?_
  repeat' ((first | (have ee := True.intro; refine Wr.mk ?_) | ((first | refine br_go ?_ ?_ | refine pick_go ?_ ?_) <;> intro ee f <;> (try simp only [BB] at f) <;> (try simp only [numOk, verOk] at f))) <;> (try simp (maxSteps := 1000000) (disch := first | omega | (simp only [LN, numOk, verOk, h1, h2, h3, h4, h5, GV, List.length_cons, List.getD_cons_zero] <;> omega) | exact Ck.mk rfl) only [ee, VC, T, Nat.reduceMul, Nat.reduceAdd, Nat.reduceSub, Nat.reduceLT, Nat.reduceEqDiff, Nat.reduceLeDiff, Nat.reduceBEq, reduceCtorEq, Int.reduceToNat, ↓reduceIte, h1, h2, h3, h4, h5, GV, List.length_cons, List.getD_cons_zero]) <;> (try clear ee))
theorem tzu16 : Fn Tryz.prog 263 [.int .u64 16] [] (.int .i64 4) [] := by
  refine fn_x tok (n := 8) (rs := [.tmp 2]) Tryz.func263 (by decide) rfl rfl rfl rfl ?_
  refine Wr.go ?_
  repeat' ((first | (have ee := True.intro; refine Wr.mk ?_) | ((first | refine br_go ?_ ?_ | refine pick_go ?_ ?_) <;> intro ee f <;> (try simp only [BB] at f) <;> (try simp only [numOk, verOk] at f)) | (have ee := True.intro; first | refine call_x (tz16) rfl ⟨rfl⟩ ?_)) <;> (try simp (maxSteps := 1000000) (disch := first | omega | (simp only [LN, numOk, verOk] <;> omega) | exact Ck.mk rfl) only [ee, VC, T, Nat.reduceMul, Nat.reduceAdd, Nat.reduceSub, Nat.reduceLT, Nat.reduceEqDiff, Nat.reduceLeDiff, Nat.reduceBEq, reduceCtorEq, Int.reduceToNat, ↓reduceIte]) <;> (try clear ee))
theorem data_bytes (l : List Int) : (l.map (PV.int .u8)).all data1 = true := by
  rw [List.all_eq_true]
  intro x hx
  obtain ⟨y, _, rfl⟩ := List.mem_map.1 hx
  rfl
theorem digT_at (d : Int) (h0 : 0 ≤ d) (h1 : d < 16) : ((b8 ⟨#[48, 49, 50, 51, 52, 53, 54, 55, 56, 57, 97, 98, 99, 100, 101, 102, 103, 104, 105, 106, 107, 108, 109, 110, 111, 112, 113, 114, 115, 116, 117, 118, 119, 120, 121, 122]⟩ d.toNat).toNat : Int) = hexD d := by
  obtain ⟨n, rfl⟩ := Int.eq_ofNat_of_zero_le h0
  have h : n < 16 := by omega
  revert h
  exact (by decide : ∀ n < 16, ((b8 ⟨#[48, 49, 50, 51, 52, 53, 54, 55, 56, 57, 97, 98, 99, 100, 101, 102, 103, 104, 105, 106, 107, 108, 109, 110, 111, 112, 113, 114, 115, 116, 117, 118, 119, 120, 121, 122]⟩ ((n : Nat) : Int).toNat).toNat : Int) = hexD ((n : Nat) : Int)) n
theorem hexT_at (d : Int) (h0 : 0 ≤ d) (h1 : d < 16) : ((b8 ⟨#[48, 49, 50, 51, 52, 53, 54, 55, 56, 57, 97, 98, 99, 100, 101, 102]⟩ d.toNat).toNat : Int) = hexD d := by
  obtain ⟨n, rfl⟩ := Int.eq_ofNat_of_zero_le h0
  have h : n < 16 := by omega
  revert h
  exact (by decide : ∀ n < 16, ((b8 ⟨#[48, 49, 50, 51, 52, 53, 54, 55, 56, 57, 97, 98, 99, 100, 101, 102]⟩ ((n : Nat) : Int).toNat).toNat : Int) = hexD ((n : Nat) : Int)) n
theorem clo_bytes (hp : Hp) (k : IntKind) (l : List Int) : clol (clo2 hp) (l.map (PV.int k)) = True := by
  induction l with
  | nil => rfl
  | cons x l ih => exact eq_true ⟨trivial, of_eq_true ih⟩
theorem and_u15 (u : Int) (h0 : 0 ≤ u) (h1 : u < 4294967296) : Go.bits .and .u64 u 15 = u % 16 := by
  obtain ⟨n, rfl⟩ := Int.eq_ofNat_of_zero_le h0
  have h4 : Go.bits .and .u64 (n : Int) 15 = IntKind.u64.wrap ((BitVec.ofInt 64 (n : Int) &&& BitVec.ofInt 64 15).toNat : Int) := rfl
  have h5 : n % 2 ^ 4 < 2 ^ 4 := Nat.mod_lt _ (by decide)
  rw [h4, BitVec.ofInt_natCast, BitVec.toNat_and, BitVec.toNat_ofNat, show (BitVec.ofInt 64 15).toNat = 2 ^ 4 - 1 from rfl, Nat.mod_eq_of_lt (by omega), Nat.and_two_pow_sub_one_eq_mod]
  show (((n % 2 ^ 4 : Nat) : Int)) % 18446744073709551616 = _
  omega
theorem shr4 (u : Int) (h0 : 0 ≤ u) : shr .u64 u 4 = u / 16 := by
  show u.fdiv 16 = _
  exact Int.fdiv_eq_ediv_of_nonneg u (by decide)
theorem laid_take (L : List Int) (h : L.length ≤ 7) : List.take (0 + (65 - (L.length : Int) - 1).toNat * 1) (List.replicate (65 - L.length) (0 : Int) ++ L) = List.replicate (64 - L.length) 0 := by
  rw [show 0 + (65 - (L.length : Int) - 1).toNat * 1 = 64 - L.length by omega, List.take_append_of_le_length (by rw [List.length_replicate]; omega), List.take_replicate]
  congr 1; omega
theorem laid_drop (L : List Int) (h : L.length ≤ 7) : List.drop (0 + (65 - (L.length : Int) - 1).toNat * 1 + 1) (List.replicate (65 - L.length) (0 : Int) ++ L) = L := by
  exact List.drop_left' (by rw [List.length_replicate]; omega)
theorem laid_all (L : List Int) (d : Int) (h : L.length ≤ 7) : List.drop (65 - (L.length : Int) - 1).toNat (List.take 65 (List.map (PV.int .u8) (List.replicate (64 - L.length) 0 ++ [d]) ++ List.map (PV.int .u8) L)) = List.map (PV.int .u8) (d :: L) := by
  rw [← List.map_append, List.append_assoc, List.take_of_length_le (by simp; omega), List.map_append]
  exact List.drop_left' (by simp; omega)
theorem fmtBits (n : Int) (h0 : 0 ≤ n) (h1 : n < 4294967296) : FnV Tryz.prog 237 [.far [], .int .u64 n, .int .i64 16, .bool false, .bool false] (fun r => ∃ k : Nat, k < 8 ∧ n < 16 ^ (k + 1) ∧ r = .tup [.far [], .str (strOf (hexL (k + 1) n))]) := by
  refine fn_v tok (n := 102) (rs := [.tmp 10, .tmp 11]) Tryz.func237 (by decide) rfl rfl rfl rfl ?_
  refine Wr.go ?_
  repeat' ((first | (have ee := True.intro; refine Wr.mk ?_) | ((first | refine br_go ?_ ?_ | refine pick_go ?_ ?_) <;> intro ee f <;> (try simp only [BB] at f) <;> (try simp only [numOk, verOk] at f)) | (have ee := True.intro; first | refine call_x (isPow16) rfl ⟨rfl⟩ ?_ | refine call_x (tzu16) rfl ⟨rfl⟩ ?_)) <;> (try simp (maxSteps := 1000000) (disch := first | omega | (simp only [LN, numOk, verOk] <;> omega) | exact Ck.mk rfl) only [ee, VC, T, Nat.reduceMul, Nat.reduceAdd, Nat.reduceSub, Nat.reduceLT, Nat.reduceEqDiff, Nat.reduceLeDiff, Nat.reduceBEq, reduceCtorEq, Int.reduceToNat, ↓reduceIte]) <;> (try clear ee))
  refine lp_go (fun x : Int × List Int => ⟨102, [(1, .int .u64 x.1), (12, .ref 832 0), (13, .int .i64 (65 - x.2.length)), (14, .int .u64 4), (15, .int .u64 16), (16, .int .u64 15), (3, .bool false), (4, .bool false), (10, .nils)], [(832, .box 239 ((List.replicate (65 - x.2.length) (0 : Int) ++ x.2).map (.int .u8)))]⟩) (fun x => Hx n x.1 x.2) (fun x => x.1.toNat) (n, []) ?_ (Hx.start h0) ?_
  · (simp (disch := first | omega | (simp only [LN, numOk, verOk] <;> omega) | exact Ck.mk rfl) only [SB, EQ, Nat.reduceMul, Nat.reduceAdd, Nat.reduceSub, Nat.reduceLT, Nat.reduceEqDiff, Nat.reduceLeDiff, Nat.reduceBEq, reduceCtorEq, Int.reduceToNat, ↓reduceIte]; try omega)
    exact ⟨by omega, rfl, of_eq_true (clo_bytes _ _ _)⟩
  · rintro ⟨u, L⟩ hx N hN
    simp only at hx ⊢
    have hl := hx.len h1
    have hu0 := hx.low
    have hun := hx.le
    have a1 := and_u15 u hu0 (by omega)
    have a2 := shr4 u hu0
    have t1 := laid_take L hl
    have t2 := laid_drop L hl
    have t3 := fun d => laid_all L d hl
    have d1 : bt ⟨#[48, 49, 50, 51, 52, 53, 54, 55, 56, 57, 97, 98, 99, 100, 101, 102, 103, 104, 105, 106, 107, 108, 109, 110, 111, 112, 113, 114, 115, 116, 117, 118, 119, 120, 121, 122]⟩ (u % 16) = hexD (u % 16) := digT_at _ (by omega) (by omega)
    have d2 : u < 16 → bt ⟨#[48, 49, 50, 51, 52, 53, 54, 55, 56, 57, 97, 98, 99, 100, 101, 102, 103, 104, 105, 106, 107, 108, 109, 110, 111, 112, 113, 114, 115, 116, 117, 118, 119, 120, 121, 122]⟩ u = hexD u := fun h => digT_at _ hu0 h
    refine Wr.go ?_
    repeat' ((first | (have ee := True.intro; refine Wr.mk ?_) | ((first | refine br_go ?_ ?_ | refine pick_go ?_ ?_) <;> intro ee f <;> (try simp only [BB] at f) <;> (try simp only [numOk, verOk] at f))) <;> (try simp (maxSteps := 1000000) (disch := first | omega | (simp only [LN, numOk, verOk, a1, a2, t1, t2, t3, d1, d2, List.all_append, data_bytes, Bool.and_self] <;> omega) | exact Ck.mk rfl) only [ee, VC, T, Nat.reduceMul, Nat.reduceAdd, Nat.reduceSub, Nat.reduceLT, Nat.reduceEqDiff, Nat.reduceLeDiff, Nat.reduceBEq, reduceCtorEq, Int.reduceToNat, ↓reduceIte, a1, a2, t1, t2, t3, d1, d2, List.all_append, data_bytes, Bool.and_self]) <;> (try clear ee))
    · refine hN (u / 16, hexD (u % 16) :: L) _ (hx.step f) (by simp only; omega) ?_
      (simp (disch := first | omega | (simp only [LN, numOk, verOk] <;> omega) | exact Ck.mk rfl) only [SB, EQ, Nat.reduceMul, Nat.reduceAdd, Nat.reduceSub, Nat.reduceLT, Nat.reduceEqDiff, Nat.reduceLeDiff, Nat.reduceBEq, reduceCtorEq, Int.reduceToNat, ↓reduceIte]; try omega)
      exact ⟨by omega, by rw [← List.map_append, List.append_assoc, show 65 - (L.length + 1) = 64 - L.length by omega]; rfl, of_eq_true (clo_bytes _ _ _)⟩
    · obtain ⟨q1, q2⟩ := hx.fin f
      rw [show PV.int .u8 (hexD u) :: List.map (PV.int .u8) L = (hexL (L.length + 1) n).map (PV.int .u8) by rw [← q1]; rfl]
      refine ⟨fun z hz => ?_, L.length, by omega, q2, by rw [strP_map .u8 _ rfl]⟩
      obtain ⟨x, hx', rfl⟩ := List.mem_map.1 hz
      have := hexL_range _ _ x hx'
      exact ⟨by omega, by omega⟩
theorem intFormat16 (n : Int) (h0 : 0 ≤ n) (h1 : n < 4294967296) : FnV Tryz.prog 196 [.int .i64 n, .int .i64 16] (fun r => ∃ k : Nat, k < 8 ∧ n < 16 ^ (k + 1) ∧ r = .str (strOf (hexL (k + 1) n))) := by
  have e1 : n % 18446744073709551616 = n := by omega
  have e2 : decide (n < 0) = false := decide_eq_false (by omega)
  refine fn_v tok (n := 54) (rs := [.tmp 4]) Tryz.func196 (by decide) rfl rfl rfl rfl ?_
  refine Wr.go ?_
  repeat' ((first | (have ee := True.intro; refine Wr.mk ?_) | ((first | refine br_go ?_ ?_ | refine pick_go ?_ ?_) <;> intro ee f <;> (try simp only [BB] at f) <;> (try simp only [numOk, verOk] at f))) <;> (try simp (maxSteps := 1000000) (disch := first | omega | (simp only [LN, numOk, verOk, e1, e2] <;> omega) | exact Ck.mk rfl) only [ee, VC, T, Nat.reduceMul, Nat.reduceAdd, Nat.reduceSub, Nat.reduceLT, Nat.reduceEqDiff, Nat.reduceLeDiff, Nat.reduceBEq, reduceCtorEq, Int.reduceToNat, ↓reduceIte, e1, e2]) <;> (try clear ee))
  refine call_v (fmtBits n h0 h1) rfl ?_
  rintro _ ⟨k, hk, hn, rfl⟩
  refine ⟨⟨rfl⟩, ?_⟩
  refine Wr.go ?_
  repeat' ((first | (have ee := True.intro; refine Wr.mk ?_) | ((first | refine br_go ?_ ?_ | refine pick_go ?_ ?_) <;> intro ee f <;> (try simp only [BB] at f) <;> (try simp only [numOk, verOk] at f))) <;> (try simp (maxSteps := 1000000) (disch := first | omega | (simp only [LN, numOk, verOk] <;> omega) | exact Ck.mk rfl) only [ee, VC, T, Nat.reduceMul, Nat.reduceAdd, Nat.reduceSub, Nat.reduceLT, Nat.reduceEqDiff, Nat.reduceLeDiff, Nat.reduceBEq, reduceCtorEq, Int.reduceToNat, ↓reduceIte]) <;> (try clear ee))
  exact ⟨k, hk, hn, rfl⟩
theorem format16 (n : Int) (h0 : 0 ≤ n) (h1 : n < 4294967296) : FnV Tryz.prog 159 [.int .i64 n, .int .i64 16] (fun r => ∃ k : Nat, k < 8 ∧ n < 16 ^ (k + 1) ∧ r = .str (strOf (hexL (k + 1) n))) := by
  refine fn_v tok (n := 8) (rs := [.tmp 4]) Tryz.func159 (by decide) rfl rfl rfl rfl ?_
  refine Wr.go ?_
  repeat' ((first | (have ee := True.intro; refine Wr.mk ?_) | ((first | refine br_go ?_ ?_ | refine pick_go ?_ ?_) <;> intro ee f <;> (try simp only [BB] at f) <;> (try simp only [numOk, verOk] at f))) <;> (try simp (maxSteps := 1000000) (disch := first | omega | (simp only [LN, numOk, verOk] <;> omega) | exact Ck.mk rfl) only [ee, VC, T, Nat.reduceMul, Nat.reduceAdd, Nat.reduceSub, Nat.reduceLT, Nat.reduceEqDiff, Nat.reduceLeDiff, Nat.reduceBEq, reduceCtorEq, Int.reduceToNat, ↓reduceIte]) <;> (try clear ee))
  refine call_v (intFormat16 n h0 h1) rfl ?_
  rintro _ ⟨k, hk, hn, rfl⟩
  refine ⟨⟨rfl⟩, ?_⟩
  refine Wr.go ?_
  repeat' ((first | (have ee := True.intro; refine Wr.mk ?_) | ((first | refine br_go ?_ ?_ | refine pick_go ?_ ?_) <;> intro ee f <;> (try simp only [BB] at f) <;> (try simp only [numOk, verOk] at f))) <;> (try simp (maxSteps := 1000000) (disch := first | omega | (simp only [LN, numOk, verOk] <;> omega) | exact Ck.mk rfl) only [ee, VC, T, Nat.reduceMul, Nat.reduceAdd, Nat.reduceSub, Nat.reduceLT, Nat.reduceEqDiff, Nat.reduceLeDiff, Nat.reduceBEq, reduceCtorEq, Int.reduceToNat, ↓reduceIte]) <;> (try clear ee))
  exact ⟨k, hk, hn, rfl⟩
theorem mul64_1 (c : Int) (h : c = 2 ∨ c = 3 ∨ c = 4 ∨ c = 5 ∨ c = 6 ∨ c = 7) : Fn Tryz.prog 239 [.int .u64 1, .int .u64 c] [] (.tup [.int .u64 0, .int .u64 c]) [] := by
  have h1 : Go.bits .and .u64 1 4294967295 = 1 := by decide
  have h2 : Go.bits .and .u64 0 4294967295 = 0 := by decide
  have h3 : Go.bits .and .u64 c 4294967295 = c := by rcases h with rfl | rfl | rfl | rfl | rfl | rfl <;> decide
  have h4 : shr .u64 1 32 = 0 := by decide
  have h5 : shr .u64 0 32 = 0 := by decide
  have h6 : shr .u64 c 32 = 0 := by rcases h with rfl | rfl | rfl | rfl | rfl | rfl <;> decide
  have h7 : c % 18446744073709551616 = c := by omega
  refine fn_x tok (n := 51) (rs := [.tmp 4, .tmp 5]) Tryz.func239 (by decide) rfl rfl rfl rfl ?_
  refine Wr.go ?_
  repeat' ((first | (have ee := True.intro; refine Wr.mk ?_) | ((first | refine br_go ?_ ?_ | refine pick_go ?_ ?_) <;> intro ee f <;> (try simp only [BB] at f) <;> (try simp only [numOk, verOk] at f))) <;> (try simp (maxSteps := 1000000) (disch := first | omega | (simp only [LN, numOk, verOk, h1, h2, h3, h4, h5, h6, h7, Int.one_mul, Int.zero_mul, Int.mul_zero, Int.add_zero, Int.zero_add, Int.zero_emod] <;> omega) | exact Ck.mk rfl) only [ee, VC, T, Nat.reduceMul, Nat.reduceAdd, Nat.reduceSub, Nat.reduceLT, Nat.reduceEqDiff, Nat.reduceLeDiff, Nat.reduceBEq, reduceCtorEq, Int.reduceToNat, ↓reduceIte, h1, h2, h3, h4, h5, h6, h7, Int.one_mul, Int.zero_mul, Int.mul_zero, Int.add_zero, Int.zero_add, Int.zero_emod]) <;> (try clear ee))
theorem mul_1 (c : Int) (h : c = 2 ∨ c = 3 ∨ c = 4 ∨ c = 5 ∨ c = 6 ∨ c = 7) : Fn Tryz.prog 197 [.int .u64 1, .int .u64 c] [] (.tup [.int .u64 0, .int .u64 c]) [] := by
  refine fn_x tok (n := 30) (rs := [.tmp 4, .tmp 5]) Tryz.func197 (by decide) rfl rfl rfl rfl ?_
  refine Wr.go ?_
  repeat' ((first | (have ee := True.intro; refine Wr.mk ?_) | ((first | refine br_go ?_ ?_ | refine pick_go ?_ ?_) <;> intro ee f <;> (try simp only [BB] at f) <;> (try simp only [numOk, verOk] at f)) | (have ee := True.intro; first | refine call_x (mul64_1 c h) rfl ⟨rfl⟩ ?_)) <;> (try simp (maxSteps := 1000000) (disch := first | omega | (simp only [LN, numOk, verOk] <;> omega) | exact Ck.mk rfl) only [ee, VC, T, Nat.reduceMul, Nat.reduceAdd, Nat.reduceSub, Nat.reduceLT, Nat.reduceEqDiff, Nat.reduceLeDiff, Nat.reduceBEq, reduceCtorEq, Int.reduceToNat, ↓reduceIte]) <;> (try clear ee))
theorem prefixOf0 (s : ByteArray) (h : 1 ≤ s.size) : Fn Tryz.prog 240 [.str s, .str ⟨#[48]⟩] [] (.bool (decide (bt s 0 = 48))) [] := by
  have e : (s.extract 0 1 = ⟨#[48]⟩) = (bt s 0 = 48) := by
    obtain ⟨⟨l⟩⟩ := s
    cases l with
    | nil => exact absurd h (by decide)
    | cons x l =>
      have e1 : ByteArray.extract ⟨⟨x :: l⟩⟩ 0 1 = ⟨#[x]⟩ := ByteArray.ext (by simp [ByteArray.data_extract])
      rw [e1]
      show _ = ((x.toNat : Int) = 48)
      refine propext ⟨fun h => ?_, fun h => ?_⟩
      · have : x = 48 := by simpa using h
        subst this; rfl
      · have : x = 48 := UInt8.toNat.inj (by show x.toNat = 48; omega)
        rw [this]
  refine fn_x tok (n := 18) (rs := [.tmp 4]) Tryz.func240 (by decide) rfl rfl rfl rfl ?_
  refine Wr.go ?_
  repeat' ((first | (have ee := True.intro; refine Wr.mk ?_) | ((first | refine br_go ?_ ?_ | refine pick_go ?_ ?_) <;> intro ee f <;> (try simp only [BB] at f) <;> (try simp only [numOk, verOk] at f))) <;> (try simp (maxSteps := 1000000) (disch := first | omega | (simp only [LN, numOk, verOk, e] <;> omega) | exact Ck.mk rfl) only [ee, VC, T, Nat.reduceMul, Nat.reduceAdd, Nat.reduceSub, Nat.reduceLT, Nat.reduceEqDiff, Nat.reduceLeDiff, Nat.reduceBEq, reduceCtorEq, Int.reduceToNat, ↓reduceIte, e]) <;> (try clear ee))
theorem hasPrefix0 (s : ByteArray) (h : 1 ≤ s.size) : Fn Tryz.prog 198 [.str s, .str ⟨#[48]⟩] [] (.bool (decide (bt s 0 = 48))) [] := by
  refine fn_x tok (n := 8) (rs := [.tmp 4]) Tryz.func198 (by decide) rfl rfl rfl rfl ?_
  refine Wr.go ?_
  repeat' ((first | (have ee := True.intro; refine Wr.mk ?_) | ((first | refine br_go ?_ ?_ | refine pick_go ?_ ?_) <;> intro ee f <;> (try simp only [BB] at f) <;> (try simp only [numOk, verOk] at f)) | (have ee := True.intro; first | refine call_x (prefixOf0 s h) rfl ⟨rfl⟩ ?_)) <;> (try simp (maxSteps := 1000000) (disch := first | omega | (simp only [LN, numOk, verOk] <;> omega) | exact Ck.mk rfl) only [ee, VC, T, Nat.reduceMul, Nat.reduceAdd, Nat.reduceSub, Nat.reduceLT, Nat.reduceEqDiff, Nat.reduceLeDiff, Nat.reduceBEq, reduceCtorEq, Int.reduceToNat, ↓reduceIte]) <;> (try clear ee))
theorem repeat0 (c : Int) (h : 0 ≤ c ∧ c ≤ 7) : Fn Tryz.prog 160 [.str ⟨#[48]⟩, .int .i64 c] [] (.str (strOf (List.replicate c.toNat 48))) [] := by
  obtain rfl | rfl | h : c = 0 ∨ c = 1 ∨ (c = 2 ∨ c = 3 ∨ c = 4 ∨ c = 5 ∨ c = 6 ∨ c = 7) := by omega
  · refine fn_x tok (n := 125) (rs := [.tmp 4]) Tryz.func160 (by decide) rfl rfl rfl rfl ?_
    refine Wr.go ?_
    repeat' ((first | (have ee := True.intro; refine Wr.mk ?_) | ((first | refine br_go ?_ ?_ | refine pick_go ?_ ?_) <;> intro ee f <;> (try simp only [BB] at f) <;> (try simp only [numOk, verOk] at f))) <;> (try simp (maxSteps := 1000000) (disch := first | omega | (simp only [LN, numOk, verOk] <;> omega) | exact Ck.mk rfl) only [ee, VC, T, Nat.reduceMul, Nat.reduceAdd, Nat.reduceSub, Nat.reduceLT, Nat.reduceEqDiff, Nat.reduceLeDiff, Nat.reduceBEq, reduceCtorEq, Int.reduceToNat, ↓reduceIte]) <;> (try clear ee))
    rfl
  · refine fn_x tok (n := 125) (rs := [.tmp 4]) Tryz.func160 (by decide) rfl rfl rfl rfl ?_
    refine Wr.go ?_
    repeat' ((first | (have ee := True.intro; refine Wr.mk ?_) | ((first | refine br_go ?_ ?_ | refine pick_go ?_ ?_) <;> intro ee f <;> (try simp only [BB] at f) <;> (try simp only [numOk, verOk] at f))) <;> (try simp (maxSteps := 1000000) (disch := first | omega | (simp only [LN, numOk, verOk] <;> omega) | exact Ck.mk rfl) only [ee, VC, T, Nat.reduceMul, Nat.reduceAdd, Nat.reduceSub, Nat.reduceLT, Nat.reduceEqDiff, Nat.reduceLeDiff, Nat.reduceBEq, reduceCtorEq, Int.reduceToNat, ↓reduceIte]) <;> (try clear ee))
    rfl
  · have h7 : c % 18446744073709551616 = c := by omega
    have h8 : (1 : Int) % 18446744073709551616 = 1 := by decide
    refine fn_x tok (n := 125) (rs := [.tmp 4]) Tryz.func160 (by decide) rfl rfl rfl rfl ?_
    have b0 : bt ⟨#[48]⟩ 0 = 48 := by decide
    have w1 : ∀ l m : List UInt8, bt ⟨((32 :: l).append m).toArray⟩ 0 = 32 := fun _ _ => rfl
    have w2 : ∀ l m : List UInt8, bt ⟨((45 :: l).append m).toArray⟩ 0 = 45 := fun _ _ => rfl
    have w3 : ∀ l : List UInt8, bt ⟨(48 :: l).toArray⟩ 0 = 48 := fun _ => rfl
    have z1 : ∀ l m : List UInt8, 1 ≤ ByteArray.size ⟨((32 :: l).append m).toArray⟩ := fun l m => Nat.succ_le_succ (Nat.zero_le _)
    have z2 : ∀ l m : List UInt8, 1 ≤ ByteArray.size ⟨((45 :: l).append m).toArray⟩ := fun l m => Nat.succ_le_succ (Nat.zero_le _)
    have z3 : ∀ l : List UInt8, 1 ≤ ByteArray.size ⟨(48 :: l).toArray⟩ := fun l => Nat.succ_le_succ (Nat.zero_le _)
    refine Wr.go ?_
    repeat' ((first | (have ee := True.intro; refine Wr.mk ?_) | ((first | refine br_go ?_ ?_ | refine pick_go ?_ ?_) <;> intro ee f <;> (try simp only [BB] at f) <;> (try simp only [numOk, verOk] at f)) | (have ee := True.intro; first | refine call_x (mul_1 c h) rfl ⟨rfl⟩ ?_ | refine call_x (hasPrefix0 _ (z1 _ _)) rfl ⟨rfl⟩ ?_ | refine call_x (hasPrefix0 _ (z2 _ _)) rfl ⟨rfl⟩ ?_ | refine call_x (hasPrefix0 _ (z3 _)) rfl ⟨rfl⟩ ?_)) <;> (try simp (maxSteps := 1000000) (disch := first | omega | (simp only [LN, numOk, verOk, h7, h8, b0, w1, w2, w3, decide_true] <;> omega) | exact Ck.mk rfl) only [ee, VC, T, Nat.reduceMul, Nat.reduceAdd, Nat.reduceSub, Nat.reduceLT, Nat.reduceEqDiff, Nat.reduceLeDiff, Nat.reduceBEq, reduceCtorEq, Int.reduceToNat, ↓reduceIte, h7, h8, b0, w1, w2, w3, decide_true]) <;> (try clear ee))
    rcases h with rfl | rfl | rfl | rfl | rfl | rfl <;> rfl
theorem strOf_app (l m : List Int) : strOf (l ++ m) = strOf l ++ strOf m := by
  unfold strOf
  refine ByteArray.ext ?_
  rw [ByteArray.data_append, List.map_append, List.append_toArray]
theorem shr16 (n : Int) (j : Nat) (h0 : 0 ≤ n) (h : j ≤ 7) : shr .i64 n (4 * (7 - (j : Int)) % 18446744073709551616) = n / 16 ^ (7 - j) := by
  unfold shr
  have e : min (4 * (7 - (j : Int)) % 18446744073709551616).toNat IntKind.i64.bits = 4 * (7 - j) := by
    show min _ 64 = _
    omega
  rw [e, Int.pow_mul]
  exact Int.fdiv_eq_ediv_of_nonneg _ (Int.le_of_lt (Int.pow_pos (by decide)))
theorem hex_next (n : Int) (j : Nat) (h : j ≤ 7) : hexL (j + 1) (n / 16 ^ (8 - (j + 1))) = hexL j (n / 16 ^ (8 - j)) ++ [hexD (n / 16 ^ (7 - j) % 16)] := by
  rw [hexL, show 8 - (j + 1) = 7 - j by omega, Int.ediv_ediv_of_nonneg (Int.le_of_lt (Int.pow_pos (by decide))), ← Int.pow_succ, show (7 - j).succ = 8 - j by omega]
theorem segT_form (n : Int) (h : numOk n) (k : Nat) (hk : k < 8) (hn : n < 16 ^ (k + 1)) : ⟨#[115]⟩ ++ strOf (List.replicate (8 - ((k : Int) + 1)).toNat 48) ++ strOf (hexL (k + 1) n) ++ ⟨#[46, 115, 101, 103]⟩ = segT n := by
  have e := hexL_pad (k + 1) (8 - (k + 1)) n h.1 hn
  rw [show k + 1 + (8 - (k + 1)) = 8 by omega] at e
  unfold segT segL
  rw [if_pos h, e, show (8 - ((k : Int) + 1)).toNat = 8 - (k + 1) by omega]
  rw [strOf_app ([115] ++ (List.replicate (8 - (k + 1)) 48 ++ hexL (k + 1) n)), strOf_app [115], strOf_app (List.replicate (8 - (k + 1)) 48), ByteArray.append_assoc, ByteArray.append_assoc, ByteArray.append_assoc, ByteArray.append_assoc]
  rfl
theorem impl_SegmentName (n : Int) (hn : i64 n) : Fn Tryz.prog 111 [.int .i64 n] [] (.str (segT n)) [] := by
  by_cases h : numOk n
  · have hs := segT_form n h
    generalize segT n = q at *
    obtain ⟨h0, h1⟩ := h
    refine fn_x tok (n := 17) (rs := [.tmp 2]) Tryz.func111 (by decide) rfl rfl rfl rfl ?_
    refine Wr.go ?_
    repeat' ((first | (have ee := True.intro; refine Wr.mk ?_) | ((first | refine br_go ?_ ?_ | refine pick_go ?_ ?_) <;> intro ee f <;> (try simp only [BB] at f) <;> (try simp only [numOk, verOk] at f)) | (have ee := True.intro; first | refine call_x (impl_isNumber n) rfl ⟨rfl⟩ ?_)) <;> (try simp (maxSteps := 1000000) (disch := first | omega | (simp only [LN, numOk, verOk] <;> omega) | exact Ck.mk rfl) only [ee, VC, T, Nat.reduceMul, Nat.reduceAdd, Nat.reduceSub, Nat.reduceLT, Nat.reduceEqDiff, Nat.reduceLeDiff, Nat.reduceBEq, reduceCtorEq, Int.reduceToNat, ↓reduceIte]) <;> (try clear ee))
    refine call_v (format16 n h0 (by omega)) rfl ?_
    rintro _ ⟨k, hk, hx, rfl⟩
    refine ⟨⟨rfl⟩, ?_⟩
    have hz := strOf_size (hexL (k + 1) n)
    rw [hexL_length] at hz
    have hr := repeat0 (8 - ((k : Int) + 1)) (by omega)
    have hz2 := strOf_size (List.replicate (8 - ((k : Int) + 1)).toNat 48)
    rw [List.length_replicate] at hz2
    have hs := hs k hk hx
    refine Wr.go ?_
    repeat' ((first | (have ee := True.intro; refine Wr.mk ?_) | ((first | refine br_go ?_ ?_ | refine pick_go ?_ ?_) <;> intro ee f <;> (try simp only [BB] at f) <;> (try simp only [numOk, verOk] at f)) | (have ee := True.intro; first | refine call_x (hr) rfl ⟨rfl⟩ ?_)) <;> (try simp (maxSteps := 1000000) (disch := first | omega | (simp only [LN, numOk, verOk, hz] <;> omega) | exact Ck.mk rfl) only [ee, VC, T, Nat.reduceMul, Nat.reduceAdd, Nat.reduceSub, Nat.reduceLT, Nat.reduceEqDiff, Nat.reduceLeDiff, Nat.reduceBEq, reduceCtorEq, Int.reduceToNat, ↓reduceIte, hz]) <;> (try clear ee))
    rw [← hs]
  · have e : segT n = ⟨#[]⟩ := if_neg h
    rw [e]
    refine fn_x tok (n := 17) (rs := [.tmp 2]) Tryz.func111 (by decide) rfl rfl rfl rfl ?_
    refine Wr.go ?_
    repeat' ((first | (have ee := True.intro; refine Wr.mk ?_) | ((first | refine br_go ?_ ?_ | refine pick_go ?_ ?_) <;> intro ee f <;> (try simp only [BB] at f) <;> (try simp only [numOk, verOk] at f)) | (have ee := True.intro; first | refine call_x (impl_isNumber n) rfl ⟨rfl⟩ ?_)) <;> (try simp (maxSteps := 1000000) (disch := first | omega | (simp only [LN, numOk, verOk] <;> omega) | exact Ck.mk rfl) only [ee, VC, T, Nat.reduceMul, Nat.reduceAdd, Nat.reduceSub, Nat.reduceLT, Nat.reduceEqDiff, Nat.reduceLeDiff, Nat.reduceBEq, reduceCtorEq, Int.reduceToNat, ↓reduceIte]) <;> (try clear ee))
theorem spec_SegmentName (n : Int) (hn : i64 n) : Fn Tryz.prog 126 [.int .i64 n] [] (.str (segT n)) [] := by
  by_cases h : numOk n
  · have e : segT n = strOf (segL n) := if_pos h
    rw [e]
    obtain ⟨h0, h1⟩ := h
    refine fn_x tok (n := 27) (rs := [.tmp 2]) Tryz.func126 (by decide) rfl rfl rfl rfl ?_
    refine Wr.go ?_
    repeat' ((first | (have ee := True.intro; refine Wr.mk ?_) | ((first | refine br_go ?_ ?_ | refine pick_go ?_ ?_) <;> intro ee f <;> (try simp only [BB] at f) <;> (try simp only [numOk, verOk] at f)) | (have ee := True.intro; first | refine call_x (spec_l01In _ _ _) rfl ⟨rfl⟩ ?_)) <;> (try simp (maxSteps := 1000000) (disch := first | omega | (simp only [LN, numOk, verOk] <;> omega) | exact Ck.mk rfl) only [ee, VC, T, Nat.reduceMul, Nat.reduceAdd, Nat.reduceSub, Nat.reduceLT, Nat.reduceEqDiff, Nat.reduceLeDiff, Nat.reduceBEq, reduceCtorEq, Int.reduceToNat, ↓reduceIte]) <;> (try clear ee))
    refine lp_go (fun j : Nat => ⟨27, [(0, .int .i64 n), (3, .row 576 j), (4, .int .i64 (7 - j))], [(576, .row ⟨1, 0⟩ ((hexL j (n / 16 ^ (8 - j))).map (.int .u8)))]⟩) (fun j => j ≤ 8) (fun j => 8 - j) 0 ?_ (by decide) ?_
    · (simp (disch := first | omega | (simp only [LN, numOk, verOk] <;> omega) | exact Ck.mk rfl) only [SB, EQ, Nat.reduceMul, Nat.reduceAdd, Nat.reduceSub, Nat.reduceLT, Nat.reduceEqDiff, Nat.reduceLeDiff, Nat.reduceBEq, reduceCtorEq, Int.reduceToNat, ↓reduceIte]; try omega)
      exact ⟨rfl, rfl⟩
    · intro j hj N hN
      have a1 : ∀ s, Go.bits .and .i64 s 15 = s % 16 := fun s => and_mask64 s 4 (by decide)
      have a2 := shr16 n j h0
      have a3 := hexL_length j (n / 16 ^ (8 - j))
      have a4 : bt ⟨#[48, 49, 50, 51, 52, 53, 54, 55, 56, 57, 97, 98, 99, 100, 101, 102]⟩ (n / 16 ^ (7 - j) % 16) = hexD (n / 16 ^ (7 - j) % 16) := hexT_at _ (by omega) (by omega)
      have a5 := hex_next n j
      refine Wr.go ?_
      repeat' ((first | (have ee := True.intro; refine Wr.mk ?_) | ((first | refine br_go ?_ ?_ | refine pick_go ?_ ?_) <;> intro ee f <;> (try simp only [BB] at f) <;> (try simp only [numOk, verOk] at f))) <;> (try simp (maxSteps := 1000000) (disch := first | omega | (simp only [LN, numOk, verOk, a1, a2, a3, a4] <;> omega) | exact Ck.mk rfl) only [ee, VC, T, Nat.reduceMul, Nat.reduceAdd, Nat.reduceSub, Nat.reduceLT, Nat.reduceEqDiff, Nat.reduceLeDiff, Nat.reduceBEq, reduceCtorEq, Int.reduceToNat, ↓reduceIte, a1, a2, a3, a4]) <;> (try clear ee))
      · refine hN (j + 1) _ (by omega) (by omega) ?_
        rw [a5 (by omega)]
        (simp (disch := first | omega | (simp only [LN, numOk, verOk] <;> omega) | exact Ck.mk rfl) only [SB, EQ, Nat.reduceMul, Nat.reduceAdd, Nat.reduceSub, Nat.reduceLT, Nat.reduceEqDiff, Nat.reduceLeDiff, Nat.reduceBEq, reduceCtorEq, Int.reduceToNat, ↓reduceIte]; try omega)
      · obtain rfl : j = 8 := by omega
        have hz := strOf_size (hexL 8 (n / 16 ^ (8 - 8)))
        rw [hexL_length] at hz
        refine ⟨fun x hx => ?_, by omega, by omega, ?_⟩
        · have := hexL_range _ _ x hx
          omega
        · rw [show n / 16 ^ (8 - 8) = n by simp]
          unfold segL
          rw [strOf_app, strOf_app]
          rfl
  · have e : segT n = ⟨#[]⟩ := if_neg h
    rw [e]
    refine fn_x tok (n := 27) (rs := [.tmp 2]) Tryz.func126 (by decide) rfl rfl rfl rfl ?_
    refine Wr.go ?_
    repeat' ((first | (have ee := True.intro; refine Wr.mk ?_) | ((first | refine br_go ?_ ?_ | refine pick_go ?_ ?_) <;> intro ee f <;> (try simp only [BB] at f) <;> (try simp only [numOk, verOk] at f)) | (have ee := True.intro; first | refine call_x (spec_l01In _ _ _) rfl ⟨rfl⟩ ?_)) <;> (try simp (maxSteps := 1000000) (disch := first | omega | (simp only [LN, numOk, verOk] <;> omega) | exact Ck.mk rfl) only [ee, VC, T, Nat.reduceMul, Nat.reduceAdd, Nat.reduceSub, Nat.reduceLT, Nat.reduceEqDiff, Nat.reduceLeDiff, Nat.reduceBEq, reduceCtorEq, Int.reduceToNat, ↓reduceIte]) <;> (try clear ee))
    · exact absurd f h
end Go.Pv

/- What functions of the program and of the reference do, in plain values. -/
namespace Go.Pv
open Go.Proofs Go.Mth
set_option linter.unusedSimpArgs false
set_option linter.unusedVariables false
set_option maxHeartbeats 4000000
set_option maxRecDepth 4000

/-! ### disks: nodes and entries, files -/
def ndP (x : Nd) : PV := .agg [.int .i64 x.1, .str x.2.1, .int .i64 x.2.2]
def enP (x : Et) : PV := .agg [.str x.1, .int .i64 x.2]
def dkP (d : Dk) : PV := .agg [.far (d.1.map ndP), .far (d.2.1.map enP), .far (d.2.2.1.map enP), .far (d.2.2.2.1.map .str), .int .i64 d.2.2.2.2.1, .int .i64 d.2.2.2.2.2]
theorem impl_placeOf_lit (x : Et) (n : ByteArray) : Fn Tryz.prog 257 [enP x, .fel [.str n]] [] (.bool (decide (x.1 = n))) [] := by
  obtain ⟨a, b⟩ := x
  unfold enP
  refine fn_x tok (n := 8) (rs := [.tmp 3]) Tryz.func257 (by decide) rfl rfl rfl rfl ?_
  refine Wr.go ?_
  repeat' ((first | (have ee := True.intro; refine Wr.mk ?_) | ((first | refine br_go ?_ ?_ | refine pick_go ?_ ?_) <;> intro ee f <;> (try simp only [BB] at f) <;> (try simp only [numOk, verOk] at f))) <;> (try simp (maxSteps := 1000000) (disch := first | omega | (simp only [LN, numOk, verOk, rfP, rvP, rhP, frP] <;> omega) | exact Ck.mk rfl) only [ee, VC, T, Nat.reduceMul, Nat.reduceAdd, Nat.reduceSub, Nat.reduceLT, Nat.reduceEqDiff, Nat.reduceLeDiff, Nat.reduceBEq, reduceCtorEq, Int.reduceToNat, ↓reduceIte, rfP, rvP, rhP, frP]) <;> (try clear ee))
theorem impl_nodeOf_lit (x : Nd) (n : Int) : Fn Tryz.prog 259 [ndP x, .fel [.int .i64 n]] [] (.bool (decide (x.1 = n))) [] := by
  obtain ⟨a, b, c⟩ := x
  unfold ndP
  refine fn_x tok (n := 8) (rs := [.tmp 3]) Tryz.func259 (by decide) rfl rfl rfl rfl ?_
  refine Wr.go ?_
  repeat' ((first | (have ee := True.intro; refine Wr.mk ?_) | ((first | refine br_go ?_ ?_ | refine pick_go ?_ ?_) <;> intro ee f <;> (try simp only [BB] at f) <;> (try simp only [numOk, verOk] at f))) <;> (try simp (maxSteps := 1000000) (disch := first | omega | (simp only [LN, numOk, verOk, rfP, rvP, rhP, frP] <;> omega) | exact Ck.mk rfl) only [ee, VC, T, Nat.reduceMul, Nat.reduceAdd, Nat.reduceSub, Nat.reduceLT, Nat.reduceEqDiff, Nat.reduceLeDiff, Nat.reduceBEq, reduceCtorEq, Int.reduceToNat, ↓reduceIte, rfP, rvP, rhP, frP]) <;> (try clear ee))
theorem indexE (es : List Et) (n : ByteArray) (hl : es.length ≤ 1048576) : Fn Tryz.prog 256 [.far (es.map enP), .fn (.func 257) [.fel [.str n]]] [] (.int .i64 (placeI es n)) [] := by
  have hst := findI_step (fun e : Et => decide (e.1 = n)) es
  have hen := findI_end (fun e : Et => decide (e.1 = n)) es
  refine fn_x tok (n := 19) (rs := [.tmp 4]) Tryz.func256 (by decide) rfl rfl rfl rfl ?_
  refine Wr.go ?_
  repeat' ((first | (have ee := True.intro; refine Wr.mk ?_) | ((first | refine br_go ?_ ?_ | refine pick_go ?_ ?_) <;> intro ee f <;> (try simp only [BB] at f) <;> (try simp only [numOk, verOk] at f))) <;> (try simp (maxSteps := 1000000) (disch := first | omega | (simp only [LN, numOk, verOk, rfP, rvP, rhP, frP] <;> omega) | exact Ck.mk rfl) only [ee, VC, T, Nat.reduceMul, Nat.reduceAdd, Nat.reduceSub, Nat.reduceLT, Nat.reduceEqDiff, Nat.reduceLeDiff, Nat.reduceBEq, reduceCtorEq, Int.reduceToNat, ↓reduceIte, rfP, rvP, rhP, frP]) <;> (try clear ee))
  refine lp_go (fun i : Nat => ⟨19, [(0, .far (es.map enP)), (1, .fn (.func 257) [.fel [.str n]]), (7, .int .i64 es.length), (8, .int .i64 i)], []⟩) (fun i => i ≤ es.length ∧ placeI es n = findI (fun e => decide (e.1 = n)) (es.drop i) i) (fun i => es.length - i) 0 ?_ ⟨Nat.zero_le _, rfl⟩ ?_
  · (simp (disch := first | omega | (simp only [LN, numOk, verOk] <;> omega) | exact Ck.mk rfl) only [SB, EQ, Nat.reduceMul, Nat.reduceAdd, Nat.reduceSub, Nat.reduceLT, Nat.reduceEqDiff, Nat.reduceLeDiff, Nat.reduceBEq, reduceCtorEq, Int.reduceToNat, ↓reduceIte]; try omega)
  · rintro i ⟨h1, h2⟩ N hN
    have hg : i < es.length → (es.map enP).getD i .junk = .agg [.str (es.getD i default).1, .int .i64 (es.getD i default).2] := fun h => by
      rw [List.getD_eq_getElem?_getD, List.getElem?_map, List.getElem?_eq_getElem h, List.getD_eq_getElem?_getD, List.getElem?_eq_getElem h]; rfl
    have hst := hst i
    have hen := hen i
    refine Wr.go ?_
    repeat' ((first | (have ee := True.intro; refine Wr.mk ?_) | ((first | refine br_go ?_ ?_ | refine pick_go ?_ ?_) <;> intro ee f <;> (try simp only [BB] at f) <;> (try simp only [numOk, verOk] at f)) | (have ee := True.intro; first | refine call_x (impl_placeOf_lit (es.getD i default) n) rfl ⟨rfl⟩ ?_)) <;> (try simp (maxSteps := 1000000) (disch := first | omega | (simp only [LN, numOk, verOk, rfP, rvP, rhP, frP, hg] <;> omega) | exact Ck.mk rfl) only [ee, VC, T, Nat.reduceMul, Nat.reduceAdd, Nat.reduceSub, Nat.reduceLT, Nat.reduceEqDiff, Nat.reduceLeDiff, Nat.reduceBEq, reduceCtorEq, Int.reduceToNat, ↓reduceIte, rfP, rvP, rhP, frP, hg]) <;> (try clear ee))
    · rw [h2, hst (by omega), if_pos (decide_eq_true f)]
    · refine hN (i + 1) _ ⟨by omega, ?_⟩ (by omega) ?_
      · rw [h2, hst (by omega), if_neg (by rw [decide_eq_false f]; decide)]
      · (simp (disch := first | omega | (simp only [LN, numOk, verOk] <;> omega) | exact Ck.mk rfl) only [SB, EQ, Nat.reduceMul, Nat.reduceAdd, Nat.reduceSub, Nat.reduceLT, Nat.reduceEqDiff, Nat.reduceLeDiff, Nat.reduceBEq, reduceCtorEq, Int.reduceToNat, ↓reduceIte]; try omega)
    · rw [h2, hen (by omega)]
theorem indexN (es : List Nd) (n : Int) (hl : es.length ≤ 1048576) : Fn Tryz.prog 258 [.far (es.map ndP), .fn (.func 259) [.fel [.int .i64 n]]] [] (.int .i64 (nodeI es n)) [] := by
  have hst := findI_step (fun e : Nd => decide (e.1 = n)) es
  have hen := findI_end (fun e : Nd => decide (e.1 = n)) es
  refine fn_x tok (n := 19) (rs := [.tmp 4]) Tryz.func258 (by decide) rfl rfl rfl rfl ?_
  refine Wr.go ?_
  repeat' ((first | (have ee := True.intro; refine Wr.mk ?_) | ((first | refine br_go ?_ ?_ | refine pick_go ?_ ?_) <;> intro ee f <;> (try simp only [BB] at f) <;> (try simp only [numOk, verOk] at f))) <;> (try simp (maxSteps := 1000000) (disch := first | omega | (simp only [LN, numOk, verOk, rfP, rvP, rhP, frP] <;> omega) | exact Ck.mk rfl) only [ee, VC, T, Nat.reduceMul, Nat.reduceAdd, Nat.reduceSub, Nat.reduceLT, Nat.reduceEqDiff, Nat.reduceLeDiff, Nat.reduceBEq, reduceCtorEq, Int.reduceToNat, ↓reduceIte, rfP, rvP, rhP, frP]) <;> (try clear ee))
  refine lp_go (fun i : Nat => ⟨19, [(0, .far (es.map ndP)), (1, .fn (.func 259) [.fel [.int .i64 n]]), (7, .int .i64 es.length), (8, .int .i64 i)], []⟩) (fun i => i ≤ es.length ∧ nodeI es n = findI (fun e => decide (e.1 = n)) (es.drop i) i) (fun i => es.length - i) 0 ?_ ⟨Nat.zero_le _, rfl⟩ ?_
  · (simp (disch := first | omega | (simp only [LN, numOk, verOk] <;> omega) | exact Ck.mk rfl) only [SB, EQ, Nat.reduceMul, Nat.reduceAdd, Nat.reduceSub, Nat.reduceLT, Nat.reduceEqDiff, Nat.reduceLeDiff, Nat.reduceBEq, reduceCtorEq, Int.reduceToNat, ↓reduceIte]; try omega)
  · rintro i ⟨h1, h2⟩ N hN
    have hg : i < es.length → (es.map ndP).getD i .junk = .agg [.int .i64 (es.getD i default).1, .str (es.getD i default).2.1, .int .i64 (es.getD i default).2.2] := fun h => by
      rw [List.getD_eq_getElem?_getD, List.getElem?_map, List.getElem?_eq_getElem h, List.getD_eq_getElem?_getD, List.getElem?_eq_getElem h]; rfl
    have hst := hst i
    have hen := hen i
    refine Wr.go ?_
    repeat' ((first | (have ee := True.intro; refine Wr.mk ?_) | ((first | refine br_go ?_ ?_ | refine pick_go ?_ ?_) <;> intro ee f <;> (try simp only [BB] at f) <;> (try simp only [numOk, verOk] at f)) | (have ee := True.intro; first | refine call_x (impl_nodeOf_lit (es.getD i default) n) rfl ⟨rfl⟩ ?_)) <;> (try simp (maxSteps := 1000000) (disch := first | omega | (simp only [LN, numOk, verOk, rfP, rvP, rhP, frP, hg] <;> omega) | exact Ck.mk rfl) only [ee, VC, T, Nat.reduceMul, Nat.reduceAdd, Nat.reduceSub, Nat.reduceLT, Nat.reduceEqDiff, Nat.reduceLeDiff, Nat.reduceBEq, reduceCtorEq, Int.reduceToNat, ↓reduceIte, rfP, rvP, rhP, frP, hg]) <;> (try clear ee))
    · rw [h2, hst (by omega), if_pos (decide_eq_true f)]
    · refine hN (i + 1) _ ⟨by omega, ?_⟩ (by omega) ?_
      · rw [h2, hst (by omega), if_neg (by rw [decide_eq_false f]; decide)]
      · (simp (disch := first | omega | (simp only [LN, numOk, verOk] <;> omega) | exact Ck.mk rfl) only [SB, EQ, Nat.reduceMul, Nat.reduceAdd, Nat.reduceSub, Nat.reduceLT, Nat.reduceEqDiff, Nat.reduceLeDiff, Nat.reduceBEq, reduceCtorEq, Int.reduceToNat, ↓reduceIte]; try omega)
    · rw [h2, hen (by omega)]
theorem impl_placeOf (es : List Et) (n : ByteArray) (hl : es.length ≤ 1048576) : Fn Tryz.prog 232 [.far (es.map enP), .str n] [] (.int .i64 (placeI es n)) [] := by
  refine fn_x tok (n := 8) (rs := [.tmp 4]) Tryz.func232 (by decide) rfl rfl rfl rfl ?_
  refine Wr.go ?_
  repeat' ((first | (have ee := True.intro; refine Wr.mk ?_) | ((first | refine br_go ?_ ?_ | refine pick_go ?_ ?_) <;> intro ee f <;> (try simp only [BB] at f) <;> (try simp only [numOk, verOk] at f)) | (have ee := True.intro; first | (refine call_hx [] [256] (indexE es n hl) (by decide) ?_ rfl ?_; (focus (first | rfl | (simp (maxSteps := 1000000) (disch := first | omega | (simp only [LN, numOk, verOk, rfP, rvP, rhP, frP] <;> omega) | exact Ck.mk rfl) only [VC, T, Nat.reduceMul, Nat.reduceAdd, Nat.reduceSub, Nat.reduceLT, Nat.reduceEqDiff, Nat.reduceLeDiff, Nat.reduceBEq, reduceCtorEq, Int.reduceToNat, ↓reduceIte, rfP, rvP, rhP, frP]; done)))))) <;> (try simp (maxSteps := 1000000) (disch := first | omega | (simp only [LN, numOk, verOk, rfP, rvP, rhP, frP] <;> omega) | exact Ck.mk rfl) only [ee, VC, T, Nat.reduceMul, Nat.reduceAdd, Nat.reduceSub, Nat.reduceLT, Nat.reduceEqDiff, Nat.reduceLeDiff, Nat.reduceBEq, reduceCtorEq, Int.reduceToNat, ↓reduceIte, rfP, rvP, rhP, frP]) <;> (try clear ee))
theorem impl_nodeOf (d : Dk) (k : Int) (hl : d.1.length ≤ 1048576) : Fn Tryz.prog 233 [dkP d, .int .i64 k] [] (.int .i64 (nodeI d.1 k)) [] := by
  unfold dkP
  refine fn_x tok (n := 9) (rs := [.tmp 4]) Tryz.func233 (by decide) rfl rfl rfl rfl ?_
  refine Wr.go ?_
  repeat' ((first | (have ee := True.intro; refine Wr.mk ?_) | ((first | refine br_go ?_ ?_ | refine pick_go ?_ ?_) <;> intro ee f <;> (try simp only [BB] at f) <;> (try simp only [numOk, verOk] at f)) | (have ee := True.intro; first | (refine call_hx [] [256] (indexN d.1 k hl) (by decide) ?_ rfl ?_; (focus (first | rfl | (simp (maxSteps := 1000000) (disch := first | omega | (simp only [LN, numOk, verOk, rfP, rvP, rhP, frP] <;> omega) | exact Ck.mk rfl) only [VC, T, Nat.reduceMul, Nat.reduceAdd, Nat.reduceSub, Nat.reduceLT, Nat.reduceEqDiff, Nat.reduceLeDiff, Nat.reduceBEq, reduceCtorEq, Int.reduceToNat, ↓reduceIte, rfP, rvP, rhP, frP]; done)))))) <;> (try simp (maxSteps := 1000000) (disch := first | omega | (simp only [LN, numOk, verOk, rfP, rvP, rhP, frP] <;> omega) | exact Ck.mk rfl) only [ee, VC, T, Nat.reduceMul, Nat.reduceAdd, Nat.reduceSub, Nat.reduceLT, Nat.reduceEqDiff, Nat.reduceLeDiff, Nat.reduceBEq, reduceCtorEq, Int.reduceToNat, ↓reduceIte, rfP, rvP, rhP, frP]) <;> (try clear ee))
theorem impl_nodeAt (d : Dk) (n : ByteArray) (h : DkOk d) : Fn Tryz.prog 195 [dkP d, .str n] [] (.int .i64 (nodeP d n)) [] := by
  have hp := impl_placeOf d.2.1 n h.es
  have hr := placeI_r d.2.1 n
  have hn := fun k => impl_nodeOf d k h.ns
  unfold nodeP
  unfold dkP at *
  generalize placeI d.2.1 n = p at *
  have hg : (p.toNat < d.2.1.length) → (d.2.1.map enP).getD p.toNat .junk = .agg [.str (d.2.1.getD p.toNat default).1, .int .i64 (d.2.1.getD p.toNat default).2] := fun h => by
    rw [List.getD_eq_getElem?_getD, List.getElem?_map, List.getElem?_eq_getElem h, List.getD_eq_getElem?_getD, List.getElem?_eq_getElem h]; rfl
  refine fn_x tok (n := 20) (rs := [.tmp 4]) Tryz.func195 (by decide) rfl rfl rfl rfl ?_
  refine Wr.go ?_
  repeat' ((first | (have ee := True.intro; refine Wr.mk ?_) | ((first | refine br_go ?_ ?_ | refine pick_go ?_ ?_) <;> intro ee f <;> (try simp only [BB] at f) <;> (try simp only [numOk, verOk] at f)) | (have ee := True.intro; first | refine dr_go mixed (id := 4) [([], [2], []), ([], [2], []), ([1], [13], []), ([], [5], []), ([1, 2, 3], [14, 15], []), ([1, 2, 3, 4], [16], []), ([1, 2, 3, 4, 5], [17], []), ([0, 1, 2, 3, 4, 5, 6], [12, 18], []), ([0, 1, 2, 3, 4, 5, 6, 7], [19], [])] rfl rfl rfl ?_ | refine call_x (hp) rfl ⟨rfl⟩ ?_ | refine call_x (hn _) rfl ⟨rfl⟩ ?_)) <;> (try simp (maxSteps := 1000000) (disch := first | omega | (simp only [LN, numOk, verOk, rfP, rvP, rhP, frP, hg] <;> omega) | exact Ck.mk rfl) only [ee, VC, T, Nat.reduceMul, Nat.reduceAdd, Nat.reduceSub, Nat.reduceLT, Nat.reduceEqDiff, Nat.reduceLeDiff, Nat.reduceBEq, reduceCtorEq, Int.reduceToNat, ↓reduceIte, rfP, rvP, rhP, frP, hg]) <;> (try clear ee))
  · rw [if_pos f]
  · rw [if_neg (by omega)]
theorem impl_NodeAt (d : Dk) (n : ByteArray) (h : DkOk d) : Fn Tryz.prog 158 [dkP d, .str n] [] (.tup [ndP (nodeT d n).1, .bool (nodeT d n).2]) [] := by
  have hp := impl_nodeAt d n h
  have hr := nodeP_r d n
  unfold nodeT
  unfold dkP at *
  generalize nodeP d n = p at *
  have hg : (p.toNat < d.1.length) → (d.1.map ndP).getD p.toNat .junk = .agg [.int .i64 (d.1.getD p.toNat default).1, .str (d.1.getD p.toNat default).2.1, .int .i64 (d.1.getD p.toNat default).2.2] := fun h => by
    rw [List.getD_eq_getElem?_getD, List.getElem?_map, List.getElem?_eq_getElem h, List.getD_eq_getElem?_getD, List.getElem?_eq_getElem h]; rfl
  refine fn_x tok (n := 18) (rs := [.cell 4 104, .tmp 5]) Tryz.func158 (by decide) rfl rfl rfl rfl ?_
  refine Wr.go ?_
  repeat' ((first | (have ee := True.intro; refine Wr.mk ?_) | ((first | refine br_go ?_ ?_ | refine pick_go ?_ ?_) <;> intro ee f <;> (try simp only [BB] at f) <;> (try simp only [numOk, verOk] at f)) | (have ee := True.intro; first | refine call_x (hp) rfl ⟨rfl⟩ ?_)) <;> (try simp (maxSteps := 1000000) (disch := first | omega | (simp only [LN, numOk, verOk, rfP, rvP, rhP, frP, hg] <;> omega) | exact Ck.mk rfl) only [ee, VC, T, Nat.reduceMul, Nat.reduceAdd, Nat.reduceSub, Nat.reduceLT, Nat.reduceEqDiff, Nat.reduceLeDiff, Nat.reduceBEq, reduceCtorEq, Int.reduceToNat, ↓reduceIte, rfP, rvP, rhP, frP, hg]) <;> (try clear ee))
  · rw [if_pos f]; rfl
  · rw [if_neg (by omega)]; rfl
theorem spec_EntryAt (es : List Et) (n : ByteArray) (hl : es.length ≤ 16777216) : Fn Tryz.prog 100 [.far (es.map enP), .str n] [] (.int .i64 (entT es n)) [] := by
  have hst := findI_step (fun e : Et => decide (e.1 = n)) es
  have hen := findI_end (fun e : Et => decide (e.1 = n)) es
  refine fn_x tok (n := 24) (rs := [.tmp 4]) Tryz.func100 (by decide) rfl rfl rfl rfl ?_
  refine Wr.go ?_
  repeat' ((first | (have ee := True.intro; refine Wr.mk ?_) | ((first | refine br_go ?_ ?_ | refine pick_go ?_ ?_) <;> intro ee f <;> (try simp only [BB] at f) <;> (try simp only [numOk, verOk] at f))) <;> (try simp (maxSteps := 1000000) (disch := first | omega | (simp only [LN, numOk, verOk, rfP, rvP, rhP, frP] <;> omega) | exact Ck.mk rfl) only [ee, VC, T, Nat.reduceMul, Nat.reduceAdd, Nat.reduceSub, Nat.reduceLT, Nat.reduceEqDiff, Nat.reduceLeDiff, Nat.reduceBEq, reduceCtorEq, Int.reduceToNat, ↓reduceIte, rfP, rvP, rhP, frP]) <;> (try clear ee))
  refine lp_go (fun i : Nat => ⟨24, [(0, .far (es.map enP)), (1, .str n), (5, .int .i64 i)], []⟩) (fun i => i ≤ es.length ∧ placeI es n = findI (fun e => decide (e.1 = n)) (es.drop i) i) (fun i => es.length - i) 0 ?_ ⟨Nat.zero_le _, rfl⟩ ?_
  · (simp (disch := first | omega | (simp only [LN, numOk, verOk] <;> omega) | exact Ck.mk rfl) only [SB, EQ, Nat.reduceMul, Nat.reduceAdd, Nat.reduceSub, Nat.reduceLT, Nat.reduceEqDiff, Nat.reduceLeDiff, Nat.reduceBEq, reduceCtorEq, Int.reduceToNat, ↓reduceIte]; try omega)
  · rintro i ⟨h1, h2⟩ N hN
    have hg : i < es.length → (es.map enP).getD i .junk = .agg [.str (es.getD i default).1, .int .i64 (es.getD i default).2] := fun h => by
      rw [List.getD_eq_getElem?_getD, List.getElem?_map, List.getElem?_eq_getElem h, List.getD_eq_getElem?_getD, List.getElem?_eq_getElem h]; rfl
    have hst := hst i
    have hen := hen i
    refine Wr.go ?_
    repeat' ((first | (have ee := True.intro; refine Wr.mk ?_) | ((first | refine br_go ?_ ?_ | refine pick_go ?_ ?_) <;> intro ee f <;> (try simp only [BB] at f) <;> (try simp only [numOk, verOk] at f))) <;> (try simp (maxSteps := 1000000) (disch := first | omega | (simp only [LN, numOk, verOk, rfP, rvP, rhP, frP, hg] <;> omega) | exact Ck.mk rfl) only [ee, VC, T, Nat.reduceMul, Nat.reduceAdd, Nat.reduceSub, Nat.reduceLT, Nat.reduceEqDiff, Nat.reduceLeDiff, Nat.reduceBEq, reduceCtorEq, Int.reduceToNat, ↓reduceIte, rfP, rvP, rhP, frP, hg]) <;> (try clear ee))
    · unfold entT
      rw [h2, hst (by omega), if_pos (decide_eq_true f), if_neg (by omega), Int.toNat_natCast]
    · refine hN (i + 1) _ ⟨by omega, ?_⟩ (by omega) ?_
      · rw [h2, hst (by omega), if_neg (by rw [decide_eq_false f]; decide)]
      · (simp (disch := first | omega | (simp only [LN, numOk, verOk] <;> omega) | exact Ck.mk rfl) only [SB, EQ, Nat.reduceMul, Nat.reduceAdd, Nat.reduceSub, Nat.reduceLT, Nat.reduceEqDiff, Nat.reduceLeDiff, Nat.reduceBEq, reduceCtorEq, Int.reduceToNat, ↓reduceIte]; try omega)
    · unfold entT
      rw [h2, hen (by omega), if_pos (by decide)]
theorem spec_l06Has (es : List Et) (n : ByteArray) (hl : es.length ≤ 16777216) : Fn Tryz.prog 95 [.far (es.map enP), .str n] [] (.bool (decide (0 ≤ placeI es n))) [] := by
  have hst := findI_step (fun e : Et => decide (e.1 = n)) es
  have hen := findI_end (fun e : Et => decide (e.1 = n)) es
  refine fn_x tok (n := 19) (rs := [.tmp 4]) Tryz.func95 (by decide) rfl rfl rfl rfl ?_
  refine Wr.go ?_
  repeat' ((first | (have ee := True.intro; refine Wr.mk ?_) | ((first | refine br_go ?_ ?_ | refine pick_go ?_ ?_) <;> intro ee f <;> (try simp only [BB] at f) <;> (try simp only [numOk, verOk] at f))) <;> (try simp (maxSteps := 1000000) (disch := first | omega | (simp only [LN, numOk, verOk, rfP, rvP, rhP, frP] <;> omega) | exact Ck.mk rfl) only [ee, VC, T, Nat.reduceMul, Nat.reduceAdd, Nat.reduceSub, Nat.reduceLT, Nat.reduceEqDiff, Nat.reduceLeDiff, Nat.reduceBEq, reduceCtorEq, Int.reduceToNat, ↓reduceIte, rfP, rvP, rhP, frP]) <;> (try clear ee))
  refine lp_go (fun i : Nat => ⟨19, [(0, .far (es.map enP)), (1, .str n), (5, .int .i64 i)], []⟩) (fun i => i ≤ es.length ∧ placeI es n = findI (fun e => decide (e.1 = n)) (es.drop i) i) (fun i => es.length - i) 0 ?_ ⟨Nat.zero_le _, rfl⟩ ?_
  · (simp (disch := first | omega | (simp only [LN, numOk, verOk] <;> omega) | exact Ck.mk rfl) only [SB, EQ, Nat.reduceMul, Nat.reduceAdd, Nat.reduceSub, Nat.reduceLT, Nat.reduceEqDiff, Nat.reduceLeDiff, Nat.reduceBEq, reduceCtorEq, Int.reduceToNat, ↓reduceIte]; try omega)
  · rintro i ⟨h1, h2⟩ N hN
    have hg : i < es.length → (es.map enP).getD i .junk = .agg [.str (es.getD i default).1, .int .i64 (es.getD i default).2] := fun h => by
      rw [List.getD_eq_getElem?_getD, List.getElem?_map, List.getElem?_eq_getElem h, List.getD_eq_getElem?_getD, List.getElem?_eq_getElem h]; rfl
    have hst := hst i
    have hen := hen i
    refine Wr.go ?_
    repeat' ((first | (have ee := True.intro; refine Wr.mk ?_) | ((first | refine br_go ?_ ?_ | refine pick_go ?_ ?_) <;> intro ee f <;> (try simp only [BB] at f) <;> (try simp only [numOk, verOk] at f))) <;> (try simp (maxSteps := 1000000) (disch := first | omega | (simp only [LN, numOk, verOk, rfP, rvP, rhP, frP, hg] <;> omega) | exact Ck.mk rfl) only [ee, VC, T, Nat.reduceMul, Nat.reduceAdd, Nat.reduceSub, Nat.reduceLT, Nat.reduceEqDiff, Nat.reduceLeDiff, Nat.reduceBEq, reduceCtorEq, Int.reduceToNat, ↓reduceIte, rfP, rvP, rhP, frP, hg]) <;> (try clear ee))
    · rw [h2, hst (by omega), if_pos (decide_eq_true f), decide_eq_true (by omega)]
    · refine hN (i + 1) _ ⟨by omega, ?_⟩ (by omega) ?_
      · rw [h2, hst (by omega), if_neg (by rw [decide_eq_false f]; decide)]
      · (simp (disch := first | omega | (simp only [LN, numOk, verOk] <;> omega) | exact Ck.mk rfl) only [SB, EQ, Nat.reduceMul, Nat.reduceAdd, Nat.reduceSub, Nat.reduceLT, Nat.reduceEqDiff, Nat.reduceLeDiff, Nat.reduceBEq, reduceCtorEq, Int.reduceToNat, ↓reduceIte]; try omega)
    · rw [h2, hen (by omega)]; rfl
theorem spec_l05Node (d : Dk) (k : Int) (hl : d.1.length ≤ 1048576) : Fn Tryz.prog 99 [dkP d, .int .i64 k] [] (.int .i64 (nodeI d.1 k)) [] := by
  obtain ⟨ns, es, os, ss, r, x⟩ := d
  simp only at hl ⊢
  have hst := findI_step (fun e : Nd => decide (e.1 = k)) ns
  have hen := findI_end (fun e : Nd => decide (e.1 = k)) ns
  unfold dkP
  refine fn_x tok (n := 22) (rs := [.tmp 4]) Tryz.func99 (by decide) rfl rfl rfl rfl ?_
  refine Wr.go ?_
  repeat' ((first | (have ee := True.intro; refine Wr.mk ?_) | ((first | refine br_go ?_ ?_ | refine pick_go ?_ ?_) <;> intro ee f <;> (try simp only [BB] at f) <;> (try simp only [numOk, verOk] at f))) <;> (try simp (maxSteps := 1000000) (disch := first | omega | (simp only [LN, numOk, verOk, rfP, rvP, rhP, frP] <;> omega) | exact Ck.mk rfl) only [ee, VC, T, Nat.reduceMul, Nat.reduceAdd, Nat.reduceSub, Nat.reduceLT, Nat.reduceEqDiff, Nat.reduceLeDiff, Nat.reduceBEq, reduceCtorEq, Int.reduceToNat, ↓reduceIte, rfP, rvP, rhP, frP]) <;> (try clear ee))
  refine lp_go (fun i : Nat => ⟨22, [(1, .int .i64 k), (2, .ref 192 0), (5, .int .i64 i)], [(192, .box 32 [.far (ns.map ndP), .far (es.map enP), .far (os.map enP), .far (ss.map .str), .int .i64 r, .int .i64 x])]⟩) (fun i => i ≤ ns.length ∧ nodeI ns k = findI (fun e => decide (e.1 = k)) (ns.drop i) i) (fun i => ns.length - i) 0 ?_ ⟨Nat.zero_le _, rfl⟩ ?_
  · (simp (disch := first | omega | (simp only [LN, numOk, verOk] <;> omega) | exact Ck.mk rfl) only [SB, EQ, Nat.reduceMul, Nat.reduceAdd, Nat.reduceSub, Nat.reduceLT, Nat.reduceEqDiff, Nat.reduceLeDiff, Nat.reduceBEq, reduceCtorEq, Int.reduceToNat, ↓reduceIte]; try omega)
  · rintro i ⟨h1, h2⟩ N hN
    have hg : i < ns.length → (ns.map ndP).getD i .junk = .agg [.int .i64 (ns.getD i default).1, .str (ns.getD i default).2.1, .int .i64 (ns.getD i default).2.2] := fun h => by
      rw [List.getD_eq_getElem?_getD, List.getElem?_map, List.getElem?_eq_getElem h, List.getD_eq_getElem?_getD, List.getElem?_eq_getElem h]; rfl
    have hst := hst i
    have hen := hen i
    refine Wr.go ?_
    repeat' ((first | (have ee := True.intro; refine Wr.mk ?_) | ((first | refine br_go ?_ ?_ | refine pick_go ?_ ?_) <;> intro ee f <;> (try simp only [BB] at f) <;> (try simp only [numOk, verOk] at f))) <;> (try simp (maxSteps := 1000000) (disch := first | omega | (simp only [LN, numOk, verOk, rfP, rvP, rhP, frP, hg] <;> omega) | exact Ck.mk rfl) only [ee, VC, T, Nat.reduceMul, Nat.reduceAdd, Nat.reduceSub, Nat.reduceLT, Nat.reduceEqDiff, Nat.reduceLeDiff, Nat.reduceBEq, reduceCtorEq, Int.reduceToNat, ↓reduceIte, rfP, rvP, rhP, frP, hg]) <;> (try clear ee))
    · rw [h2, hst (by omega), if_pos (decide_eq_true f)]
    · refine hN (i + 1) _ ⟨by omega, ?_⟩ (by omega) ?_
      · rw [h2, hst (by omega), if_neg (by rw [decide_eq_false f]; decide)]
      · (simp (disch := first | omega | (simp only [LN, numOk, verOk] <;> omega) | exact Ck.mk rfl) only [SB, EQ, Nat.reduceMul, Nat.reduceAdd, Nat.reduceSub, Nat.reduceLT, Nat.reduceEqDiff, Nat.reduceLeDiff, Nat.reduceBEq, reduceCtorEq, Int.reduceToNat, ↓reduceIte]; try omega)
    · rw [h2, hen (by omega)]
theorem spec_NodeAt (d : Dk) (n : ByteArray) (h : DkOk d) : Fn Tryz.prog 179 [dkP d, .str n] [] (.tup [ndP (nodeT d n).1, .bool (nodeT d n).2]) [] := by
  have hE := spec_EntryAt d.2.1 n (Nat.le_trans h.es (by decide))
  have hH := spec_l06Has d.2.1 n (Nat.le_trans h.es (by decide))
  have hN := fun k => spec_l05Node d k h.ns
  have hr := placeI_r d.2.1 n
  have hk := nodeI_r d.1 (entT d.2.1 n)
  have hp : ¬ placeI d.2.1 n < 0 → nodeP d n = nodeI d.1 (entT d.2.1 n) := fun h => by unfold nodeP entT; rw [if_neg h, if_neg h]
  have hp0 : placeI d.2.1 n < 0 → nodeP d n = -1 := fun h => by unfold nodeP; rw [if_pos h]
  unfold nodeT
  unfold dkP at *
  generalize nodeP d n = p at *
  generalize placeI d.2.1 n = a at *
  generalize entT d.2.1 n = e at *
  have hN := hN e
  generalize nodeI d.1 e = z at *
  have hg : (z.toNat < d.1.length) → (d.1.map ndP).getD z.toNat .junk = .agg [.int .i64 (d.1.getD z.toNat default).1, .str (d.1.getD z.toNat default).2.1, .int .i64 (d.1.getD z.toNat default).2.2] := fun h => by
    rw [List.getD_eq_getElem?_getD, List.getElem?_map, List.getElem?_eq_getElem h, List.getD_eq_getElem?_getD, List.getElem?_eq_getElem h]; rfl
  refine fn_x tok (n := 28) (rs := [.cell 4 104, .tmp 5]) Tryz.func179 (by decide) rfl rfl rfl rfl ?_
  refine Wr.go ?_
  repeat' ((first | (have ee := True.intro; refine Wr.mk ?_) | ((first | refine br_go ?_ ?_ | refine pick_go ?_ ?_) <;> intro ee f <;> (try simp only [BB] at f) <;> (try simp only [numOk, verOk] at f)) | (have ee := True.intro; first | refine dr_go mixed (id := 1) [([], [2], []), ([], [2], []), ([1], [8], []), ([], [1], []), ([1, 2, 3], [9, 10], []), ([0, 1, 2, 3, 4], [7, 11], []), ([0, 1, 2, 3, 4, 5], [12], [])] rfl rfl rfl ?_ | refine call_x (hE) rfl ⟨rfl⟩ ?_ | refine call_x (hN) rfl ⟨rfl⟩ ?_ | refine call_x (hH) rfl ⟨rfl⟩ ?_)) <;> (try simp (maxSteps := 1000000) (disch := first | omega | (simp only [LN, numOk, verOk, rfP, rvP, rhP, frP, hg] <;> omega) | exact Ck.mk rfl) only [ee, VC, T, Nat.reduceMul, Nat.reduceAdd, Nat.reduceSub, Nat.reduceLT, Nat.reduceEqDiff, Nat.reduceLeDiff, Nat.reduceBEq, reduceCtorEq, Int.reduceToNat, ↓reduceIte, rfP, rvP, rhP, frP, hg]) <;> (try clear ee))
  · have hq : p < 0 := by
      by_cases ha : a < 0
      · rw [hp0 ha]; decide
      · rw [hp ha]; exact f
    rw [if_pos hq]; rfl
  · rw [hp (by omega), if_neg (by omega)]; rfl
  · rw [hp0 (by omega), if_pos (by decide)]; rfl
theorem impl_ReadFile (d : Dk) (n : ByteArray) (h : DkOk d) : Fn Tryz.prog 110 [dkP d, .str n] [] (.tup [.str (fileT d n).1, .bool (fileT d n).2]) [] := by
  have hp := impl_NodeAt d n h
  unfold fileT
  generalize nodeT d n = q at *
  obtain ⟨⟨a, b, c⟩, ok⟩ := q
  unfold dkP ndP at *
  refine fn_x tok (n := 17) (rs := [.tmp 4, .tmp 5]) Tryz.func110 (by decide) rfl rfl rfl rfl ?_
  refine Wr.go ?_
  repeat' ((first | (have ee := True.intro; refine Wr.mk ?_) | ((first | refine br_go ?_ ?_ | refine pick_go ?_ ?_) <;> intro ee f <;> (try simp only [BB] at f) <;> (try simp only [numOk, verOk] at f)) | (have ee := True.intro; first | refine call_x (hp) rfl ⟨rfl⟩ ?_)) <;> (try simp (maxSteps := 1000000) (disch := first | omega | (simp only [LN, numOk, verOk, rfP, rvP, rhP, frP] <;> omega) | exact Ck.mk rfl) only [ee, VC, T, Nat.reduceMul, Nat.reduceAdd, Nat.reduceSub, Nat.reduceLT, Nat.reduceEqDiff, Nat.reduceLeDiff, Nat.reduceBEq, reduceCtorEq, Int.reduceToNat, ↓reduceIte, rfP, rvP, rhP, frP]) <;> (try clear ee))
theorem spec_ReadFile (d : Dk) (n : ByteArray) (h : DkOk d) : Fn Tryz.prog 133 [dkP d, .str n] [] (.tup [.str (fileT d n).1, .bool (fileT d n).2]) [] := by
  have hp := spec_NodeAt d n h
  unfold fileT
  generalize nodeT d n = q at *
  obtain ⟨⟨a, b, c⟩, ok⟩ := q
  unfold dkP ndP at *
  refine fn_x tok (n := 17) (rs := [.tmp 4, .tmp 5]) Tryz.func133 (by decide) rfl rfl rfl rfl ?_
  refine Wr.go ?_
  repeat' ((first | (have ee := True.intro; refine Wr.mk ?_) | ((first | refine br_go ?_ ?_ | refine pick_go ?_ ?_) <;> intro ee f <;> (try simp only [BB] at f) <;> (try simp only [numOk, verOk] at f)) | (have ee := True.intro; first | refine call_x (hp) rfl ⟨rfl⟩ ?_)) <;> (try simp (maxSteps := 1000000) (disch := first | omega | (simp only [LN, numOk, verOk, rfP, rvP, rhP, frP] <;> omega) | exact Ck.mk rfl) only [ee, VC, T, Nat.reduceMul, Nat.reduceAdd, Nat.reduceSub, Nat.reduceLT, Nat.reduceEqDiff, Nat.reduceLeDiff, Nat.reduceBEq, reduceCtorEq, Int.reduceToNat, ↓reduceIte, rfP, rvP, rhP, frP]) <;> (try clear ee))
theorem impl_TextAt (d : Dk) (b : Int) (h : DkOk d) (hb : i64 b) : Fn Tryz.prog 51 [dkP d, .int .i64 b] [] (.str (textT d b)) [] := by
  have hp := impl_ReadFile d (segT b) h
  have hs := impl_SegmentName b hb
  unfold textT
  generalize fileT d (segT b) = q at *
  generalize segT b = s at *
  obtain ⟨t, ok⟩ := q
  unfold dkP at *
  refine fn_x tok (n := 15) (rs := [.tmp 4]) Tryz.func51 (by decide) rfl rfl rfl rfl ?_
  refine Wr.go ?_
  repeat' ((first | (have ee := True.intro; refine Wr.mk ?_) | ((first | refine br_go ?_ ?_ | refine pick_go ?_ ?_) <;> intro ee f <;> (try simp only [BB] at f) <;> (try simp only [numOk, verOk] at f)) | (have ee := True.intro; first | refine dr_go mixed (id := 1) [([], [2], []), ([], [1], []), ([1], [9], []), ([0, 1, 2], [8, 10], []), ([0, 1, 2, 3], [11], []), ([0, 1, 2, 3, 4], [7], []), ([0, 1, 2, 3, 4], [7], []), ([0, 1, 2, 3, 4, 5], [12], []), ([0, 1, 2, 3, 4, 5, 6, 7], [13], [])] rfl rfl rfl ?_ | refine call_x (hs) rfl ⟨rfl⟩ ?_ | refine call_x (hp) rfl ⟨rfl⟩ ?_)) <;> (try simp (maxSteps := 1000000) (disch := first | omega | (simp only [LN, numOk, verOk, rfP, rvP, rhP, frP] <;> omega) | exact Ck.mk rfl) only [ee, VC, T, Nat.reduceMul, Nat.reduceAdd, Nat.reduceSub, Nat.reduceLT, Nat.reduceEqDiff, Nat.reduceLeDiff, Nat.reduceBEq, reduceCtorEq, Int.reduceToNat, ↓reduceIte, rfP, rvP, rhP, frP]) <;> (try clear ee))
theorem spec_TextAt (d : Dk) (b : Int) (h : DkOk d) (hb : i64 b) : Fn Tryz.prog 79 [dkP d, .int .i64 b] [] (.str (textT d b)) [] := by
  have hp := spec_ReadFile d (segT b) h
  have hs := spec_SegmentName b hb
  unfold textT
  generalize fileT d (segT b) = q at *
  generalize segT b = s at *
  obtain ⟨t, ok⟩ := q
  unfold dkP at *
  refine fn_x tok (n := 15) (rs := [.tmp 4]) Tryz.func79 (by decide) rfl rfl rfl rfl ?_
  refine Wr.go ?_
  repeat' ((first | (have ee := True.intro; refine Wr.mk ?_) | ((first | refine br_go ?_ ?_ | refine pick_go ?_ ?_) <;> intro ee f <;> (try simp only [BB] at f) <;> (try simp only [numOk, verOk] at f)) | (have ee := True.intro; first | refine dr_go mixed (id := 1) [([], [2], []), ([], [1], []), ([1], [9], []), ([0, 1, 2], [8, 10], []), ([0, 1, 2, 3], [11], []), ([0, 1, 2, 3, 4], [7], []), ([0, 1, 2, 3, 4], [7], []), ([0, 1, 2, 3, 4, 5], [12], []), ([0, 1, 2, 3, 4, 5, 6, 7], [13], [])] rfl rfl rfl ?_ | refine call_x (hs) rfl ⟨rfl⟩ ?_ | refine call_x (hp) rfl ⟨rfl⟩ ?_)) <;> (try simp (maxSteps := 1000000) (disch := first | omega | (simp only [LN, numOk, verOk, rfP, rvP, rhP, frP] <;> omega) | exact Ck.mk rfl) only [ee, VC, T, Nat.reduceMul, Nat.reduceAdd, Nat.reduceSub, Nat.reduceLT, Nat.reduceEqDiff, Nat.reduceLeDiff, Nat.reduceBEq, reduceCtorEq, Int.reduceToNat, ↓reduceIte, rfP, rvP, rhP, frP]) <;> (try clear ee))
end Go.Pv

/- What functions of the program and of the reference do, in plain values. -/
namespace Go.Pv
open Go.Proofs Go.Mth
set_option linter.unusedSimpArgs false
set_option linter.unusedVariables false
set_option maxHeartbeats 4000000
set_option maxRecDepth 4000

/-! ### the reference's deeds on disks: names, decimals, steps -/
theorem spec_NameOk (b : ByteArray) (hb : b.size ≤ 9223372036854775807) : Fn Tryz.prog 94 [.str b] [] (.bool (decide (nmOk b))) [] := by
  have hlast : (∀ i : Nat, i < b.size → nmB (bt b i)) → nmOk b = (1 ≤ (b.size : Int) ∧ (b.size : Int) ≤ 20) := fun h => propext ⟨fun q => by have := q.2; omega, fun q => ⟨h, by omega⟩⟩
  have hno : ∀ i : Nat, i < b.size → ¬ nmB (bt b i) → nmOk b = False := fun i hi h => propext ⟨fun q => h (q.1 i hi), False.elim⟩
  refine fn_x tok (n := 34) (rs := [.tmp 2]) Tryz.func94 (by decide) rfl rfl rfl rfl ?_
  refine Wr.go ?_
  repeat' ((first | (have ee := True.intro; refine Wr.mk ?_) | ((first | refine br_go ?_ ?_ | refine pick_go ?_ ?_) <;> intro ee f <;> (try simp only [BB] at f) <;> (try simp only [numOk, verOk] at f))) <;> (try simp (maxSteps := 1000000) (disch := first | omega | (simp only [LN, numOk, verOk, rfP, rvP, rhP, frP] <;> omega) | exact Ck.mk rfl) only [ee, VC, T, Nat.reduceMul, Nat.reduceAdd, Nat.reduceSub, Nat.reduceLT, Nat.reduceEqDiff, Nat.reduceLeDiff, Nat.reduceBEq, reduceCtorEq, Int.reduceToNat, ↓reduceIte, rfP, rvP, rhP, frP]) <;> (try clear ee))
  refine lp_go (fun i : Nat => ⟨34, [(0, .str b), (3, .int .i64 i)], []⟩) (fun i => i ≤ b.size ∧ ∀ j : Nat, j < i → nmB (bt b j)) (fun i => b.size - i) 0 ?_ ⟨Nat.zero_le _, fun j h => by omega⟩ ?_
  · (simp (disch := first | omega | (simp only [LN, numOk, verOk] <;> omega) | exact Ck.mk rfl) only [SB, EQ, Nat.reduceMul, Nat.reduceAdd, Nat.reduceSub, Nat.reduceLT, Nat.reduceEqDiff, Nat.reduceLeDiff, Nat.reduceBEq, reduceCtorEq, Int.reduceToNat, ↓reduceIte]; try omega)
  · rintro i ⟨h1, h2⟩ N hN
    have hno := hno i
    have hr := bt_range b i
    have hnx : nmB (bt b i) → ∀ j : Nat, j < i + 1 → nmB (bt b j) := fun h j hj => by
      by_cases e : j = i
      · rw [e]; exact h
      · exact h2 j (by omega)
    have hB : nmB (bt b i) = ((97 ≤ bt b i ∧ bt b i ≤ 122) ∨ (48 ≤ bt b i ∧ bt b i ≤ 57) ∨ bt b i = 46 ∨ bt b i = 45) := rfl
    refine Wr.go ?_
    repeat' ((first | (have ee := True.intro; refine Wr.mk ?_) | ((first | refine br_go ?_ ?_ | refine pick_go ?_ ?_) <;> intro ee f <;> (try simp only [BB] at f) <;> (try simp only [numOk, verOk] at f)) | (have ee := True.intro; first | refine call_x (spec_l01In _ _ _) rfl ⟨rfl⟩ ?_)) <;> (try simp (maxSteps := 1000000) (disch := first | omega | (simp only [LN, numOk, verOk, rfP, rvP, rhP, frP] <;> omega) | exact Ck.mk rfl) only [ee, VC, T, Nat.reduceMul, Nat.reduceAdd, Nat.reduceSub, Nat.reduceLT, Nat.reduceEqDiff, Nat.reduceLeDiff, Nat.reduceBEq, reduceCtorEq, Int.reduceToNat, ↓reduceIte, rfP, rvP, rhP, frP]) <;> (try clear ee))
    all_goals first
      | (refine hN (i + 1) _ ⟨by omega, hnx (by rw [hB]; omega)⟩ (by omega) ?_
         (simp (disch := first | omega | (simp only [LN, numOk, verOk] <;> omega) | exact Ck.mk rfl) only [SB, EQ, Nat.reduceMul, Nat.reduceAdd, Nat.reduceSub, Nat.reduceLT, Nat.reduceEqDiff, Nat.reduceLeDiff, Nat.reduceBEq, reduceCtorEq, Int.reduceToNat, ↓reduceIte]; try omega))
      | (have e := hno (by omega) (by rw [hB]; omega)
         simp only [e, decide_false])
      | (have e := hlast (by
           obtain rfl : i = b.size := by omega
           exact h2)
         simp only [e])
theorem spec_l01Figure (d : Int) (hd : 0 ≤ d ∧ d ≤ 9) : Fn Tryz.prog 147 [.int .i64 d] [] (.int .u8 (48 + d)) [] := by
  refine fn_x tok (n := 12) (rs := [.tmp 2]) Tryz.func147 (by decide) rfl rfl rfl rfl ?_
  refine Wr.go ?_
  repeat' ((first | (have ee := True.intro; refine Wr.mk ?_) | ((first | refine br_go ?_ ?_ | refine pick_go ?_ ?_) <;> intro ee f <;> (try simp only [BB] at f) <;> (try simp only [numOk, verOk] at f))) <;> (try simp (maxSteps := 1000000) (disch := first | omega | (simp only [LN, numOk, verOk, rfP, rvP, rhP, frP] <;> omega) | exact Ck.mk rfl) only [ee, VC, T, Nat.reduceMul, Nat.reduceAdd, Nat.reduceSub, Nat.reduceLT, Nat.reduceEqDiff, Nat.reduceLeDiff, Nat.reduceBEq, reduceCtorEq, Int.reduceToNat, ↓reduceIte, rfP, rvP, rhP, frP]) <;> (try clear ee))
  rw [Int.emod_eq_of_lt (by omega) (by omega)]
theorem decL_zero : ∀ k : Nat, decL k 0 = []
  | 0 => rfl
  | k + 1 => by unfold decL; rw [if_pos rfl]
theorem spec_Decimal (n : Int) (hn : 0 ≤ n ∧ n ≤ 100000000000) : Fn Tryz.prog 97 [.int .i64 n] [] (.str (decT n)) [] := by
  have h0 : n = 0 → decT n = ⟨#[48]⟩ := fun h => by subst h; rfl
  have h1 : ¬ n = 0 → decT n = strOf (decL 20 n) := fun h => if_neg h
  generalize hq : decT n = q at *
  refine fn_x tok (n := 30) (rs := [.tmp 2]) Tryz.func97 (by decide) rfl rfl rfl rfl ?_
  refine Wr.go ?_
  repeat' ((first | (have ee := True.intro; refine Wr.mk ?_) | ((first | refine br_go ?_ ?_ | refine pick_go ?_ ?_) <;> intro ee f <;> (try simp only [BB] at f) <;> (try simp only [numOk, verOk] at f))) <;> (try simp (maxSteps := 1000000) (disch := first | omega | (simp only [LN, numOk, verOk, rfP, rvP, rhP, frP] <;> omega) | exact Ck.mk rfl) only [ee, VC, T, Nat.reduceMul, Nat.reduceAdd, Nat.reduceSub, Nat.reduceLT, Nat.reduceEqDiff, Nat.reduceLeDiff, Nat.reduceBEq, reduceCtorEq, Int.reduceToNat, ↓reduceIte, rfP, rvP, rhP, frP]) <;> (try clear ee))
  · rw [h0 f]
  · refine lp_go (fun x : Int × ByteArray × Nat => ⟨30, [(0, .int .i64 x.1), (3, .bool false), (4, .str x.2.1)], []⟩) (fun x => 0 ≤ x.1 ∧ x.1 ≤ 100000000000 ∧ x.2.2 ≤ 20 ∧ x.2.1.size = 20 - x.2.2 ∧ x.1 < 10 ^ x.2.2 ∧ bytesOf q = decL x.2.2 x.1 ++ bytesOf x.2.1) (fun x => x.2.2) (n, ⟨#[]⟩, 20) ?_ ⟨hn.1, hn.2, Nat.le_refl 20, rfl, by
      have : (10 : Int) ^ 20 = 100000000000000000000 := rfl
      simp only; omega, ?_⟩ ?_
    · (simp (disch := first | omega | (simp only [LN, numOk, verOk] <;> omega) | exact Ck.mk rfl) only [SB, EQ, Nat.reduceMul, Nat.reduceAdd, Nat.reduceSub, Nat.reduceLT, Nat.reduceEqDiff, Nat.reduceLeDiff, Nat.reduceBEq, reduceCtorEq, Int.reduceToNat, ↓reduceIte]; try omega)
      exact decide_eq_false (by omega)
    · simp only
      rw [h1 f, bytesOf_strOf _ (fun x hx => by have := decL_range 20 n x hx; omega)]
      simp [bytesOf]
    · rintro ⟨m, s, k⟩ ⟨q1, q2, q3, q4, q5, q6⟩ N hN
      simp only at q1 q2 q3 q4 q5 q6 hN ⊢
      have hk : ¬ m = 0 → 0 < k := fun h => by
        cases k with
        | zero => simp at q5; omega
        | succ k => omega
      have hmod : m.tmod 10 = m % 10 := Int.tmod_eq_emod_of_nonneg q1
      have hdiv : m.tdiv 10 = m / 10 := Int.tdiv_eq_ediv_of_nonneg q1
      have hst : ¬ m = 0 → m / 10 < 10 ^ (k - 1) ∧ bytesOf q = decL (k - 1) (m / 10) ++ bytesOf (strOf [48 + m % 10] ++ s) := fun h => by
        obtain ⟨j, rfl⟩ : ∃ j, k = j + 1 := ⟨k - 1, by have := hk h; omega⟩
        rw [Nat.add_sub_cancel]
        rw [Int.pow_succ] at q5
        refine ⟨by omega, ?_⟩
        rw [q6, bytesOf_append, bytesOf_strOf _ (fun x hx => by rw [List.mem_singleton] at hx; omega)]
        conv => lhs; unfold decL
        rw [if_neg h, List.append_assoc]
      have hs1 : strP [PV.int .u8 (48 + m % 10)] = strOf [48 + m % 10] := rfl
      have hs2 : (strOf [48 + m % 10]).size = 1 := rfl
      refine Wr.go ?_
      repeat' ((first | (have ee := True.intro; refine Wr.mk ?_) | ((first | refine br_go ?_ ?_ | refine pick_go ?_ ?_) <;> intro ee f <;> (try simp only [BB] at f) <;> (try simp only [numOk, verOk] at f)) | (have ee := True.intro; first | refine call_x (spec_l01Figure _ (by omega)) rfl ⟨rfl⟩ ?_)) <;> (try simp (maxSteps := 1000000) (disch := first | omega | (simp only [LN, numOk, verOk, rfP, rvP, rhP, frP, hmod, hdiv, hs1, hs2] <;> omega) | exact Ck.mk rfl) only [ee, VC, T, Nat.reduceMul, Nat.reduceAdd, Nat.reduceSub, Nat.reduceLT, Nat.reduceEqDiff, Nat.reduceLeDiff, Nat.reduceBEq, reduceCtorEq, Int.reduceToNat, ↓reduceIte, rfP, rvP, rhP, frP, hmod, hdiv, hs1, hs2]) <;> (try clear ee))
      · subst f
        rw [decL_zero, List.nil_append] at q6
        rw [bytesOf_inj q6]
      · refine ⟨fun z hz => ?_, ?_⟩
        · rw [List.mem_singleton] at hz
          subst hz
          show 0 ≤ 48 + m % 10 ∧ 48 + m % 10 < 256
          omega
        · obtain ⟨p1, p2⟩ := hst f
          have hk := hk f
          refine hN (m / 10, strOf [48 + m % 10] ++ s, k - 1) _ ⟨by simp only; omega, by simp only; omega, by simp only; omega, by simp only; rw [ByteArray.size_append, hs2]; omega, p1, p2⟩ (by simp only; omega) ?_
          (simp (disch := first | omega | (simp only [LN, numOk, verOk] <;> omega) | exact Ck.mk rfl) only [SB, EQ, Nat.reduceMul, Nat.reduceAdd, Nat.reduceSub, Nat.reduceLT, Nat.reduceEqDiff, Nat.reduceLeDiff, Nat.reduceBEq, reduceCtorEq, Int.reduceToNat, ↓reduceIte]; try omega)
theorem pow10_le (i : Nat) (h : i ≤ 10) : (10 : Int) ^ i ≤ 10000000000 := by
  have := pow_mono 10 (by decide) h
  simpa using this
theorem rdec_no (t : ByteArray) (h : decN 0 (bytesOf t) = none) : rdec t = (0, false) := by unfold rdec; rw [h]
theorem rdec_so (t : ByteArray) (n : Int) (h : decN 0 (bytesOf t) = some n) : rdec t = if t.size ≤ 10 ∧ n ≤ 1000000000 ∧ decT n = t then (n, true) else (0, false) := by unfold rdec; rw [h]
theorem rdec_big (t : ByteArray) (h : 10 < t.size) : rdec t = (0, false) := by
  cases hd : decN 0 (bytesOf t) with
  | none => exact rdec_no t hd
  | some n => rw [rdec_so t n hd, if_neg (by omega)]
theorem spec_ReadDecimal (t : ByteArray) (ht : t.size ≤ 9223372036854775807) : Fn Tryz.prog 204 [.str t] [] (.tup [.int .i64 (rdec t).1, .bool (rdec t).2]) [] := by
  have hno := rdec_no t
  have hso := rdec_so t
  have hbig := rdec_big t
  have hst := fun n => decN_step n (bytesOf t)
  have hbt : ∀ i : Nat, (bytesOf t).getD i default = bt t i := fun i => rd_bytesOf t i
  generalize rdec t = q at *
  obtain ⟨v, ok⟩ := q
  refine fn_x tok (n := 42) (rs := [.tmp 2, .tmp 3]) Tryz.func204 (by decide) rfl rfl rfl rfl ?_
  refine Wr.go ?_
  repeat' ((first | (have ee := True.intro; refine Wr.mk ?_) | ((first | refine br_go ?_ ?_ | refine pick_go ?_ ?_) <;> intro ee f <;> (try simp only [BB] at f) <;> (try simp only [numOk, verOk] at f))) <;> (try simp (maxSteps := 1000000) (disch := first | omega | (simp only [LN, numOk, verOk, rfP, rvP, rhP, frP] <;> omega) | exact Ck.mk rfl) only [ee, VC, T, Nat.reduceMul, Nat.reduceAdd, Nat.reduceSub, Nat.reduceLT, Nat.reduceEqDiff, Nat.reduceLeDiff, Nat.reduceBEq, reduceCtorEq, Int.reduceToNat, ↓reduceIte, rfP, rvP, rhP, frP]) <;> (try clear ee))
  · cases hbig (by omega); rfl
  · refine lp_go (fun x : Int × Nat => ⟨42, [(0, .str t), (4, .int .i64 x.1), (5, .int .i64 x.2)], []⟩) (fun x => x.2 ≤ t.size ∧ (0 ≤ x.1 ∧ x.1 < 10 ^ x.2) ∧ decN 0 (bytesOf t) = decN x.1 ((bytesOf t).drop x.2)) (fun x => t.size - x.2) (0, 0) ?_ ⟨Nat.zero_le _, ⟨by decide, by decide⟩, rfl⟩ ?_
    · (simp (disch := first | omega | (simp only [LN, numOk, verOk] <;> omega) | exact Ck.mk rfl) only [SB, EQ, Nat.reduceMul, Nat.reduceAdd, Nat.reduceSub, Nat.reduceLT, Nat.reduceEqDiff, Nat.reduceLeDiff, Nat.reduceBEq, reduceCtorEq, Int.reduceToNat, ↓reduceIte]; try omega)
    · rintro ⟨m, i⟩ ⟨h1, ⟨h2, h3⟩, h4⟩ N hN
      simp only at h1 h2 h3 h4 hN
      have hp := pow10_le i (by omega)
      have hps : (10 : Int) ^ (i + 1) = 10 ^ i * 10 := Int.pow_succ 10 i
      have hst := hst m i
      rw [bytesOf_length, hbt] at hst
      have hr := bt_range t i
      have hlt : ∀ d : Int, 0 ≤ d → d < 10 → 0 ≤ 10 * m + d ∧ 10 * m + d < 10 ^ (i + 1) := fun d q0 q1 => by
        rw [hps]
        generalize (10 : Int) ^ i = p at *
        omega
      by_cases hi : i < t.size
      · have hst := hst hi
        generalize hc : bt t i = c at *
        refine Wr.go ?_
        repeat' ((first | (have ee := True.intro; refine Wr.mk ?_) | ((first | refine br_go ?_ ?_ | refine pick_go ?_ ?_) <;> intro ee f <;> (try simp only [BB] at f) <;> (try simp only [numOk, verOk] at f))) <;> (try simp (maxSteps := 1000000) (disch := first | omega | (simp only [LN, numOk, verOk, rfP, rvP, rhP, frP, hc] <;> omega) | exact Ck.mk rfl) only [ee, VC, T, Nat.reduceMul, Nat.reduceAdd, Nat.reduceSub, Nat.reduceLT, Nat.reduceEqDiff, Nat.reduceLeDiff, Nat.reduceBEq, reduceCtorEq, Int.reduceToNat, ↓reduceIte, rfP, rvP, rhP, frP, hc]) <;> (try clear ee))
        · rw [if_neg (by omega)] at hst
          cases hno (h4.trans hst); rfl
        · rw [if_neg (by omega)] at hst
          cases hno (h4.trans hst); rfl
        · rw [if_pos ⟨by omega, by omega⟩] at hst
          refine hN (10 * m + (c - 48), i + 1) _ ⟨by simp only; omega, hlt _ (by omega) (by omega), h4.trans hst⟩ (by simp only; omega) ?_
          (simp (disch := first | omega | (simp only [LN, numOk, verOk] <;> omega) | exact Ck.mk rfl) only [SB, EQ, Nat.reduceMul, Nat.reduceAdd, Nat.reduceSub, Nat.reduceLT, Nat.reduceEqDiff, Nat.reduceLeDiff, Nat.reduceBEq, reduceCtorEq, Int.reduceToNat, ↓reduceIte]; try omega)
      · obtain rfl : i = t.size := by omega
        have h5 : decN 0 (bytesOf t) = some m := by rw [h4, List.drop_eq_nil_of_le (by rw [bytesOf_length]; exact Nat.le_refl _)]; rfl
        have hso := hso m h5
        have hD := spec_Decimal m (by omega)
        generalize decT m = dm at *
        refine Wr.go ?_
        repeat' ((first | (have ee := True.intro; refine Wr.mk ?_) | ((first | refine br_go ?_ ?_ | refine pick_go ?_ ?_) <;> intro ee f <;> (try simp only [BB] at f) <;> (try simp only [numOk, verOk] at f)) | (have ee := True.intro; first | refine call_x (hD) rfl ⟨rfl⟩ ?_)) <;> (try simp (maxSteps := 1000000) (disch := first | omega | (simp only [LN, numOk, verOk, rfP, rvP, rhP, frP] <;> omega) | exact Ck.mk rfl) only [ee, VC, T, Nat.reduceMul, Nat.reduceAdd, Nat.reduceSub, Nat.reduceLT, Nat.reduceEqDiff, Nat.reduceLeDiff, Nat.reduceBEq, reduceCtorEq, Int.reduceToNat, ↓reduceIte, rfP, rvP, rhP, frP]) <;> (try clear ee))
        · rw [if_neg (by omega)] at hso
          cases hso; rfl
        · rename_i f0
          rw [if_pos ⟨by omega, f0, f⟩] at hso
          cases hso; rfl
        · rw [if_neg (fun h => f h.2.2)] at hso
          cases hso; rfl
theorem spec_Brought (n a b : Int) : Fn Tryz.prog 163 [.int .i64 n, .int .i64 a, .int .i64 b] [] (.int .i64 (if b < a ∨ n < a then a else if b < n then b else n)) [] := by
  refine fn_x tok (n := 21) (rs := [.tmp 6]) Tryz.func163 (by decide) rfl rfl rfl rfl ?_
  refine Wr.go ?_
  repeat' ((first | (have ee := True.intro; refine Wr.mk ?_) | ((first | refine br_go ?_ ?_ | refine pick_go ?_ ?_) <;> intro ee f <;> (try simp only [BB] at f) <;> (try simp only [numOk, verOk] at f))) <;> (try simp (maxSteps := 1000000) (disch := first | omega | (simp only [LN, numOk, verOk, rfP, rvP, rhP, frP] <;> omega) | exact Ck.mk rfl) only [ee, VC, T, Nat.reduceMul, Nat.reduceAdd, Nat.reduceSub, Nat.reduceLT, Nat.reduceEqDiff, Nat.reduceLeDiff, Nat.reduceBEq, reduceCtorEq, Int.reduceToNat, ↓reduceIte, rfP, rvP, rhP, frP]) <;> (try clear ee))
  all_goals first
    | rw [if_pos (by omega)]
    | rw [if_neg (by omega), if_pos (by omega)]
    | rw [if_neg (by omega), if_neg (by omega)]
theorem spec_l06Same (xs ys : List Et) (hx : xs.length ≤ 4611686018427387904) : Fn Tryz.prog 119 [.far (xs.map enP), .far (ys.map enP)] [] (.bool (decide (xs = ys))) [] := by
  refine fn_x tok (n := 26) (rs := [.tmp 4]) Tryz.func119 (by decide) rfl rfl rfl rfl ?_
  refine Wr.go ?_
  repeat' ((first | (have ee := True.intro; refine Wr.mk ?_) | ((first | refine br_go ?_ ?_ | refine pick_go ?_ ?_) <;> intro ee f <;> (try simp only [BB] at f) <;> (try simp only [numOk, verOk] at f))) <;> (try simp (maxSteps := 1000000) (disch := first | omega | (simp only [LN, numOk, verOk, rfP, rvP, rhP, frP] <;> omega) | exact Ck.mk rfl) only [ee, VC, T, Nat.reduceMul, Nat.reduceAdd, Nat.reduceSub, Nat.reduceLT, Nat.reduceEqDiff, Nat.reduceLeDiff, Nat.reduceBEq, reduceCtorEq, Int.reduceToNat, ↓reduceIte, rfP, rvP, rhP, frP]) <;> (try clear ee))
  · have hl : xs.length = ys.length := by omega
    refine lp_go (fun i : Nat => ⟨26, [(0, .far (xs.map enP)), (1, .far (ys.map enP)), (5, .int .i64 i)], []⟩) (fun i => i ≤ xs.length ∧ xs.take i = ys.take i) (fun i => xs.length - i) 0 ?_ ⟨Nat.zero_le _, rfl⟩ ?_
    · (simp (disch := first | omega | (simp only [LN, numOk, verOk] <;> omega) | exact Ck.mk rfl) only [SB, EQ, Nat.reduceMul, Nat.reduceAdd, Nat.reduceSub, Nat.reduceLT, Nat.reduceEqDiff, Nat.reduceLeDiff, Nat.reduceBEq, reduceCtorEq, Int.reduceToNat, ↓reduceIte]; try omega)
    · rintro i ⟨h1, h2⟩ N hN
      have hg : ∀ zs : List Et, i < zs.length → (zs.map enP).getD i .junk = .agg [.str (zs.getD i default).1, .int .i64 (zs.getD i default).2] := fun zs h => by
        rw [List.getD_eq_getElem?_getD, List.getElem?_map, List.getElem?_eq_getElem h, List.getD_eq_getElem?_getD, List.getElem?_eq_getElem h]; rfl
      have heq : (xs.getD i default).1 = (ys.getD i default).1 → (xs.getD i default).2 = (ys.getD i default).2 → xs.getD i default = ys.getD i default := fun h1 h2 => Prod.ext h1 h2
      refine Wr.go ?_
      repeat' ((first | (have ee := True.intro; refine Wr.mk ?_) | ((first | refine br_go ?_ ?_ | refine pick_go ?_ ?_) <;> intro ee f <;> (try simp only [BB] at f) <;> (try simp only [numOk, verOk] at f)) | (have ee := True.intro; first | refine dr_go mixed (id := 6) [([], [0], []), ([], [5], []), ([0, 1], [17, 18], []), ([0, 1, 2], [19], []), ([], [1], []), ([], [5], []), ([4, 5], [21, 22], []), ([4, 5, 6], [23], []), ([0, 1, 2, 3, 4, 5, 6, 7], [20, 24], [])] rfl rfl rfl ?_)) <;> (try simp (maxSteps := 1000000) (disch := first | omega | (simp only [LN, numOk, verOk, rfP, rvP, rhP, frP, hg] <;> omega) | exact Ck.mk rfl) only [ee, VC, T, Nat.reduceMul, Nat.reduceAdd, Nat.reduceSub, Nat.reduceLT, Nat.reduceEqDiff, Nat.reduceLeDiff, Nat.reduceBEq, reduceCtorEq, Int.reduceToNat, ↓reduceIte, rfP, rvP, rhP, frP, hg]) <;> (try clear ee))
      · refine hN (i + 1) _ ⟨by omega, eq_stp xs ys i hl (by omega) h2 (heq f.1 f.2)⟩ (by omega) ?_
        (simp (disch := first | omega | (simp only [LN, numOk, verOk] <;> omega) | exact Ck.mk rfl) only [SB, EQ, Nat.reduceMul, Nat.reduceAdd, Nat.reduceSub, Nat.reduceLT, Nat.reduceEqDiff, Nat.reduceLeDiff, Nat.reduceBEq, reduceCtorEq, Int.reduceToNat, ↓reduceIte]; try omega)
      · rw [decide_eq_false fun h => by subst h; rcases f with f | f <;> exact f rfl]
      · rw [List.take_of_length_le (by omega), List.take_of_length_le (by omega)] at h2
        rw [decide_eq_true h2]
  · rw [decide_eq_false fun h => f (by rw [h])]
theorem spec_UsedOn (d : Dk) (h : DkOk d) : Fn Tryz.prog 101 [dkP d] [] (.int .i64 (usedT d)) [] := by
  have hns := h.ns
  have hnt := h.nt
  unfold usedT
  obtain ⟨ns, es, os, ss, r, x⟩ := d
  simp only at *
  unfold dkP
  refine fn_x tok (n := 22) (rs := [.tmp 2]) Tryz.func101 (by decide) rfl rfl rfl rfl ?_
  refine Wr.go ?_
  repeat' ((first | (have ee := True.intro; refine Wr.mk ?_) | ((first | refine br_go ?_ ?_ | refine pick_go ?_ ?_) <;> intro ee f <;> (try simp only [BB] at f) <;> (try simp only [numOk, verOk] at f))) <;> (try simp (maxSteps := 1000000) (disch := first | omega | (simp only [LN, numOk, verOk, rfP, rvP, rhP, frP] <;> omega) | exact Ck.mk rfl) only [ee, VC, T, Nat.reduceMul, Nat.reduceAdd, Nat.reduceSub, Nat.reduceLT, Nat.reduceEqDiff, Nat.reduceLeDiff, Nat.reduceBEq, reduceCtorEq, Int.reduceToNat, ↓reduceIte, rfP, rvP, rhP, frP]) <;> (try clear ee))
  refine lp_go (fun i : Nat => ⟨22, [(1, .ref 128 0), (3, .int .i64 ((ns.take i).map fun x => (x.2.1.size : Int)).sum), (4, .int .i64 i)], [(128, .box 32 [.far (ns.map ndP), .far (es.map enP), .far (os.map enP), .far (ss.map .str), .int .i64 r, .int .i64 x])]⟩) (fun i => i ≤ ns.length ∧ 0 ≤ ((ns.take i).map fun x => (x.2.1.size : Int)).sum ∧ ((ns.take i).map fun x => (x.2.1.size : Int)).sum ≤ 1048576 * i) (fun i => ns.length - i) 0 ?_ ⟨Nat.zero_le _, by simp, by simp⟩ ?_
  · (simp (disch := first | omega | (simp only [LN, numOk, verOk] <;> omega) | exact Ck.mk rfl) only [SB, EQ, Nat.reduceMul, Nat.reduceAdd, Nat.reduceSub, Nat.reduceLT, Nat.reduceEqDiff, Nat.reduceLeDiff, Nat.reduceBEq, reduceCtorEq, Int.reduceToNat, ↓reduceIte]; try omega)
    rfl
  · rintro i ⟨hi, hs1, hs2⟩ N hN
    have hg : i < ns.length → (ns.map ndP).getD i .junk = .agg [.int .i64 (ns.getD i default).1, .str (ns.getD i default).2.1, .int .i64 (ns.getD i default).2.2] := fun h => by
      rw [List.getD_eq_getElem?_getD, List.getElem?_map, List.getElem?_eq_getElem h, List.getD_eq_getElem?_getD, List.getElem?_eq_getElem h]; rfl
    have hsn : i < ns.length → ((ns.take (i + 1)).map fun x => (x.2.1.size : Int)).sum = ((ns.take i).map fun x => (x.2.1.size : Int)).sum + (ns.getD i default).2.1.size := fun h => by
      rw [take_snoc default ns i h, List.map_append, List.sum_append]
      simp [rdOf]
    have hz : i < ns.length → (ns.getD i default).2.1.size ≤ 1048576 := fun h => by
      rw [List.getD_eq_getElem?_getD, List.getElem?_eq_getElem h]; exact hnt _ (List.getElem_mem h)
    generalize hu : ((ns.take i).map fun x => (x.2.1.size : Int)).sum = u at *
    by_cases h : i < ns.length
    · have hsn := hsn h
      have hz := hz h
      refine Wr.go ?_
      repeat' ((first | (have ee := True.intro; refine Wr.mk ?_) | ((first | refine br_go ?_ ?_ | refine pick_go ?_ ?_) <;> intro ee f <;> (try simp only [BB] at f) <;> (try simp only [numOk, verOk] at f))) <;> (try simp (maxSteps := 1000000) (disch := first | omega | (simp only [LN, numOk, verOk, rfP, rvP, rhP, frP, hg] <;> omega) | exact Ck.mk rfl) only [ee, VC, T, Nat.reduceMul, Nat.reduceAdd, Nat.reduceSub, Nat.reduceLT, Nat.reduceEqDiff, Nat.reduceLeDiff, Nat.reduceBEq, reduceCtorEq, Int.reduceToNat, ↓reduceIte, rfP, rvP, rhP, frP, hg]) <;> (try clear ee))
      refine hN (i + 1) _ ⟨by omega, by rw [hsn]; omega, by rw [hsn]; omega⟩ (by omega) ?_
      rw [hsn]
      (simp (disch := first | omega | (simp only [LN, numOk, verOk] <;> omega) | exact Ck.mk rfl) only [SB, EQ, Nat.reduceMul, Nat.reduceAdd, Nat.reduceSub, Nat.reduceLT, Nat.reduceEqDiff, Nat.reduceLeDiff, Nat.reduceBEq, reduceCtorEq, Int.reduceToNat, ↓reduceIte]; try omega)
    · obtain rfl : i = ns.length := by omega
      refine Wr.go ?_
      repeat' ((first | (have ee := True.intro; refine Wr.mk ?_) | ((first | refine br_go ?_ ?_ | refine pick_go ?_ ?_) <;> intro ee f <;> (try simp only [BB] at f) <;> (try simp only [numOk, verOk] at f))) <;> (try simp (maxSteps := 1000000) (disch := first | omega | (simp only [LN, numOk, verOk, rfP, rvP, rhP, frP] <;> omega) | exact Ck.mk rfl) only [ee, VC, T, Nat.reduceMul, Nat.reduceAdd, Nat.reduceSub, Nat.reduceLT, Nat.reduceEqDiff, Nat.reduceLeDiff, Nat.reduceBEq, reduceCtorEq, Int.reduceToNat, ↓reduceIte, rfP, rvP, rhP, frP]) <;> (try clear ee))
      rw [← hu, List.take_length]
end Go.Pv

/- What functions of the program and of the reference do, in plain values. -/
namespace Go.Pv
open Go.Proofs Go.Mth
set_option linter.unusedSimpArgs false
set_option linter.unusedVariables false
set_option maxHeartbeats 4000000
set_option maxRecDepth 4000

/-! ### the reference's deeds on disks: entries, steps -/
theorem spec_l06Drop_R (L : List Et) (n : ByteArray) (hl : L.length ≤ 16777216) : FnE Tryz.prog 165 [.far (L.map enP), .str n] [] (fun r m => r = .row 64 (dropT L n).length ∧ m = [(64, .row ⟨2, 0⟩ ((dropT L n).map enP))]) := by
  unfold dropT
  refine fn_e tok (n := 29) (rs := [.tmp 4]) Tryz.func165 (by decide) rfl rfl rfl rfl (low_of rfl) ?_
  refine Wr.go ?_
  repeat' ((first | (have ee := True.intro; refine Wr.mk ?_) | ((first | refine br_go ?_ ?_ | refine pick_go ?_ ?_) <;> intro ee f <;> (try simp only [BB] at f) <;> (try simp only [numOk, verOk] at f))) <;> (try simp (maxSteps := 1000000) (disch := first | omega | (simp only [LN, numOk, verOk, rfP, rvP, rhP, frP] <;> omega) | exact Ck.mk rfl) only [ee, VC, T, Nat.reduceMul, Nat.reduceAdd, Nat.reduceSub, Nat.reduceLT, Nat.reduceEqDiff, Nat.reduceLeDiff, Nat.reduceBEq, reduceCtorEq, Int.reduceToNat, ↓reduceIte, rfP, rvP, rhP, frP]) <;> (try clear ee))
  refine lp_go (fun i : Nat => ⟨29, [(0, .far (L.map enP)), (1, .str n), (5, .row 512 ((L.take i).filter fun e => decide (e.1 ≠ n)).length), (6, .int .i64 i)], [(512, .row ⟨2, 0⟩ (((L.take i).filter fun e => decide (e.1 ≠ n)).map enP))]⟩) (fun i => i ≤ L.length) (fun i => L.length - i) 0 ?_ (Nat.zero_le _) ?_
  · (simp (disch := first | omega | (simp only [LN, numOk, verOk] <;> omega) | exact Ck.mk rfl) only [SB, EQ, Nat.reduceMul, Nat.reduceAdd, Nat.reduceSub, Nat.reduceLT, Nat.reduceEqDiff, Nat.reduceLeDiff, Nat.reduceBEq, reduceCtorEq, Int.reduceToNat, ↓reduceIte]; try omega)
    exact ⟨rfl, rfl⟩
  · intro i hi N hN
    have hsn := flt_snoc (fun e : Et => decide (e.1 ≠ n)) L i
    have hfl : ((L.take i).filter fun e => decide (e.1 ≠ n)).length ≤ i := by
      have := List.length_filter_le (fun e : Et => decide (e.1 ≠ n)) (L.take i)
      rw [List.length_take] at this
      omega
    have hg : i < L.length → (L.map enP).getD i .junk = .agg [.str (L.getD i default).1, .int .i64 (L.getD i default).2] := fun h => by
      rw [List.getD_eq_getElem?_getD, List.getElem?_map, List.getElem?_eq_getElem h, List.getD_eq_getElem?_getD, List.getElem?_eq_getElem h]; rfl
    generalize hM : (L.take i).filter (fun e => decide (e.1 ≠ n)) = M at *
    by_cases h : i < L.length
    · have hsn := hsn h
      have hg := hg h
      generalize L.getD i default = p at *
      obtain ⟨b, c⟩ := p
      simp only at *
      have hmap : (M ++ [(b, c)]).map enP = M.map enP ++ [.agg [.str b, .int .i64 c]] := by rw [List.map_append]; rfl
      refine Wr.go ?_
      repeat' ((first | (have ee := True.intro; refine Wr.mk ?_) | ((first | refine br_go ?_ ?_ | refine pick_go ?_ ?_) <;> intro ee f <;> (try simp only [BB] at f) <;> (try simp only [numOk, verOk] at f))) <;> (try simp (maxSteps := 1000000) (disch := first | omega | (simp only [LN, numOk, verOk, rfP, rvP, rhP, frP, hg] <;> omega) | exact Ck.mk rfl) only [ee, VC, T, Nat.reduceMul, Nat.reduceAdd, Nat.reduceSub, Nat.reduceLT, Nat.reduceEqDiff, Nat.reduceLeDiff, Nat.reduceBEq, reduceCtorEq, Int.reduceToNat, ↓reduceIte, rfP, rvP, rhP, frP, hg]) <;> (try clear ee))
      · refine hN (i + 1) _ (by omega) (by omega) ?_
        rw [hsn, if_neg (by rw [decide_eq_false (fun h => h f)]; decide), List.append_nil]
        (simp (disch := first | omega | (simp only [LN, numOk, verOk] <;> omega) | exact Ck.mk rfl) only [SB, EQ, Nat.reduceMul, Nat.reduceAdd, Nat.reduceSub, Nat.reduceLT, Nat.reduceEqDiff, Nat.reduceLeDiff, Nat.reduceBEq, reduceCtorEq, Int.reduceToNat, ↓reduceIte]; try omega)
      · refine hN (i + 1) _ (by omega) (by omega) ?_
        rw [hsn, if_pos (decide_eq_true f), hmap]
        (simp (disch := first | omega | (simp only [LN, numOk, verOk, List.length_append, List.length_cons, List.length_nil] <;> omega) | exact Ck.mk rfl) only [SB, EQ, Nat.reduceMul, Nat.reduceAdd, Nat.reduceSub, Nat.reduceLT, Nat.reduceEqDiff, Nat.reduceLeDiff, Nat.reduceBEq, reduceCtorEq, Int.reduceToNat, ↓reduceIte, List.length_append, List.length_cons, List.length_nil]; try omega)
    · refine Wr.go ?_
      repeat' ((first | (have ee := True.intro; refine Wr.mk ?_) | ((first | refine br_go ?_ ?_ | refine pick_go ?_ ?_) <;> intro ee f <;> (try simp only [BB] at f) <;> (try simp only [numOk, verOk] at f))) <;> (try simp (maxSteps := 1000000) (disch := first | omega | (simp only [LN, numOk, verOk, rfP, rvP, rhP, frP] <;> omega) | exact Ck.mk rfl) only [ee, VC, T, Nat.reduceMul, Nat.reduceAdd, Nat.reduceSub, Nat.reduceLT, Nat.reduceEqDiff, Nat.reduceLeDiff, Nat.reduceBEq, reduceCtorEq, Int.reduceToNat, ↓reduceIte, rfP, rvP, rhP, frP]) <;> (try clear ee))
      obtain rfl : i = L.length := by omega
      rw [List.take_length] at hM
      rw [hM]
      exact fin_t [some 512] (⟨rfl, rfl⟩) rfl (by simp [RV, RV2, RVl, RV1, tau, tget, hget, data1, oneOf]) (by simp [RH, RVl, RV1, tau, hget, data1]) (by simp [Taus, hget])
theorem spec_l06Put_R (L : List Et) (e : Et) (hl : L.length ≤ 16777216) : FnE Tryz.prog 96 [.far (L.map enP), enP e] [] (fun r m => r = .row 64 (putT L e).length ∧ m = [(64, .row ⟨2, 0⟩ ((putT L e).map enP))]) := by
  have hst := fun d => putG_step e d L
  have hen : ∀ d, putG e d [] = if d then [] else [e] := fun _ => rfl
  have hpl := putT_len L e
  generalize hq : putT L e = q at *
  unfold putT at hq
  obtain ⟨en, ei⟩ := e
  unfold enP
  refine fn_e tok (n := 53) (rs := [.tmp 4]) Tryz.func96 (by decide) rfl rfl rfl rfl (low_of rfl) ?_
  refine Wr.go ?_
  repeat' ((first | (have ee := True.intro; refine Wr.mk ?_) | ((first | refine br_go ?_ ?_ | refine pick_go ?_ ?_) <;> intro ee f <;> (try simp only [BB] at f) <;> (try simp only [numOk, verOk] at f))) <;> (try simp (maxSteps := 1000000) (disch := first | omega | (simp only [LN, numOk, verOk, rfP, rvP, rhP, frP] <;> omega) | exact Ck.mk rfl) only [ee, VC, T, Nat.reduceMul, Nat.reduceAdd, Nat.reduceSub, Nat.reduceLT, Nat.reduceEqDiff, Nat.reduceLeDiff, Nat.reduceBEq, reduceCtorEq, Int.reduceToNat, ↓reduceIte, rfP, rvP, rhP, frP]) <;> (try clear ee))
  refine lp_go (fun x : Nat × List Et × Bool => ⟨53, [(0, .far (L.map fun x => .agg [.str x.1, .int .i64 x.2])), (3, .ref 256 0), (5, .row 576 x.2.1.length), (6, .bool x.2.2), (7, .int .i64 x.1)], [(256, .box 82 [.str en, .int .i64 ei]), (576, .row ⟨2, 0⟩ (x.2.1.map fun x => .agg [.str x.1, .int .i64 x.2]))]⟩) (fun x => x.1 ≤ L.length ∧ q = x.2.1 ++ putG (en, ei) x.2.2 (L.drop x.1)) (fun x => L.length - x.1) (0, [], false) ?_ ⟨Nat.zero_le _, hq.symm⟩ ?_
  · (simp (disch := first | omega | (simp only [LN, numOk, verOk] <;> omega) | exact Ck.mk rfl) only [SB, EQ, Nat.reduceMul, Nat.reduceAdd, Nat.reduceSub, Nat.reduceLT, Nat.reduceEqDiff, Nat.reduceLeDiff, Nat.reduceBEq, reduceCtorEq, Int.reduceToNat, ↓reduceIte]; try omega)
  · rintro ⟨i, M, d⟩ ⟨hi, hqq⟩ N hN
    simp only at hi hqq hN
    have hst := hst d i
    have hM1 : M.length ≤ q.length := by rw [hqq, List.length_append]; omega
    have hg : i < L.length → (L.map fun x : Et => PV.agg [.str x.1, .int .i64 x.2]).getD i .junk = .agg [.str (L.getD i default).1, .int .i64 (L.getD i default).2] := fun h => by
      rw [List.getD_eq_getElem?_getD, List.getElem?_map, List.getElem?_eq_getElem h, List.getD_eq_getElem?_getD, List.getElem?_eq_getElem h]; rfl
    by_cases h : i < L.length
    · have hst := hst h
      have hg := hg h
      generalize L.getD i default = p at *
      obtain ⟨b, c⟩ := p
      simp only at *
      refine Wr.go ?_
      repeat' ((first | (have ee := True.intro; refine Wr.mk ?_) | ((first | refine br_go ?_ ?_ | refine pick_go ?_ ?_) <;> intro ee f <;> (try simp only [BB] at f) <;> (try simp only [numOk, verOk] at f)) | (have ee := True.intro; first | refine dr_go mixed (id := 6) [([], [6], []), ([0], [15], []), ([0, 1], [16], []), ([0, 1, 2], [0, 17], []), ([0, 1, 2], [7, 17], []), ([0, 1, 2, 3, 4], [17, 18, 19], []), ([0, 1, 2, 3, 4, 5], [17, 20], []), ([0, 1, 2, 3, 4, 5, 6], [17, 21], []), ([0, 1, 2], [3, 17], []), ([0, 1, 2, 8], [17, 23], []), ([0, 1, 2, 3, 4, 5, 6, 7, 8, 9], [17, 22, 24], []), ([0, 1, 2, 3, 4, 5, 6, 7, 8, 9, 10], [17, 25], [])] rfl rfl rfl ?_ | refine dr_go mixed (id := 9) [([], [0], []), ([], [7], []), ([0, 1], [31, 32], []), ([0, 1, 2], [33], []), ([0, 1, 2, 3], [34], []), ([], [3], []), ([5], [36], []), ([0, 1, 2, 3, 4, 5, 6], [35, 37], [])] rfl rfl rfl ?_)) <;> (try simp (maxSteps := 1000000) (disch := first | omega | (simp only [LN, numOk, verOk, rfP, rvP, rhP, frP, hg] <;> omega) | exact Ck.mk rfl) only [ee, VC, T, Nat.reduceMul, Nat.reduceAdd, Nat.reduceSub, Nat.reduceLT, Nat.reduceEqDiff, Nat.reduceLeDiff, Nat.reduceBEq, reduceCtorEq, Int.reduceToNat, ↓reduceIte, rfP, rvP, rhP, frP, hg]) <;> (try clear ee))
      · rename_i g1
        refine hN (i + 1, M, true) _ ⟨by simp only; omega, ?_⟩ (by simp only; omega) ?_
        · rw [hqq, hst, if_neg (show ¬ (d = false ∧ sLt b en = false) from fun h => by rw [g1] at h; exact Bool.noConfusion h.1), if_pos f, g1]; simp
        · (simp (disch := first | omega | (simp only [LN, numOk, verOk, List.map_append, List.map_cons, List.map_nil, List.length_append, List.length_cons, List.length_nil] <;> omega) | exact Ck.mk rfl) only [SB, EQ, Nat.reduceMul, Nat.reduceAdd, Nat.reduceSub, Nat.reduceLT, Nat.reduceEqDiff, Nat.reduceLeDiff, Nat.reduceBEq, reduceCtorEq, Int.reduceToNat, ↓reduceIte, List.map_append, List.map_cons, List.map_nil, List.length_append, List.length_cons, List.length_nil]; try omega)
      · rename_i g1
        refine hN (i + 1, M ++ [(b, c)], true) _ ⟨by simp only; omega, ?_⟩ (by simp only; omega) ?_
        · rw [hqq, hst, if_neg (show ¬ (d = false ∧ sLt b en = false) from fun h => by rw [g1] at h; exact Bool.noConfusion h.1), if_neg f, g1]; simp
        · (simp (disch := first | omega | (simp only [LN, numOk, verOk, List.map_append, List.map_cons, List.map_nil, List.length_append, List.length_cons, List.length_nil] <;> omega) | exact Ck.mk rfl) only [SB, EQ, Nat.reduceMul, Nat.reduceAdd, Nat.reduceSub, Nat.reduceLT, Nat.reduceEqDiff, Nat.reduceLeDiff, Nat.reduceBEq, reduceCtorEq, Int.reduceToNat, ↓reduceIte, List.map_append, List.map_cons, List.map_nil, List.length_append, List.length_cons, List.length_nil]; try omega)
      · rename_i g1 g2
        have g2 : sLt b en = true := g2
        refine hN (i + 1, M, false) _ ⟨by simp only; omega, ?_⟩ (by simp only; omega) ?_
        · rw [hqq, hst, if_neg (show ¬ (d = false ∧ sLt b en = false) from fun h => by rw [g2] at h; exact Bool.noConfusion h.2), if_pos f, g1, g2]; simp
        · (simp (disch := first | omega | (simp only [LN, numOk, verOk, List.map_append, List.map_cons, List.map_nil, List.length_append, List.length_cons, List.length_nil] <;> omega) | exact Ck.mk rfl) only [SB, EQ, Nat.reduceMul, Nat.reduceAdd, Nat.reduceSub, Nat.reduceLT, Nat.reduceEqDiff, Nat.reduceLeDiff, Nat.reduceBEq, reduceCtorEq, Int.reduceToNat, ↓reduceIte, List.map_append, List.map_cons, List.map_nil, List.length_append, List.length_cons, List.length_nil]; try omega)
      · rename_i g1 g2
        have g2 : sLt b en = true := g2
        refine hN (i + 1, M ++ [(b, c)], false) _ ⟨by simp only; omega, ?_⟩ (by simp only; omega) ?_
        · rw [hqq, hst, if_neg (show ¬ (d = false ∧ sLt b en = false) from fun h => by rw [g2] at h; exact Bool.noConfusion h.2), if_neg f, g1, g2]; simp
        · (simp (disch := first | omega | (simp only [LN, numOk, verOk, List.map_append, List.map_cons, List.map_nil, List.length_append, List.length_cons, List.length_nil] <;> omega) | exact Ck.mk rfl) only [SB, EQ, Nat.reduceMul, Nat.reduceAdd, Nat.reduceSub, Nat.reduceLT, Nat.reduceEqDiff, Nat.reduceLeDiff, Nat.reduceBEq, reduceCtorEq, Int.reduceToNat, ↓reduceIte, List.map_append, List.map_cons, List.map_nil, List.length_append, List.length_cons, List.length_nil]; try omega)
      · rename_i g1 g2
        have g2 : sLt b en = false := g2
        refine hN (i + 1, M ++ [(en, ei)], true) _ ⟨by simp only; omega, ?_⟩ (by simp only; omega) ?_
        · rw [hqq, hst, if_pos (show d = false ∧ sLt b en = false from ⟨g1, g2⟩), if_pos f, g1, g2]; simp
        · (simp (disch := first | omega | (simp only [LN, numOk, verOk, List.map_append, List.map_cons, List.map_nil, List.length_append, List.length_cons, List.length_nil] <;> omega) | exact Ck.mk rfl) only [SB, EQ, Nat.reduceMul, Nat.reduceAdd, Nat.reduceSub, Nat.reduceLT, Nat.reduceEqDiff, Nat.reduceLeDiff, Nat.reduceBEq, reduceCtorEq, Int.reduceToNat, ↓reduceIte, List.map_append, List.map_cons, List.map_nil, List.length_append, List.length_cons, List.length_nil]; try omega)
      · rename_i g1 g2
        have g2 : sLt b en = false := g2
        refine hN (i + 1, M ++ [(en, ei)] ++ [(b, c)], true) _ ⟨by simp only; omega, ?_⟩ (by simp only; omega) ?_
        · rw [hqq, hst, if_pos (show d = false ∧ sLt b en = false from ⟨g1, g2⟩), if_neg f, g1, g2]; simp
        · (simp (disch := first | omega | (simp only [LN, numOk, verOk, List.map_append, List.map_cons, List.map_nil, List.length_append, List.length_cons, List.length_nil] <;> omega) | exact Ck.mk rfl) only [SB, EQ, Nat.reduceMul, Nat.reduceAdd, Nat.reduceSub, Nat.reduceLT, Nat.reduceEqDiff, Nat.reduceLeDiff, Nat.reduceBEq, reduceCtorEq, Int.reduceToNat, ↓reduceIte, List.map_append, List.map_cons, List.map_nil, List.length_append, List.length_cons, List.length_nil]; try omega)
    · rw [List.drop_eq_nil_of_le (by omega), hen] at hqq
      refine Wr.go ?_
      repeat' ((first | (have ee := True.intro; refine Wr.mk ?_) | ((first | refine br_go ?_ ?_ | refine pick_go ?_ ?_) <;> intro ee f <;> (try simp only [BB] at f) <;> (try simp only [numOk, verOk] at f))) <;> (try simp (maxSteps := 1000000) (disch := first | omega | (simp only [LN, numOk, verOk, rfP, rvP, rhP, frP] <;> omega) | exact Ck.mk rfl) only [ee, VC, T, Nat.reduceMul, Nat.reduceAdd, Nat.reduceSub, Nat.reduceLT, Nat.reduceEqDiff, Nat.reduceLeDiff, Nat.reduceBEq, reduceCtorEq, Int.reduceToNat, ↓reduceIte, rfP, rvP, rhP, frP]) <;> (try clear ee))
      · rw [f, if_pos rfl, List.append_nil] at hqq
        subst hqq
        exact fin_t [some 576] (⟨rfl, rfl⟩) rfl (by simp [RV, RV2, RVl, RV1, tau, tget, hget, data1, oneOf]) (by simp [RH, RVl, RV1, tau, hget, data1]) (by simp [Taus, hget])
      · rw [f, if_neg (by decide)] at hqq
        subst hqq
        exact fin_t [some 576] (⟨rfl, rfl⟩) rfl (by simp [RV, RV2, RVl, RV1, tau, tget, hget, data1, oneOf, List.map_append, List.map_cons, List.map_nil, List.length_append, List.length_cons, List.length_nil]) (by simp [RH, RVl, RV1, tau, hget, data1, List.map_append, List.map_cons, List.map_nil, List.length_append, List.length_cons, List.length_nil]) (by simp [Taus, hget, List.map_append, List.map_cons, List.map_nil, List.length_append, List.length_cons, List.length_nil])
end Go.Pv
