/- The texts of this claim, part 3: a small logic of plain values for the model's runs, what it says of the functions, in plain values. -/
import Derived.Below
import Derived.ChangeArms
import Derived.ChangeShapes
import Derived.WideShapes
import Derived.Test.YthjkdoadeknknaaDoorPvA0
import Derived.Test.YthjkdoadeknknaaDoorPvA1
import Derived.Test.YthjkdoadeknknaaDoorPvA2
/- What functions of the program and of the reference do, in plain values. -/
namespace Go.Pv
open Go.Proofs Go.Mth
set_option linter.unusedSimpArgs false
set_option linter.unusedVariables false
set_option maxHeartbeats 4000000

/-! ### the laws' own functions: slices of numbers and of texts -/
theorem eq_step {α : Type} [Inhabited α] (xs ys : List α) (i : Nat) (hl : xs.length = ys.length) (hi : i < xs.length) (h : xs.take i = ys.take i) (he : xs.getD i default = ys.getD i default) : xs.take (i + 1) = ys.take (i + 1) := by
  rw [List.take_succ_eq_append_getElem hi, List.take_succ_eq_append_getElem (by omega), h]
  rw [List.getD_eq_getElem?_getD, List.getD_eq_getElem?_getD, List.getElem?_eq_getElem hi, List.getElem?_eq_getElem (by omega : i < ys.length)] at he
  exact congrArg (fun x => ys.take i ++ [x]) he
theorem row_step {α : Type} [Inhabited α] (xs : List α) (z : α) (n i : Nat) (hn : n = xs.length) (hi : i < n) : (xs.take i ++ List.replicate (n - i) z).set i (xs.getD i default) = xs.take (i + 1) ++ List.replicate (n - (i + 1)) z := by
  subst hn
  rw [show xs.length - i = (xs.length - (i + 1)) + 1 by omega, List.replicate_succ, List.take_succ_eq_append_getElem hi, List.set_append_right _ _ (by rw [List.length_take]; omega), List.length_take, Nat.min_eq_left (by omega), Nat.sub_self, List.set_cons_zero, List.append_assoc, List.getD_eq_getElem?_getD, List.getElem?_eq_getElem hi]
  rfl
theorem mark_step {α : Type} (f : Int → α) (xs : List α) (k : Int) (i : Nat) (hi : i < xs.length) : ((seqL i k).map f ++ xs.drop i).set i (f (k + i)) = (seqL (i + 1) k).map f ++ xs.drop (i + 1) := by
  rw [List.drop_eq_getElem_cons hi, List.set_append_right _ _ (by rw [List.length_map, seqL_length]; omega), List.length_map, seqL_length, Nat.sub_self, List.set_cons_zero, seqL_snoc, List.map_append, List.append_assoc]; rfl
theorem seqL_getD {α : Type} (f : Int → α) [Inhabited α] (n : Nat) (k : Int) (i : Nat) (hi : i < n) : ((seqL n k).map f).getD i default = f (k + i) := by
  have h := seqL_get n k i hi
  rw [rd, Int.toNat_natCast, List.getD_eq_getElem?_getD] at h
  have hl : i < (seqL n k).length := by rw [seqL_length]; exact hi
  rw [List.getElem?_eq_getElem hl] at h
  rw [List.getD_eq_getElem?_getD, List.getElem?_map, List.getElem?_eq_getElem hl]
  exact congrArg f h
theorem laws_eqStr (xs ys : List ByteArray) (hx : xs.length ≤ 4611686018427387904) : Fn Tryd.prog 21 [.far (xs.map .str), .far (ys.map .str)] [] (.bool (decide (xs = ys))) [] := by
  refine fn_x tok (n := 26) (rs := [.tmp 4]) Tryd.func21 (by decide) rfl rfl rfl rfl ?_
  (try simp (maxSteps := 1000000) (disch := first | omega | (simp only [LN, numOk, verOk] <;> omega) | exact Ck.mk rfl) only [VC, T, Nat.reduceMul, Nat.reduceAdd, Nat.reduceSub, Nat.reduceLT, Nat.reduceEqDiff, Nat.reduceLeDiff, Nat.reduceBEq, reduceCtorEq, Int.reduceToNat, ↓reduceIte])
  repeat' (first
    | (refine br_go (fun e f => ?_) (fun e f => ?_) <;> (try simp only [BB] at f) <;> (try simp only [numOk, verOk] at f) <;> (try simp (maxSteps := 1000000) (disch := first | omega | (simp only [LN, numOk, verOk] <;> omega) | exact Ck.mk rfl) only [e, VC, T, Nat.reduceMul, Nat.reduceAdd, Nat.reduceSub, Nat.reduceLT, Nat.reduceEqDiff, Nat.reduceLeDiff, Nat.reduceBEq, reduceCtorEq, Int.reduceToNat, ↓reduceIte]) <;> (try clear e))
    | (refine pick_go (fun e f => ?_) (fun e f => ?_) <;> (try simp only [BB] at f) <;> (try simp only [numOk, verOk] at f) <;> (try simp (maxSteps := 1000000) (disch := first | omega | (simp only [LN, numOk, verOk] <;> omega) | exact Ck.mk rfl) only [e, VC, T, Nat.reduceMul, Nat.reduceAdd, Nat.reduceSub, Nat.reduceLT, Nat.reduceEqDiff, Nat.reduceLeDiff, Nat.reduceBEq, reduceCtorEq, Int.reduceToNat, ↓reduceIte]) <;> (try clear e)))
  · have hl : xs.length = ys.length := by omega
    refine lp_go (fun i : Nat => ⟨26, [(0, .far (xs.map .str)), (1, .far (ys.map .str)), (5, .int .i64 i)], []⟩) (fun i => i ≤ xs.length ∧ xs.take i = ys.take i) (fun i => xs.length - i) 0 ?_ ⟨Nat.zero_le _, rfl⟩ ?_
    · (simp (disch := first | omega | (simp only [LN, numOk, verOk] <;> omega) | exact Ck.mk rfl) only [SB, EQ, Nat.reduceMul, Nat.reduceAdd, Nat.reduceSub, Nat.reduceLT, Nat.reduceEqDiff, Nat.reduceLeDiff, Nat.reduceBEq, reduceCtorEq, Int.reduceToNat, ↓reduceIte]; try omega)
    · rintro i ⟨h1, h2⟩ N hN
      (try simp (maxSteps := 1000000) (disch := first | omega | (simp only [LN, numOk, verOk] <;> omega) | exact Ck.mk rfl) only [VC, T, Nat.reduceMul, Nat.reduceAdd, Nat.reduceSub, Nat.reduceLT, Nat.reduceEqDiff, Nat.reduceLeDiff, Nat.reduceBEq, reduceCtorEq, Int.reduceToNat, ↓reduceIte])
      repeat' (first
        | (refine br_go (fun e f => ?_) (fun e f => ?_) <;> (try simp only [BB] at f) <;> (try simp only [numOk, verOk] at f) <;> (try simp (maxSteps := 1000000) (disch := first | omega | (simp only [LN, numOk, verOk] <;> omega) | exact Ck.mk rfl) only [e, VC, T, Nat.reduceMul, Nat.reduceAdd, Nat.reduceSub, Nat.reduceLT, Nat.reduceEqDiff, Nat.reduceLeDiff, Nat.reduceBEq, reduceCtorEq, Int.reduceToNat, ↓reduceIte]) <;> (try clear e))
        | (refine pick_go (fun e f => ?_) (fun e f => ?_) <;> (try simp only [BB] at f) <;> (try simp only [numOk, verOk] at f) <;> (try simp (maxSteps := 1000000) (disch := first | omega | (simp only [LN, numOk, verOk] <;> omega) | exact Ck.mk rfl) only [e, VC, T, Nat.reduceMul, Nat.reduceAdd, Nat.reduceSub, Nat.reduceLT, Nat.reduceEqDiff, Nat.reduceLeDiff, Nat.reduceBEq, reduceCtorEq, Int.reduceToNat, ↓reduceIte]) <;> (try clear e))
        | ((first | refine dr_go mixed (id := 6) [([], [0], []), ([], [5], []), ([0, 1], [17, 18], []), ([0, 1, 2], [19], []), ([], [1], []), ([], [5], []), ([4, 5], [21, 22], []), ([4, 5, 6], [23], []), ([0, 1, 2, 3, 4, 5, 6, 7], [20, 24], [])] rfl rfl rfl ?_); (try simp (maxSteps := 1000000) (disch := first | omega | (simp only [LN, numOk, verOk] <;> omega) | exact Ck.mk rfl) only [VC, T, Nat.reduceMul, Nat.reduceAdd, Nat.reduceSub, Nat.reduceLT, Nat.reduceEqDiff, Nat.reduceLeDiff, Nat.reduceBEq, reduceCtorEq, Int.reduceToNat, ↓reduceIte])))
      · refine hN (i + 1) _ ⟨by omega, eq_step xs ys i hl (by omega) h2 f⟩ (by omega) ?_
        (simp (disch := first | omega | (simp only [LN, numOk, verOk] <;> omega) | exact Ck.mk rfl) only [SB, EQ, Nat.reduceMul, Nat.reduceAdd, Nat.reduceSub, Nat.reduceLT, Nat.reduceEqDiff, Nat.reduceLeDiff, Nat.reduceBEq, reduceCtorEq, Int.reduceToNat, ↓reduceIte]; try omega)
      · rw [decide_eq_false fun h => f (by rw [h])]
      · rw [List.take_of_length_le (by omega), List.take_of_length_le (by omega)] at h2
        rw [decide_eq_true h2]
  · rw [decide_eq_false fun h => f (by rw [h])]
theorem laws_toStr_R (xs : List ByteArray) (hx : xs.length ≤ 1073741824) : FnE Tryd.prog 16 [.far (xs.map .str)] [] (fun r m => r = .row 64 xs.length ∧ m = [(64, .row ⟨1, 0⟩ (xs.map .str))]) := by
  refine fn_e tok (n := 22) (rs := [.tmp 2]) Tryd.func16 (by decide) rfl rfl rfl rfl (low_of rfl) ?_
  (try simp (maxSteps := 1000000) (disch := first | omega | (simp only [LN, numOk, verOk] <;> omega) | exact Ck.mk rfl) only [VC, T, Nat.reduceMul, Nat.reduceAdd, Nat.reduceSub, Nat.reduceLT, Nat.reduceEqDiff, Nat.reduceLeDiff, Nat.reduceBEq, reduceCtorEq, Int.reduceToNat, ↓reduceIte])
  repeat' (first
    | (refine br_go (fun e f => ?_) (fun e f => ?_) <;> (try simp only [BB] at f) <;> (try simp only [numOk, verOk] at f) <;> (try simp (maxSteps := 1000000) (disch := first | omega | (simp only [LN, numOk, verOk] <;> omega) | exact Ck.mk rfl) only [e, VC, T, Nat.reduceMul, Nat.reduceAdd, Nat.reduceSub, Nat.reduceLT, Nat.reduceEqDiff, Nat.reduceLeDiff, Nat.reduceBEq, reduceCtorEq, Int.reduceToNat, ↓reduceIte]) <;> (try clear e))
    | (refine pick_go (fun e f => ?_) (fun e f => ?_) <;> (try simp only [BB] at f) <;> (try simp only [numOk, verOk] at f) <;> (try simp (maxSteps := 1000000) (disch := first | omega | (simp only [LN, numOk, verOk] <;> omega) | exact Ck.mk rfl) only [e, VC, T, Nat.reduceMul, Nat.reduceAdd, Nat.reduceSub, Nat.reduceLT, Nat.reduceEqDiff, Nat.reduceLeDiff, Nat.reduceBEq, reduceCtorEq, Int.reduceToNat, ↓reduceIte]) <;> (try clear e)))
  refine lp_go (fun i : Nat => ⟨22, [(0, .far (xs.map .str)), (3, .row 512 xs.length), (4, .int .i64 i)], [(512, .row ⟨1, 0⟩ ((xs.take i ++ List.replicate (xs.length - i) (⟨#[]⟩ : ByteArray)).map .str))]⟩) (fun i => i ≤ xs.length) (fun i => xs.length - i) 0 ?_ (Nat.zero_le _) ?_
  · (simp (disch := first | omega | (simp only [LN, numOk, verOk] <;> omega) | exact Ck.mk rfl) only [SB, EQ, Nat.reduceMul, Nat.reduceAdd, Nat.reduceSub, Nat.reduceLT, Nat.reduceEqDiff, Nat.reduceLeDiff, Nat.reduceBEq, reduceCtorEq, Int.reduceToNat, ↓reduceIte]; try omega)
    first | (simp; done) | (simp; exact .inr rfl)
  · intro i hi N hN
    have hs := row_step xs (⟨#[]⟩ : ByteArray) xs.length i rfl
    have hln : (xs.take i ++ List.replicate (xs.length - i) (⟨#[]⟩ : ByteArray)).length = xs.length := by rw [List.length_append, List.length_take, List.length_replicate]; omega
    (try simp (maxSteps := 1000000) (disch := first | omega | (simp only [LN, numOk, verOk, hln, hs] <;> omega) | exact Ck.mk rfl) only [VC, T, Nat.reduceMul, Nat.reduceAdd, Nat.reduceSub, Nat.reduceLT, Nat.reduceEqDiff, Nat.reduceLeDiff, Nat.reduceBEq, reduceCtorEq, Int.reduceToNat, ↓reduceIte, hln, hs])
    repeat' (first
      | (refine br_go (fun e f => ?_) (fun e f => ?_) <;> (try simp only [BB] at f) <;> (try simp only [numOk, verOk] at f) <;> (try simp (maxSteps := 1000000) (disch := first | omega | (simp only [LN, numOk, verOk, hln, hs] <;> omega) | exact Ck.mk rfl) only [e, VC, T, Nat.reduceMul, Nat.reduceAdd, Nat.reduceSub, Nat.reduceLT, Nat.reduceEqDiff, Nat.reduceLeDiff, Nat.reduceBEq, reduceCtorEq, Int.reduceToNat, ↓reduceIte, hln, hs]) <;> (try clear e))
      | (refine pick_go (fun e f => ?_) (fun e f => ?_) <;> (try simp only [BB] at f) <;> (try simp only [numOk, verOk] at f) <;> (try simp (maxSteps := 1000000) (disch := first | omega | (simp only [LN, numOk, verOk, hln, hs] <;> omega) | exact Ck.mk rfl) only [e, VC, T, Nat.reduceMul, Nat.reduceAdd, Nat.reduceSub, Nat.reduceLT, Nat.reduceEqDiff, Nat.reduceLeDiff, Nat.reduceBEq, reduceCtorEq, Int.reduceToNat, ↓reduceIte, hln, hs]) <;> (try clear e)))
    · refine hN (i + 1) _ (by omega) (by omega) ?_
      (simp (disch := first | omega | (simp only [LN, numOk, verOk] <;> omega) | exact Ck.mk rfl) only [SB, EQ, Nat.reduceMul, Nat.reduceAdd, Nat.reduceSub, Nat.reduceLT, Nat.reduceEqDiff, Nat.reduceLeDiff, Nat.reduceBEq, reduceCtorEq, Int.reduceToNat, ↓reduceIte]; try omega)
    · obtain rfl : i = xs.length := by omega
      exact fin_t [some 512] (⟨rfl, rfl⟩) rfl (by simp [RV, RV2, RVl, RV1, tau, tget, hget, data1, oneOf]) (by simp [RH, RVl, RV1, tau, hget, data1]) (by simp [Taus, hget])
theorem laws_toStr (xs : List ByteArray) (hx : xs.length ≤ 1073741824) : Fn Tryd.prog 16 [.far (xs.map .str)] [] (.far (xs.map .str)) [] := by
  obtain ⟨_, _, ⟨rfl, rfl⟩, h⟩ := laws_toStr_R xs hx
  refine h.far ?_
  simp [fz, fz2, fz1, cvtl, elems, hget, data1]
end Go.Pv

/- What functions of the program and of the reference do, in plain values. -/
namespace Go.Pv
open Go.Proofs Go.Mth
set_option linter.unusedSimpArgs false
set_option linter.unusedVariables false
set_option maxHeartbeats 4000000

/-! ### laws over slices: how much there is, heads -/
def sumSz (l : List ByteArray) : Int := l.foldr (fun s n => (s.size : Int) + n) 0
theorem sumSz_nil : sumSz [] = 0 := rfl
theorem sumSz_cons (s : ByteArray) (l : List ByteArray) : sumSz (s :: l) = s.size + sumSz l := rfl
theorem sumSz_pos (l : List ByteArray) : 0 ≤ sumSz l := by
  induction l with
  | nil => exact Int.le_refl _
  | cons s l ih => rw [sumSz_cons]; omega
theorem sumSz_mem : ∀ {l : List ByteArray} {s : ByteArray}, s ∈ l → (s.size : Int) ≤ sumSz l
  | x :: l, s, h => by
    rw [sumSz_cons]
    rcases List.mem_cons.1 h with rfl | h
    · have := sumSz_pos l; omega
    · have := sumSz_mem h; omega
theorem sumSz_drop (l : List ByteArray) (i : Nat) (h : i < l.length) : sumSz (l.drop i) = (l.getD i default).size + sumSz (l.drop (i + 1)) := by
  rw [List.drop_eq_getElem_cons h, List.getD_eq_getElem?_getD, List.getElem?_eq_getElem h]; rfl
/-- What is left, if anything is. -/
theorem laws_szStringS (xs : List ByteArray) (n : Int) (hn : 0 ≤ n ∧ n ≤ 1048576) (hx : xs.length ≤ 9223372036854775807) (hs : ∀ s ∈ xs, s.size ≤ 9223372036854775807) : FnV Tryd.prog 11 [.far (xs.map .str), .int .i64 n] (fun r => ∃ m : Int, r = .int .i64 m ∧ (0 ≤ m → m = n - xs.length - sumSz xs) ∧ -1 ≤ m ∧ m ≤ n) := by
  refine fn_v tok (n := 28) (rs := [.tmp 4]) Tryd.func11 (by decide) rfl rfl rfl rfl ?_
  (try simp (maxSteps := 1000000) (disch := first | omega | (simp only [LN, numOk, verOk, rfP, rvP, rhP, frP] <;> omega) | exact Ck.mk rfl) only [VC, T, Nat.reduceMul, Nat.reduceAdd, Nat.reduceSub, Nat.reduceLT, Nat.reduceEqDiff, Nat.reduceLeDiff, Nat.reduceBEq, reduceCtorEq, Int.reduceToNat, ↓reduceIte, rfP, rvP, rhP, frP])
  repeat' (first
    | (refine br_go (fun e f => ?_) (fun e f => ?_) <;> (try simp only [BB] at f) <;> (try simp only [numOk, verOk] at f) <;> (try simp (maxSteps := 1000000) (disch := first | omega | (simp only [LN, numOk, verOk, rfP, rvP, rhP, frP] <;> omega) | exact Ck.mk rfl) only [e, VC, T, Nat.reduceMul, Nat.reduceAdd, Nat.reduceSub, Nat.reduceLT, Nat.reduceEqDiff, Nat.reduceLeDiff, Nat.reduceBEq, reduceCtorEq, Int.reduceToNat, ↓reduceIte, rfP, rvP, rhP, frP]) <;> (try clear e))
    | (refine pick_go (fun e f => ?_) (fun e f => ?_) <;> (try simp only [BB] at f) <;> (try simp only [numOk, verOk] at f) <;> (try simp (maxSteps := 1000000) (disch := first | omega | (simp only [LN, numOk, verOk, rfP, rvP, rhP, frP] <;> omega) | exact Ck.mk rfl) only [e, VC, T, Nat.reduceMul, Nat.reduceAdd, Nat.reduceSub, Nat.reduceLT, Nat.reduceEqDiff, Nat.reduceLeDiff, Nat.reduceBEq, reduceCtorEq, Int.reduceToNat, ↓reduceIte, rfP, rvP, rhP, frP]) <;> (try clear e)))
  · exact ⟨-1, rfl, fun h => by omega, by omega, by omega⟩
  · refine lp_go (fun x : Nat × Int => ⟨28, [(0, .far (xs.map .str)), (1, .int .i64 x.2), (5, .int .i64 x.1)], []⟩) (fun x => x.1 ≤ xs.length ∧ (0 ≤ x.2 ∧ x.2 ≤ n) ∧ n - xs.length - sumSz xs = x.2 - sumSz (xs.drop x.1)) (fun x => xs.length - x.1) (0, n - xs.length) ?_ ⟨Nat.zero_le _, by simp only; omega, rfl⟩ ?_
    · (simp (disch := first | omega | (simp only [LN, numOk, verOk] <;> omega) | exact Ck.mk rfl) only [SB, EQ, Nat.reduceMul, Nat.reduceAdd, Nat.reduceSub, Nat.reduceLT, Nat.reduceEqDiff, Nat.reduceLeDiff, Nat.reduceBEq, reduceCtorEq, Int.reduceToNat, ↓reduceIte]; try omega)
    · rintro ⟨i, m⟩ ⟨h1, h2, h3⟩ N hN
      simp only at h1 h2 h3
      have hd := sumSz_drop xs i
      have hz : i < xs.length → (xs.getD i default).size ≤ 9223372036854775807 := fun h => hs _ (getD_mem _ _ h)
      have hp := sumSz_pos (xs.drop (i + 1))
      (try simp (maxSteps := 1000000) (disch := first | omega | (simp only [LN, numOk, verOk, rfP, rvP, rhP, frP] <;> omega) | exact Ck.mk rfl) only [VC, T, Nat.reduceMul, Nat.reduceAdd, Nat.reduceSub, Nat.reduceLT, Nat.reduceEqDiff, Nat.reduceLeDiff, Nat.reduceBEq, reduceCtorEq, Int.reduceToNat, ↓reduceIte, rfP, rvP, rhP, frP])
      repeat' (first
        | (refine br_go (fun e f => ?_) (fun e f => ?_) <;> (try simp only [BB] at f) <;> (try simp only [numOk, verOk] at f) <;> (try simp (maxSteps := 1000000) (disch := first | omega | (simp only [LN, numOk, verOk, rfP, rvP, rhP, frP] <;> omega) | exact Ck.mk rfl) only [e, VC, T, Nat.reduceMul, Nat.reduceAdd, Nat.reduceSub, Nat.reduceLT, Nat.reduceEqDiff, Nat.reduceLeDiff, Nat.reduceBEq, reduceCtorEq, Int.reduceToNat, ↓reduceIte, rfP, rvP, rhP, frP]) <;> (try clear e))
        | (refine pick_go (fun e f => ?_) (fun e f => ?_) <;> (try simp only [BB] at f) <;> (try simp only [numOk, verOk] at f) <;> (try simp (maxSteps := 1000000) (disch := first | omega | (simp only [LN, numOk, verOk, rfP, rvP, rhP, frP] <;> omega) | exact Ck.mk rfl) only [e, VC, T, Nat.reduceMul, Nat.reduceAdd, Nat.reduceSub, Nat.reduceLT, Nat.reduceEqDiff, Nat.reduceLeDiff, Nat.reduceBEq, reduceCtorEq, Int.reduceToNat, ↓reduceIte, rfP, rvP, rhP, frP]) <;> (try clear e)))
      · exact ⟨-1, rfl, fun h => by omega, by omega, by omega⟩
      · refine hN (i + 1, m - (xs.getD i default).size) _ ⟨by simp only; omega, ⟨by simp only; omega, by simp only; omega⟩, by simp only; have := hd (by omega); omega⟩ (by simp only; omega) ?_
        (simp (disch := first | omega | (simp only [LN, numOk, verOk] <;> omega) | exact Ck.mk rfl) only [SB, EQ, Nat.reduceMul, Nat.reduceAdd, Nat.reduceSub, Nat.reduceLT, Nat.reduceEqDiff, Nat.reduceLeDiff, Nat.reduceBEq, reduceCtorEq, Int.reduceToNat, ↓reduceIte]; try omega)
      · rw [List.drop_eq_nil_of_le (by omega), sumSz_nil] at h3
        exact ⟨m, rfl, fun _ => by omega, by omega, by omega⟩
def pfor (i : Int) : List (Int × Int) → (Int × Int) × Bool
  | [] => ((0, 0), false)
  | p :: l => if (pfor i l).2 = true then pfor i l else if p.1 ≤ i then (p, true) else ((0, 0), false)
theorem pfor_snoc (i : Int) (l : List (Int × Int)) (p : Int × Int) : pfor i (l ++ [p]) = if p.1 ≤ i then (p, true) else pfor i l := by
  induction l with
  | nil => simp [pfor]
  | cons q l ih =>
    rw [List.cons_append]
    unfold pfor
    rw [ih]
    by_cases h : p.1 ≤ i
    · simp [h]
    · simp [h]
def pfP (x : (Int × Int) × Bool) : PV := .tup [.agg [.int .i64 x.1.1, .int .i64 x.1.2], .bool x.2]
end Go.Pv

/- What functions of the program and of the reference do, in plain values. -/
namespace Go.Pv
open Go.Proofs Go.Mth
set_option linter.unusedSimpArgs false
set_option linter.unusedVariables false
set_option maxHeartbeats 4000000

/-! ### the laws' own functions: marks -/
/-- The decimal figures of a number, ahead of what is there. -/
def digs : Nat → Nat → ByteArray → ByteArray
  | 0, _, o => o
  | d + 1, k, o => if k = 0 then o else digs d (k / 10) (strOf [48 + ((k % 10 : Nat) : Int)] ++ o)
def markT (k : Int) : ByteArray := if k ≤ 0 then ⟨#[109, 48]⟩ else ⟨#[109]⟩ ++ digs 20 k.toNat ⟨#[]⟩
theorem mark_step1 (xs : List Int) (k : Int) (i : Nat) (hi : i < xs.length) : (seqL i k ++ xs.drop i).set i (k + i) = seqL (i + 1) k ++ xs.drop (i + 1) := by
  have := mark_step (fun x => x) xs k i hi
  simpa using this
def mkPl (k : Int) (i : Int) : Int × Int := (k + 2 * i, k + 2 * i + 1)
end Go.Pv

/- What functions of the program and of the reference do, in plain values. -/
namespace Go.Pv
open Go.Proofs Go.Mth
set_option linter.unusedSimpArgs false
set_option linter.unusedVariables false
set_option maxHeartbeats 4000000

/-! ### the laws' own functions: nodes, entries, disks -/
theorem laws_toNode (a : Int) (b : ByteArray) (c : Int) : Fn Tryd.prog 26 [.agg [.int .i64 a, .str b, .int .i64 c]] [] (.agg [.int .i64 a, .str b, .int .i64 c]) [] := by
  refine fn_x tok (n := 14) (rs := [.cell 2 54]) Tryd.func26 (by decide) rfl rfl rfl rfl ?_
  (try simp (maxSteps := 1000000) (disch := first | omega | (simp only [LN, numOk, verOk, rfP, rvP, rhP, frP] <;> omega) | exact Ck.mk rfl) only [VC, T, Nat.reduceMul, Nat.reduceAdd, Nat.reduceSub, Nat.reduceLT, Nat.reduceEqDiff, Nat.reduceLeDiff, Nat.reduceBEq, reduceCtorEq, Int.reduceToNat, ↓reduceIte, rfP, rvP, rhP, frP])
  repeat' (first
    | (refine br_go (fun e f => ?_) (fun e f => ?_) <;> (try simp only [BB] at f) <;> (try simp only [numOk, verOk] at f) <;> (try simp (maxSteps := 1000000) (disch := first | omega | (simp only [LN, numOk, verOk, rfP, rvP, rhP, frP] <;> omega) | exact Ck.mk rfl) only [e, VC, T, Nat.reduceMul, Nat.reduceAdd, Nat.reduceSub, Nat.reduceLT, Nat.reduceEqDiff, Nat.reduceLeDiff, Nat.reduceBEq, reduceCtorEq, Int.reduceToNat, ↓reduceIte, rfP, rvP, rhP, frP]) <;> (try clear e))
    | (refine pick_go (fun e f => ?_) (fun e f => ?_) <;> (try simp only [BB] at f) <;> (try simp only [numOk, verOk] at f) <;> (try simp (maxSteps := 1000000) (disch := first | omega | (simp only [LN, numOk, verOk, rfP, rvP, rhP, frP] <;> omega) | exact Ck.mk rfl) only [e, VC, T, Nat.reduceMul, Nat.reduceAdd, Nat.reduceSub, Nat.reduceLT, Nat.reduceEqDiff, Nat.reduceLeDiff, Nat.reduceBEq, reduceCtorEq, Int.reduceToNat, ↓reduceIte, rfP, rvP, rhP, frP]) <;> (try clear e)))
theorem laws_toEntry (a : ByteArray) (b : Int) : Fn Tryd.prog 27 [.agg [.str a, .int .i64 b]] [] (.agg [.str a, .int .i64 b]) [] := by
  refine fn_x tok (n := 11) (rs := [.cell 2 61]) Tryd.func27 (by decide) rfl rfl rfl rfl ?_
  (try simp (maxSteps := 1000000) (disch := first | omega | (simp only [LN, numOk, verOk, rfP, rvP, rhP, frP] <;> omega) | exact Ck.mk rfl) only [VC, T, Nat.reduceMul, Nat.reduceAdd, Nat.reduceSub, Nat.reduceLT, Nat.reduceEqDiff, Nat.reduceLeDiff, Nat.reduceBEq, reduceCtorEq, Int.reduceToNat, ↓reduceIte, rfP, rvP, rhP, frP])
  repeat' (first
    | (refine br_go (fun e f => ?_) (fun e f => ?_) <;> (try simp only [BB] at f) <;> (try simp only [numOk, verOk] at f) <;> (try simp (maxSteps := 1000000) (disch := first | omega | (simp only [LN, numOk, verOk, rfP, rvP, rhP, frP] <;> omega) | exact Ck.mk rfl) only [e, VC, T, Nat.reduceMul, Nat.reduceAdd, Nat.reduceSub, Nat.reduceLT, Nat.reduceEqDiff, Nat.reduceLeDiff, Nat.reduceBEq, reduceCtorEq, Int.reduceToNat, ↓reduceIte, rfP, rvP, rhP, frP]) <;> (try clear e))
    | (refine pick_go (fun e f => ?_) (fun e f => ?_) <;> (try simp only [BB] at f) <;> (try simp only [numOk, verOk] at f) <;> (try simp (maxSteps := 1000000) (disch := first | omega | (simp only [LN, numOk, verOk, rfP, rvP, rhP, frP] <;> omega) | exact Ck.mk rfl) only [e, VC, T, Nat.reduceMul, Nat.reduceAdd, Nat.reduceSub, Nat.reduceLT, Nat.reduceEqDiff, Nat.reduceLeDiff, Nat.reduceBEq, reduceCtorEq, Int.reduceToNat, ↓reduceIte, rfP, rvP, rhP, frP]) <;> (try clear e)))
theorem laws_eqNode (x y : Nd) : Fn Tryd.prog 32 [ndP x, ndP y] [] (.bool (decide (x = y))) [] := by
  obtain ⟨a, b, c⟩ := x
  obtain ⟨d, e, g⟩ := y
  unfold ndP
  refine fn_x tok (n := 20) (rs := [.tmp 4]) Tryd.func32 (by decide) rfl rfl rfl rfl ?_
  (try simp (maxSteps := 1000000) (disch := first | omega | (simp only [LN, numOk, verOk, rfP, rvP, rhP, frP] <;> omega) | exact Ck.mk rfl) only [VC, T, Nat.reduceMul, Nat.reduceAdd, Nat.reduceSub, Nat.reduceLT, Nat.reduceEqDiff, Nat.reduceLeDiff, Nat.reduceBEq, reduceCtorEq, Int.reduceToNat, ↓reduceIte, rfP, rvP, rhP, frP])
  repeat' (first
    | (refine br_go (fun e f => ?_) (fun e f => ?_) <;> (try simp only [BB] at f) <;> (try simp only [numOk, verOk] at f) <;> (try simp (maxSteps := 1000000) (disch := first | omega | (simp only [LN, numOk, verOk, rfP, rvP, rhP, frP] <;> omega) | exact Ck.mk rfl) only [e, VC, T, Nat.reduceMul, Nat.reduceAdd, Nat.reduceSub, Nat.reduceLT, Nat.reduceEqDiff, Nat.reduceLeDiff, Nat.reduceBEq, reduceCtorEq, Int.reduceToNat, ↓reduceIte, rfP, rvP, rhP, frP]) <;> (try clear e))
    | (refine pick_go (fun e f => ?_) (fun e f => ?_) <;> (try simp only [BB] at f) <;> (try simp only [numOk, verOk] at f) <;> (try simp (maxSteps := 1000000) (disch := first | omega | (simp only [LN, numOk, verOk, rfP, rvP, rhP, frP] <;> omega) | exact Ck.mk rfl) only [e, VC, T, Nat.reduceMul, Nat.reduceAdd, Nat.reduceSub, Nat.reduceLT, Nat.reduceEqDiff, Nat.reduceLeDiff, Nat.reduceBEq, reduceCtorEq, Int.reduceToNat, ↓reduceIte, rfP, rvP, rhP, frP]) <;> (try clear e)))
  all_goals simp [*]
theorem laws_eqEntry (x y : Et) : Fn Tryd.prog 33 [enP x, enP y] [] (.bool (decide (x = y))) [] := by
  obtain ⟨a, b⟩ := x
  obtain ⟨c, d⟩ := y
  unfold enP
  refine fn_x tok (n := 15) (rs := [.tmp 4]) Tryd.func33 (by decide) rfl rfl rfl rfl ?_
  (try simp (maxSteps := 1000000) (disch := first | omega | (simp only [LN, numOk, verOk, rfP, rvP, rhP, frP] <;> omega) | exact Ck.mk rfl) only [VC, T, Nat.reduceMul, Nat.reduceAdd, Nat.reduceSub, Nat.reduceLT, Nat.reduceEqDiff, Nat.reduceLeDiff, Nat.reduceBEq, reduceCtorEq, Int.reduceToNat, ↓reduceIte, rfP, rvP, rhP, frP])
  repeat' (first
    | (refine br_go (fun e f => ?_) (fun e f => ?_) <;> (try simp only [BB] at f) <;> (try simp only [numOk, verOk] at f) <;> (try simp (maxSteps := 1000000) (disch := first | omega | (simp only [LN, numOk, verOk, rfP, rvP, rhP, frP] <;> omega) | exact Ck.mk rfl) only [e, VC, T, Nat.reduceMul, Nat.reduceAdd, Nat.reduceSub, Nat.reduceLT, Nat.reduceEqDiff, Nat.reduceLeDiff, Nat.reduceBEq, reduceCtorEq, Int.reduceToNat, ↓reduceIte, rfP, rvP, rhP, frP]) <;> (try clear e))
    | (refine pick_go (fun e f => ?_) (fun e f => ?_) <;> (try simp only [BB] at f) <;> (try simp only [numOk, verOk] at f) <;> (try simp (maxSteps := 1000000) (disch := first | omega | (simp only [LN, numOk, verOk, rfP, rvP, rhP, frP] <;> omega) | exact Ck.mk rfl) only [e, VC, T, Nat.reduceMul, Nat.reduceAdd, Nat.reduceSub, Nat.reduceLT, Nat.reduceEqDiff, Nat.reduceLeDiff, Nat.reduceBEq, reduceCtorEq, Int.reduceToNat, ↓reduceIte, rfP, rvP, rhP, frP]) <;> (try clear e)))
  all_goals simp [*]
theorem laws_toNodeS_R (ps : List Nd) (hx : ps.length ≤ 1073741824) : FnE Tryd.prog 14 [.far (ps.map ndP)] [] (fun r m => r = .row 64 ps.length ∧ m = [(64, .row ⟨3, 0⟩ (ps.map ndP))]) := by
  refine fn_e tok (n := 23) (rs := [.tmp 2]) Tryd.func14 (by decide) rfl rfl rfl rfl (low_of rfl) ?_
  (try simp (maxSteps := 1000000) (disch := first | omega | (simp only [LN, numOk, verOk, rfP, rvP, rhP, frP] <;> omega) | exact Ck.mk rfl) only [VC, T, Nat.reduceMul, Nat.reduceAdd, Nat.reduceSub, Nat.reduceLT, Nat.reduceEqDiff, Nat.reduceLeDiff, Nat.reduceBEq, reduceCtorEq, Int.reduceToNat, ↓reduceIte, rfP, rvP, rhP, frP])
  repeat' (first
    | (refine br_go (fun e f => ?_) (fun e f => ?_) <;> (try simp only [BB] at f) <;> (try simp only [numOk, verOk] at f) <;> (try simp (maxSteps := 1000000) (disch := first | omega | (simp only [LN, numOk, verOk, rfP, rvP, rhP, frP] <;> omega) | exact Ck.mk rfl) only [e, VC, T, Nat.reduceMul, Nat.reduceAdd, Nat.reduceSub, Nat.reduceLT, Nat.reduceEqDiff, Nat.reduceLeDiff, Nat.reduceBEq, reduceCtorEq, Int.reduceToNat, ↓reduceIte, rfP, rvP, rhP, frP]) <;> (try clear e))
    | (refine pick_go (fun e f => ?_) (fun e f => ?_) <;> (try simp only [BB] at f) <;> (try simp only [numOk, verOk] at f) <;> (try simp (maxSteps := 1000000) (disch := first | omega | (simp only [LN, numOk, verOk, rfP, rvP, rhP, frP] <;> omega) | exact Ck.mk rfl) only [e, VC, T, Nat.reduceMul, Nat.reduceAdd, Nat.reduceSub, Nat.reduceLT, Nat.reduceEqDiff, Nat.reduceLeDiff, Nat.reduceBEq, reduceCtorEq, Int.reduceToNat, ↓reduceIte, rfP, rvP, rhP, frP]) <;> (try clear e)))
  refine lp_go (fun i : Nat => ⟨23, [(0, .far (ps.map ndP)), (3, .row 512 ps.length), (4, .int .i64 i)], [(512, .row ⟨3, 0⟩ ((ps.take i ++ List.replicate (ps.length - i) ((0, ⟨#[]⟩, 0) : Nd)).map ndP))]⟩) (fun i => i ≤ ps.length) (fun i => ps.length - i) 0 ?_ (Nat.zero_le _) ?_
  · (simp (disch := first | omega | (simp only [LN, numOk, verOk] <;> omega) | exact Ck.mk rfl) only [SB, EQ, Nat.reduceMul, Nat.reduceAdd, Nat.reduceSub, Nat.reduceLT, Nat.reduceEqDiff, Nat.reduceLeDiff, Nat.reduceBEq, reduceCtorEq, Int.reduceToNat, ↓reduceIte]; try omega)
    simp [ndP]
    exact .inr rfl
  · intro i hi N hN
    have hs := row_step ps ((0, ⟨#[]⟩, 0) : Nd) ps.length i rfl
    have hln : (ps.take i ++ List.replicate (ps.length - i) ((0, ⟨#[]⟩, 0) : Nd)).length = ps.length := by rw [List.length_append, List.length_take, List.length_replicate]; omega
    have hg : i < ps.length → (ps.map ndP).getD i .junk = .agg [.int .i64 (ps.getD i default).1, .str (ps.getD i default).2.1, .int .i64 (ps.getD i default).2.2] := fun h => by
      rw [List.getD_eq_getElem?_getD, List.getElem?_map, List.getElem?_eq_getElem h, List.getD_eq_getElem?_getD, List.getElem?_eq_getElem h]; rfl
    have hu : i < ps.length → ∀ x y z, upd (((ps.take i ++ List.replicate (ps.length - i) ((0, ⟨#[]⟩, 0) : Nd)).map ndP).getD i .junk) 0 [x, y, z] = .agg [x, y, z] := fun h x y z => by
      rw [List.getD_eq_getElem?_getD, List.getElem?_map, List.getElem?_eq_getElem (by omega)]; rfl
    have hset : i < ps.length → ((ps.take i ++ List.replicate (ps.length - i) ((0, ⟨#[]⟩, 0) : Nd)).map ndP).set i (.agg [.int .i64 (ps.getD i default).1, .str (ps.getD i default).2.1, .int .i64 (ps.getD i default).2.2]) = (ps.take (i + 1) ++ List.replicate (ps.length - (i + 1)) ((0, ⟨#[]⟩, 0) : Nd)).map ndP := fun h => by
      rw [← hs h, List.map_set]; rfl
    have hu2 : ∀ (p : Nd) x y z, upd (ndP p) 0 [x, y, z] = .agg [x, y, z] := fun _ => by intros; rfl
    (try simp (maxSteps := 1000000) (disch := first | omega | (simp only [LN, numOk, verOk, rfP, rvP, rhP, frP, hln, hg, hu, hu2, hset] <;> omega) | exact Ck.mk rfl) only [VC, T, Nat.reduceMul, Nat.reduceAdd, Nat.reduceSub, Nat.reduceLT, Nat.reduceEqDiff, Nat.reduceLeDiff, Nat.reduceBEq, reduceCtorEq, Int.reduceToNat, ↓reduceIte, rfP, rvP, rhP, frP, hln, hg, hu, hu2, hset])
    repeat' (first
      | (refine br_go (fun e f => ?_) (fun e f => ?_) <;> (try simp only [BB] at f) <;> (try simp only [numOk, verOk] at f) <;> (try simp (maxSteps := 1000000) (disch := first | omega | (simp only [LN, numOk, verOk, rfP, rvP, rhP, frP, hln, hg, hu, hu2, hset] <;> omega) | exact Ck.mk rfl) only [e, VC, T, Nat.reduceMul, Nat.reduceAdd, Nat.reduceSub, Nat.reduceLT, Nat.reduceEqDiff, Nat.reduceLeDiff, Nat.reduceBEq, reduceCtorEq, Int.reduceToNat, ↓reduceIte, rfP, rvP, rhP, frP, hln, hg, hu, hu2, hset]) <;> (try clear e))
      | (refine pick_go (fun e f => ?_) (fun e f => ?_) <;> (try simp only [BB] at f) <;> (try simp only [numOk, verOk] at f) <;> (try simp (maxSteps := 1000000) (disch := first | omega | (simp only [LN, numOk, verOk, rfP, rvP, rhP, frP, hln, hg, hu, hu2, hset] <;> omega) | exact Ck.mk rfl) only [e, VC, T, Nat.reduceMul, Nat.reduceAdd, Nat.reduceSub, Nat.reduceLT, Nat.reduceEqDiff, Nat.reduceLeDiff, Nat.reduceBEq, reduceCtorEq, Int.reduceToNat, ↓reduceIte, rfP, rvP, rhP, frP, hln, hg, hu, hu2, hset]) <;> (try clear e))
      | ((first | refine call_x (laws_toNode _ _ _) rfl ⟨rfl⟩ ?_); (try simp (maxSteps := 1000000) (disch := first | omega | (simp only [LN, numOk, verOk, rfP, rvP, rhP, frP, hln, hg, hu, hu2, hset] <;> omega) | exact Ck.mk rfl) only [VC, T, Nat.reduceMul, Nat.reduceAdd, Nat.reduceSub, Nat.reduceLT, Nat.reduceEqDiff, Nat.reduceLeDiff, Nat.reduceBEq, reduceCtorEq, Int.reduceToNat, ↓reduceIte, rfP, rvP, rhP, frP, hln, hg, hu, hu2, hset])))
    · refine hN (i + 1) _ (by omega) (by omega) ?_
      (simp (disch := first | omega | (simp only [LN, numOk, verOk] <;> omega) | exact Ck.mk rfl) only [SB, EQ, Nat.reduceMul, Nat.reduceAdd, Nat.reduceSub, Nat.reduceLT, Nat.reduceEqDiff, Nat.reduceLeDiff, Nat.reduceBEq, reduceCtorEq, Int.reduceToNat, ↓reduceIte]; try omega)
    · obtain rfl : i = ps.length := by omega
      exact fin_t [some 512] (⟨rfl, rfl⟩) rfl (by simp [RV, RV2, RVl, RV1, tau, tget, hget, data1, oneOf]) (by simp [RH, RVl, RV1, tau, hget, data1]) (by simp [Taus, hget])
theorem laws_toNodeS (ps : List Nd) (hx : ps.length ≤ 1073741824) : Fn Tryd.prog 14 [.far (ps.map ndP)] [] (.far (ps.map ndP)) [] := by
  obtain ⟨_, _, ⟨rfl, rfl⟩, h⟩ := laws_toNodeS_R ps hx
  refine h.far ?_
  simp [fz, fz2, fz1, cvtl, elems, hget, data1]
theorem laws_toEntryS_R (ps : List Et) (hx : ps.length ≤ 1073741824) : FnE Tryd.prog 15 [.far (ps.map enP)] [] (fun r m => r = .row 64 ps.length ∧ m = [(64, .row ⟨2, 0⟩ (ps.map enP))]) := by
  refine fn_e tok (n := 23) (rs := [.tmp 2]) Tryd.func15 (by decide) rfl rfl rfl rfl (low_of rfl) ?_
  (try simp (maxSteps := 1000000) (disch := first | omega | (simp only [LN, numOk, verOk, rfP, rvP, rhP, frP] <;> omega) | exact Ck.mk rfl) only [VC, T, Nat.reduceMul, Nat.reduceAdd, Nat.reduceSub, Nat.reduceLT, Nat.reduceEqDiff, Nat.reduceLeDiff, Nat.reduceBEq, reduceCtorEq, Int.reduceToNat, ↓reduceIte, rfP, rvP, rhP, frP])
  repeat' (first
    | (refine br_go (fun e f => ?_) (fun e f => ?_) <;> (try simp only [BB] at f) <;> (try simp only [numOk, verOk] at f) <;> (try simp (maxSteps := 1000000) (disch := first | omega | (simp only [LN, numOk, verOk, rfP, rvP, rhP, frP] <;> omega) | exact Ck.mk rfl) only [e, VC, T, Nat.reduceMul, Nat.reduceAdd, Nat.reduceSub, Nat.reduceLT, Nat.reduceEqDiff, Nat.reduceLeDiff, Nat.reduceBEq, reduceCtorEq, Int.reduceToNat, ↓reduceIte, rfP, rvP, rhP, frP]) <;> (try clear e))
    | (refine pick_go (fun e f => ?_) (fun e f => ?_) <;> (try simp only [BB] at f) <;> (try simp only [numOk, verOk] at f) <;> (try simp (maxSteps := 1000000) (disch := first | omega | (simp only [LN, numOk, verOk, rfP, rvP, rhP, frP] <;> omega) | exact Ck.mk rfl) only [e, VC, T, Nat.reduceMul, Nat.reduceAdd, Nat.reduceSub, Nat.reduceLT, Nat.reduceEqDiff, Nat.reduceLeDiff, Nat.reduceBEq, reduceCtorEq, Int.reduceToNat, ↓reduceIte, rfP, rvP, rhP, frP]) <;> (try clear e)))
  refine lp_go (fun i : Nat => ⟨23, [(0, .far (ps.map enP)), (3, .row 512 ps.length), (4, .int .i64 i)], [(512, .row ⟨2, 0⟩ ((ps.take i ++ List.replicate (ps.length - i) ((⟨#[]⟩, 0) : Et)).map enP))]⟩) (fun i => i ≤ ps.length) (fun i => ps.length - i) 0 ?_ (Nat.zero_le _) ?_
  · (simp (disch := first | omega | (simp only [LN, numOk, verOk] <;> omega) | exact Ck.mk rfl) only [SB, EQ, Nat.reduceMul, Nat.reduceAdd, Nat.reduceSub, Nat.reduceLT, Nat.reduceEqDiff, Nat.reduceLeDiff, Nat.reduceBEq, reduceCtorEq, Int.reduceToNat, ↓reduceIte]; try omega)
    simp [enP]
    exact .inr rfl
  · intro i hi N hN
    have hs := row_step ps ((⟨#[]⟩, 0) : Et) ps.length i rfl
    have hln : (ps.take i ++ List.replicate (ps.length - i) ((⟨#[]⟩, 0) : Et)).length = ps.length := by rw [List.length_append, List.length_take, List.length_replicate]; omega
    have hg : i < ps.length → (ps.map enP).getD i .junk = .agg [.str (ps.getD i default).1, .int .i64 (ps.getD i default).2] := fun h => by
      rw [List.getD_eq_getElem?_getD, List.getElem?_map, List.getElem?_eq_getElem h, List.getD_eq_getElem?_getD, List.getElem?_eq_getElem h]; rfl
    have hu : i < ps.length → ∀ x y, upd (((ps.take i ++ List.replicate (ps.length - i) ((⟨#[]⟩, 0) : Et)).map enP).getD i .junk) 0 [x, y] = .agg [x, y] := fun h x y => by
      rw [List.getD_eq_getElem?_getD, List.getElem?_map, List.getElem?_eq_getElem (by omega)]; rfl
    have hset : i < ps.length → ((ps.take i ++ List.replicate (ps.length - i) ((⟨#[]⟩, 0) : Et)).map enP).set i (.agg [.str (ps.getD i default).1, .int .i64 (ps.getD i default).2]) = (ps.take (i + 1) ++ List.replicate (ps.length - (i + 1)) ((⟨#[]⟩, 0) : Et)).map enP := fun h => by
      rw [← hs h, List.map_set]; rfl
    have hu2 : ∀ (p : Et) x y, upd (enP p) 0 [x, y] = .agg [x, y] := fun _ => by intros; rfl
    (try simp (maxSteps := 1000000) (disch := first | omega | (simp only [LN, numOk, verOk, rfP, rvP, rhP, frP, hln, hg, hu, hu2, hset] <;> omega) | exact Ck.mk rfl) only [VC, T, Nat.reduceMul, Nat.reduceAdd, Nat.reduceSub, Nat.reduceLT, Nat.reduceEqDiff, Nat.reduceLeDiff, Nat.reduceBEq, reduceCtorEq, Int.reduceToNat, ↓reduceIte, rfP, rvP, rhP, frP, hln, hg, hu, hu2, hset])
    repeat' (first
      | (refine br_go (fun e f => ?_) (fun e f => ?_) <;> (try simp only [BB] at f) <;> (try simp only [numOk, verOk] at f) <;> (try simp (maxSteps := 1000000) (disch := first | omega | (simp only [LN, numOk, verOk, rfP, rvP, rhP, frP, hln, hg, hu, hu2, hset] <;> omega) | exact Ck.mk rfl) only [e, VC, T, Nat.reduceMul, Nat.reduceAdd, Nat.reduceSub, Nat.reduceLT, Nat.reduceEqDiff, Nat.reduceLeDiff, Nat.reduceBEq, reduceCtorEq, Int.reduceToNat, ↓reduceIte, rfP, rvP, rhP, frP, hln, hg, hu, hu2, hset]) <;> (try clear e))
      | (refine pick_go (fun e f => ?_) (fun e f => ?_) <;> (try simp only [BB] at f) <;> (try simp only [numOk, verOk] at f) <;> (try simp (maxSteps := 1000000) (disch := first | omega | (simp only [LN, numOk, verOk, rfP, rvP, rhP, frP, hln, hg, hu, hu2, hset] <;> omega) | exact Ck.mk rfl) only [e, VC, T, Nat.reduceMul, Nat.reduceAdd, Nat.reduceSub, Nat.reduceLT, Nat.reduceEqDiff, Nat.reduceLeDiff, Nat.reduceBEq, reduceCtorEq, Int.reduceToNat, ↓reduceIte, rfP, rvP, rhP, frP, hln, hg, hu, hu2, hset]) <;> (try clear e))
      | ((first | refine call_x (laws_toEntry _ _) rfl ⟨rfl⟩ ?_); (try simp (maxSteps := 1000000) (disch := first | omega | (simp only [LN, numOk, verOk, rfP, rvP, rhP, frP, hln, hg, hu, hu2, hset] <;> omega) | exact Ck.mk rfl) only [VC, T, Nat.reduceMul, Nat.reduceAdd, Nat.reduceSub, Nat.reduceLT, Nat.reduceEqDiff, Nat.reduceLeDiff, Nat.reduceBEq, reduceCtorEq, Int.reduceToNat, ↓reduceIte, rfP, rvP, rhP, frP, hln, hg, hu, hu2, hset])))
    · refine hN (i + 1) _ (by omega) (by omega) ?_
      (simp (disch := first | omega | (simp only [LN, numOk, verOk] <;> omega) | exact Ck.mk rfl) only [SB, EQ, Nat.reduceMul, Nat.reduceAdd, Nat.reduceSub, Nat.reduceLT, Nat.reduceEqDiff, Nat.reduceLeDiff, Nat.reduceBEq, reduceCtorEq, Int.reduceToNat, ↓reduceIte]; try omega)
    · obtain rfl : i = ps.length := by omega
      exact fin_t [some 512] (⟨rfl, rfl⟩) rfl (by simp [RV, RV2, RVl, RV1, tau, tget, hget, data1, oneOf]) (by simp [RH, RVl, RV1, tau, hget, data1]) (by simp [Taus, hget])
theorem laws_toEntryS (ps : List Et) (hx : ps.length ≤ 1073741824) : Fn Tryd.prog 15 [.far (ps.map enP)] [] (.far (ps.map enP)) [] := by
  obtain ⟨_, _, ⟨rfl, rfl⟩, h⟩ := laws_toEntryS_R ps hx
  refine h.far ?_
  simp [fz, fz2, fz1, cvtl, elems, hget, data1]
theorem laws_eqNodeS (xs ys : List Nd) (hx : xs.length ≤ 4611686018427387904) : Fn Tryd.prog 19 [.far (xs.map ndP), .far (ys.map ndP)] [] (.bool (decide (xs = ys))) [] := by
  refine fn_x tok (n := 27) (rs := [.tmp 4]) Tryd.func19 (by decide) rfl rfl rfl rfl ?_
  (try simp (maxSteps := 1000000) (disch := first | omega | (simp only [LN, numOk, verOk, rfP, rvP, rhP, frP] <;> omega) | exact Ck.mk rfl) only [VC, T, Nat.reduceMul, Nat.reduceAdd, Nat.reduceSub, Nat.reduceLT, Nat.reduceEqDiff, Nat.reduceLeDiff, Nat.reduceBEq, reduceCtorEq, Int.reduceToNat, ↓reduceIte, rfP, rvP, rhP, frP])
  repeat' (first
    | (refine br_go (fun e f => ?_) (fun e f => ?_) <;> (try simp only [BB] at f) <;> (try simp only [numOk, verOk] at f) <;> (try simp (maxSteps := 1000000) (disch := first | omega | (simp only [LN, numOk, verOk, rfP, rvP, rhP, frP] <;> omega) | exact Ck.mk rfl) only [e, VC, T, Nat.reduceMul, Nat.reduceAdd, Nat.reduceSub, Nat.reduceLT, Nat.reduceEqDiff, Nat.reduceLeDiff, Nat.reduceBEq, reduceCtorEq, Int.reduceToNat, ↓reduceIte, rfP, rvP, rhP, frP]) <;> (try clear e))
    | (refine pick_go (fun e f => ?_) (fun e f => ?_) <;> (try simp only [BB] at f) <;> (try simp only [numOk, verOk] at f) <;> (try simp (maxSteps := 1000000) (disch := first | omega | (simp only [LN, numOk, verOk, rfP, rvP, rhP, frP] <;> omega) | exact Ck.mk rfl) only [e, VC, T, Nat.reduceMul, Nat.reduceAdd, Nat.reduceSub, Nat.reduceLT, Nat.reduceEqDiff, Nat.reduceLeDiff, Nat.reduceBEq, reduceCtorEq, Int.reduceToNat, ↓reduceIte, rfP, rvP, rhP, frP]) <;> (try clear e)))
  · have hl : xs.length = ys.length := by omega
    refine lp_go (fun i : Nat => ⟨27, [(0, .far (xs.map ndP)), (1, .far (ys.map ndP)), (5, .int .i64 i)], []⟩) (fun i => i ≤ xs.length ∧ xs.take i = ys.take i) (fun i => xs.length - i) 0 ?_ ⟨Nat.zero_le _, rfl⟩ ?_
    · (simp (disch := first | omega | (simp only [LN, numOk, verOk] <;> omega) | exact Ck.mk rfl) only [SB, EQ, Nat.reduceMul, Nat.reduceAdd, Nat.reduceSub, Nat.reduceLT, Nat.reduceEqDiff, Nat.reduceLeDiff, Nat.reduceBEq, reduceCtorEq, Int.reduceToNat, ↓reduceIte]; try omega)
    · rintro i ⟨h1, h2⟩ N hN
      have hg : ∀ zs : List Nd, i < zs.length → (zs.map ndP).getD i .junk = .agg [.int .i64 (zs.getD i default).1, .str (zs.getD i default).2.1, .int .i64 (zs.getD i default).2.2] := fun zs h => by
        rw [List.getD_eq_getElem?_getD, List.getElem?_map, List.getElem?_eq_getElem h, List.getD_eq_getElem?_getD, List.getElem?_eq_getElem h]; rfl
      (try simp (maxSteps := 1000000) (disch := first | omega | (simp only [LN, numOk, verOk, rfP, rvP, rhP, frP, hg] <;> omega) | exact Ck.mk rfl) only [VC, T, Nat.reduceMul, Nat.reduceAdd, Nat.reduceSub, Nat.reduceLT, Nat.reduceEqDiff, Nat.reduceLeDiff, Nat.reduceBEq, reduceCtorEq, Int.reduceToNat, ↓reduceIte, rfP, rvP, rhP, frP, hg])
      repeat' (first
        | (refine br_go (fun e f => ?_) (fun e f => ?_) <;> (try simp only [BB] at f) <;> (try simp only [numOk, verOk] at f) <;> (try simp (maxSteps := 1000000) (disch := first | omega | (simp only [LN, numOk, verOk, rfP, rvP, rhP, frP, hg] <;> omega) | exact Ck.mk rfl) only [e, VC, T, Nat.reduceMul, Nat.reduceAdd, Nat.reduceSub, Nat.reduceLT, Nat.reduceEqDiff, Nat.reduceLeDiff, Nat.reduceBEq, reduceCtorEq, Int.reduceToNat, ↓reduceIte, rfP, rvP, rhP, frP, hg]) <;> (try clear e))
        | (refine pick_go (fun e f => ?_) (fun e f => ?_) <;> (try simp only [BB] at f) <;> (try simp only [numOk, verOk] at f) <;> (try simp (maxSteps := 1000000) (disch := first | omega | (simp only [LN, numOk, verOk, rfP, rvP, rhP, frP, hg] <;> omega) | exact Ck.mk rfl) only [e, VC, T, Nat.reduceMul, Nat.reduceAdd, Nat.reduceSub, Nat.reduceLT, Nat.reduceEqDiff, Nat.reduceLeDiff, Nat.reduceBEq, reduceCtorEq, Int.reduceToNat, ↓reduceIte, rfP, rvP, rhP, frP, hg]) <;> (try clear e))
        | ((first | refine dr_go mixed (id := 6) [([], [0], []), ([], [5], []), ([0, 1], [17, 18], []), ([0, 1, 2], [19], []), ([], [1], []), ([], [5], []), ([4, 5], [21, 22], []), ([4, 5, 6], [23], []), ([0, 1, 2, 3, 4, 5, 6, 7], [20, 24], []), ([0, 1, 2, 3, 4, 5, 6, 7, 8], [25], [])] rfl rfl rfl ?_ | refine call_x (laws_eqNode (xs.getD i default) (ys.getD i default)) rfl ⟨rfl⟩ ?_); (try simp (maxSteps := 1000000) (disch := first | omega | (simp only [LN, numOk, verOk, rfP, rvP, rhP, frP, hg] <;> omega) | exact Ck.mk rfl) only [VC, T, Nat.reduceMul, Nat.reduceAdd, Nat.reduceSub, Nat.reduceLT, Nat.reduceEqDiff, Nat.reduceLeDiff, Nat.reduceBEq, reduceCtorEq, Int.reduceToNat, ↓reduceIte, rfP, rvP, rhP, frP, hg])))
      · refine hN (i + 1) _ ⟨by omega, eq_step xs ys i hl (by omega) h2 f⟩ (by omega) ?_
        (simp (disch := first | omega | (simp only [LN, numOk, verOk] <;> omega) | exact Ck.mk rfl) only [SB, EQ, Nat.reduceMul, Nat.reduceAdd, Nat.reduceSub, Nat.reduceLT, Nat.reduceEqDiff, Nat.reduceLeDiff, Nat.reduceBEq, reduceCtorEq, Int.reduceToNat, ↓reduceIte]; try omega)
      · rw [decide_eq_false fun h => by subst h; simp at f]
      · rw [List.take_of_length_le (by omega), List.take_of_length_le (by omega)] at h2
        rw [decide_eq_true h2]
  · rw [decide_eq_false fun h => f (by rw [h])]
theorem laws_eqEntryS (xs ys : List Et) (hx : xs.length ≤ 4611686018427387904) : Fn Tryd.prog 20 [.far (xs.map enP), .far (ys.map enP)] [] (.bool (decide (xs = ys))) [] := by
  refine fn_x tok (n := 27) (rs := [.tmp 4]) Tryd.func20 (by decide) rfl rfl rfl rfl ?_
  (try simp (maxSteps := 1000000) (disch := first | omega | (simp only [LN, numOk, verOk, rfP, rvP, rhP, frP] <;> omega) | exact Ck.mk rfl) only [VC, T, Nat.reduceMul, Nat.reduceAdd, Nat.reduceSub, Nat.reduceLT, Nat.reduceEqDiff, Nat.reduceLeDiff, Nat.reduceBEq, reduceCtorEq, Int.reduceToNat, ↓reduceIte, rfP, rvP, rhP, frP])
  repeat' (first
    | (refine br_go (fun e f => ?_) (fun e f => ?_) <;> (try simp only [BB] at f) <;> (try simp only [numOk, verOk] at f) <;> (try simp (maxSteps := 1000000) (disch := first | omega | (simp only [LN, numOk, verOk, rfP, rvP, rhP, frP] <;> omega) | exact Ck.mk rfl) only [e, VC, T, Nat.reduceMul, Nat.reduceAdd, Nat.reduceSub, Nat.reduceLT, Nat.reduceEqDiff, Nat.reduceLeDiff, Nat.reduceBEq, reduceCtorEq, Int.reduceToNat, ↓reduceIte, rfP, rvP, rhP, frP]) <;> (try clear e))
    | (refine pick_go (fun e f => ?_) (fun e f => ?_) <;> (try simp only [BB] at f) <;> (try simp only [numOk, verOk] at f) <;> (try simp (maxSteps := 1000000) (disch := first | omega | (simp only [LN, numOk, verOk, rfP, rvP, rhP, frP] <;> omega) | exact Ck.mk rfl) only [e, VC, T, Nat.reduceMul, Nat.reduceAdd, Nat.reduceSub, Nat.reduceLT, Nat.reduceEqDiff, Nat.reduceLeDiff, Nat.reduceBEq, reduceCtorEq, Int.reduceToNat, ↓reduceIte, rfP, rvP, rhP, frP]) <;> (try clear e)))
  · have hl : xs.length = ys.length := by omega
    refine lp_go (fun i : Nat => ⟨27, [(0, .far (xs.map enP)), (1, .far (ys.map enP)), (5, .int .i64 i)], []⟩) (fun i => i ≤ xs.length ∧ xs.take i = ys.take i) (fun i => xs.length - i) 0 ?_ ⟨Nat.zero_le _, rfl⟩ ?_
    · (simp (disch := first | omega | (simp only [LN, numOk, verOk] <;> omega) | exact Ck.mk rfl) only [SB, EQ, Nat.reduceMul, Nat.reduceAdd, Nat.reduceSub, Nat.reduceLT, Nat.reduceEqDiff, Nat.reduceLeDiff, Nat.reduceBEq, reduceCtorEq, Int.reduceToNat, ↓reduceIte]; try omega)
    · rintro i ⟨h1, h2⟩ N hN
      have hg : ∀ zs : List Et, i < zs.length → (zs.map enP).getD i .junk = .agg [.str (zs.getD i default).1, .int .i64 (zs.getD i default).2] := fun zs h => by
        rw [List.getD_eq_getElem?_getD, List.getElem?_map, List.getElem?_eq_getElem h, List.getD_eq_getElem?_getD, List.getElem?_eq_getElem h]; rfl
      (try simp (maxSteps := 1000000) (disch := first | omega | (simp only [LN, numOk, verOk, rfP, rvP, rhP, frP, hg] <;> omega) | exact Ck.mk rfl) only [VC, T, Nat.reduceMul, Nat.reduceAdd, Nat.reduceSub, Nat.reduceLT, Nat.reduceEqDiff, Nat.reduceLeDiff, Nat.reduceBEq, reduceCtorEq, Int.reduceToNat, ↓reduceIte, rfP, rvP, rhP, frP, hg])
      repeat' (first
        | (refine br_go (fun e f => ?_) (fun e f => ?_) <;> (try simp only [BB] at f) <;> (try simp only [numOk, verOk] at f) <;> (try simp (maxSteps := 1000000) (disch := first | omega | (simp only [LN, numOk, verOk, rfP, rvP, rhP, frP, hg] <;> omega) | exact Ck.mk rfl) only [e, VC, T, Nat.reduceMul, Nat.reduceAdd, Nat.reduceSub, Nat.reduceLT, Nat.reduceEqDiff, Nat.reduceLeDiff, Nat.reduceBEq, reduceCtorEq, Int.reduceToNat, ↓reduceIte, rfP, rvP, rhP, frP, hg]) <;> (try clear e))
        | (refine pick_go (fun e f => ?_) (fun e f => ?_) <;> (try simp only [BB] at f) <;> (try simp only [numOk, verOk] at f) <;> (try simp (maxSteps := 1000000) (disch := first | omega | (simp only [LN, numOk, verOk, rfP, rvP, rhP, frP, hg] <;> omega) | exact Ck.mk rfl) only [e, VC, T, Nat.reduceMul, Nat.reduceAdd, Nat.reduceSub, Nat.reduceLT, Nat.reduceEqDiff, Nat.reduceLeDiff, Nat.reduceBEq, reduceCtorEq, Int.reduceToNat, ↓reduceIte, rfP, rvP, rhP, frP, hg]) <;> (try clear e))
        | ((first | refine dr_go mixed (id := 6) [([], [0], []), ([], [5], []), ([0, 1], [17, 18], []), ([0, 1, 2], [19], []), ([], [1], []), ([], [5], []), ([4, 5], [21, 22], []), ([4, 5, 6], [23], []), ([0, 1, 2, 3, 4, 5, 6, 7], [20, 24], []), ([0, 1, 2, 3, 4, 5, 6, 7, 8], [25], [])] rfl rfl rfl ?_ | refine call_x (laws_eqEntry (xs.getD i default) (ys.getD i default)) rfl ⟨rfl⟩ ?_); (try simp (maxSteps := 1000000) (disch := first | omega | (simp only [LN, numOk, verOk, rfP, rvP, rhP, frP, hg] <;> omega) | exact Ck.mk rfl) only [VC, T, Nat.reduceMul, Nat.reduceAdd, Nat.reduceSub, Nat.reduceLT, Nat.reduceEqDiff, Nat.reduceLeDiff, Nat.reduceBEq, reduceCtorEq, Int.reduceToNat, ↓reduceIte, rfP, rvP, rhP, frP, hg])))
      · refine hN (i + 1) _ ⟨by omega, eq_step xs ys i hl (by omega) h2 f⟩ (by omega) ?_
        (simp (disch := first | omega | (simp only [LN, numOk, verOk] <;> omega) | exact Ck.mk rfl) only [SB, EQ, Nat.reduceMul, Nat.reduceAdd, Nat.reduceSub, Nat.reduceLT, Nat.reduceEqDiff, Nat.reduceLeDiff, Nat.reduceBEq, reduceCtorEq, Int.reduceToNat, ↓reduceIte]; try omega)
      · rw [decide_eq_false fun h => by subst h; simp at f]
      · rw [List.take_of_length_le (by omega), List.take_of_length_le (by omega)] at h2
        rw [decide_eq_true h2]
  · rw [decide_eq_false fun h => f (by rw [h])]
/-! ### how large disks are -/
def sumF {α : Type} (f : α → Int) (l : List α) : Int := l.foldr (fun s n => f s + n) 0
theorem sumF_cons {α : Type} (f : α → Int) (s : α) (l : List α) : sumF f (s :: l) = f s + sumF f l := rfl
theorem sumF_pos {α : Type} (f : α → Int) (hf : ∀ x, 0 ≤ f x) (l : List α) : 0 ≤ sumF f l := by
  induction l with
  | nil => exact Int.le_refl _
  | cons s l ih => rw [sumF_cons]; have := hf s; omega
theorem sumF_mem {α : Type} (f : α → Int) (hf : ∀ x, 0 ≤ f x) : ∀ {l : List α} {s : α}, s ∈ l → f s ≤ sumF f l
  | x :: l, s, h => by
    rw [sumF_cons]
    rcases List.mem_cons.1 h with rfl | h
    · have := sumF_pos f hf l; omega
    · have := sumF_mem f hf h; have := hf x; omega
theorem sumF_drop {α : Type} [Inhabited α] (f : α → Int) (l : List α) (i : Nat) (h : i < l.length) : sumF f (l.drop i) = f (l.getD i default) + sumF f (l.drop (i + 1)) := by
  rw [List.drop_eq_getElem_cons h, List.getD_eq_getElem?_getD, List.getElem?_eq_getElem h]; rfl
def ndZ (x : Nd) : Int := x.2.1.size
def enZ (x : Et) : Int := x.1.size
theorem ndZ_pos (x : Nd) : 0 ≤ ndZ x := by unfold ndZ; omega
theorem enZ_pos (x : Et) : 0 ≤ enZ x := by unfold enZ; omega
theorem laws_szNode (a : Int) (b : ByteArray) (c n : Int) (hn : 0 ≤ n ∧ n ≤ 1048576) (hb : b.size ≤ 9223372036854775807) : Fn Tryd.prog 22 [.agg [.int .i64 a, .str b, .int .i64 c], .int .i64 n] [] (.int .i64 (if n - b.size < 0 then -1 else n - b.size)) [] := by
  refine fn_x tok (n := 13) (rs := [.tmp 4]) Tryd.func22 (by decide) rfl rfl rfl rfl ?_
  (try simp (maxSteps := 1000000) (disch := first | omega | (simp only [LN, numOk, verOk, rfP, rvP, rhP, frP] <;> omega) | exact Ck.mk rfl) only [VC, T, Nat.reduceMul, Nat.reduceAdd, Nat.reduceSub, Nat.reduceLT, Nat.reduceEqDiff, Nat.reduceLeDiff, Nat.reduceBEq, reduceCtorEq, Int.reduceToNat, ↓reduceIte, rfP, rvP, rhP, frP])
  repeat' (first
    | (refine br_go (fun e f => ?_) (fun e f => ?_) <;> (try simp only [BB] at f) <;> (try simp only [numOk, verOk] at f) <;> (try simp (maxSteps := 1000000) (disch := first | omega | (simp only [LN, numOk, verOk, rfP, rvP, rhP, frP] <;> omega) | exact Ck.mk rfl) only [e, VC, T, Nat.reduceMul, Nat.reduceAdd, Nat.reduceSub, Nat.reduceLT, Nat.reduceEqDiff, Nat.reduceLeDiff, Nat.reduceBEq, reduceCtorEq, Int.reduceToNat, ↓reduceIte, rfP, rvP, rhP, frP]) <;> (try clear e))
    | (refine pick_go (fun e f => ?_) (fun e f => ?_) <;> (try simp only [BB] at f) <;> (try simp only [numOk, verOk] at f) <;> (try simp (maxSteps := 1000000) (disch := first | omega | (simp only [LN, numOk, verOk, rfP, rvP, rhP, frP] <;> omega) | exact Ck.mk rfl) only [e, VC, T, Nat.reduceMul, Nat.reduceAdd, Nat.reduceSub, Nat.reduceLT, Nat.reduceEqDiff, Nat.reduceLeDiff, Nat.reduceBEq, reduceCtorEq, Int.reduceToNat, ↓reduceIte, rfP, rvP, rhP, frP]) <;> (try clear e)))
  · rw [if_pos f]
  · rw [if_neg (by omega)]
theorem laws_szEntry (b : ByteArray) (c n : Int) (hn : 0 ≤ n ∧ n ≤ 1048576) (hb : b.size ≤ 9223372036854775807) : Fn Tryd.prog 23 [.agg [.str b, .int .i64 c], .int .i64 n] [] (.int .i64 (if n - b.size < 0 then -1 else n - b.size)) [] := by
  refine fn_x tok (n := 13) (rs := [.tmp 4]) Tryd.func23 (by decide) rfl rfl rfl rfl ?_
  (try simp (maxSteps := 1000000) (disch := first | omega | (simp only [LN, numOk, verOk, rfP, rvP, rhP, frP] <;> omega) | exact Ck.mk rfl) only [VC, T, Nat.reduceMul, Nat.reduceAdd, Nat.reduceSub, Nat.reduceLT, Nat.reduceEqDiff, Nat.reduceLeDiff, Nat.reduceBEq, reduceCtorEq, Int.reduceToNat, ↓reduceIte, rfP, rvP, rhP, frP])
  repeat' (first
    | (refine br_go (fun e f => ?_) (fun e f => ?_) <;> (try simp only [BB] at f) <;> (try simp only [numOk, verOk] at f) <;> (try simp (maxSteps := 1000000) (disch := first | omega | (simp only [LN, numOk, verOk, rfP, rvP, rhP, frP] <;> omega) | exact Ck.mk rfl) only [e, VC, T, Nat.reduceMul, Nat.reduceAdd, Nat.reduceSub, Nat.reduceLT, Nat.reduceEqDiff, Nat.reduceLeDiff, Nat.reduceBEq, reduceCtorEq, Int.reduceToNat, ↓reduceIte, rfP, rvP, rhP, frP]) <;> (try clear e))
    | (refine pick_go (fun e f => ?_) (fun e f => ?_) <;> (try simp only [BB] at f) <;> (try simp only [numOk, verOk] at f) <;> (try simp (maxSteps := 1000000) (disch := first | omega | (simp only [LN, numOk, verOk, rfP, rvP, rhP, frP] <;> omega) | exact Ck.mk rfl) only [e, VC, T, Nat.reduceMul, Nat.reduceAdd, Nat.reduceSub, Nat.reduceLT, Nat.reduceEqDiff, Nat.reduceLeDiff, Nat.reduceBEq, reduceCtorEq, Int.reduceToNat, ↓reduceIte, rfP, rvP, rhP, frP]) <;> (try clear e)))
  · rw [if_pos f]
  · rw [if_neg (by omega)]
theorem laws_szNodeS (xs : List Nd) (n : Int) (hn : 0 ≤ n ∧ n ≤ 1048576) (hx : xs.length ≤ 9223372036854775807) (hs : ∀ x ∈ xs, x.2.1.size ≤ 9223372036854775807) : FnV Tryd.prog 9 [.far (xs.map ndP), .int .i64 n] (fun r => ∃ m : Int, r = .int .i64 m ∧ (0 ≤ m → m = n - xs.length - sumF ndZ xs) ∧ -1 ≤ m ∧ m ≤ n) := by
  refine fn_v tok (n := 27) (rs := [.tmp 4]) Tryd.func9 (by decide) rfl rfl rfl rfl ?_
  (try simp (maxSteps := 1000000) (disch := first | omega | (simp only [LN, numOk, verOk, rfP, rvP, rhP, frP] <;> omega) | exact Ck.mk rfl) only [VC, T, Nat.reduceMul, Nat.reduceAdd, Nat.reduceSub, Nat.reduceLT, Nat.reduceEqDiff, Nat.reduceLeDiff, Nat.reduceBEq, reduceCtorEq, Int.reduceToNat, ↓reduceIte, rfP, rvP, rhP, frP])
  repeat' (first
    | (refine br_go (fun e f => ?_) (fun e f => ?_) <;> (try simp only [BB] at f) <;> (try simp only [numOk, verOk] at f) <;> (try simp (maxSteps := 1000000) (disch := first | omega | (simp only [LN, numOk, verOk, rfP, rvP, rhP, frP] <;> omega) | exact Ck.mk rfl) only [e, VC, T, Nat.reduceMul, Nat.reduceAdd, Nat.reduceSub, Nat.reduceLT, Nat.reduceEqDiff, Nat.reduceLeDiff, Nat.reduceBEq, reduceCtorEq, Int.reduceToNat, ↓reduceIte, rfP, rvP, rhP, frP]) <;> (try clear e))
    | (refine pick_go (fun e f => ?_) (fun e f => ?_) <;> (try simp only [BB] at f) <;> (try simp only [numOk, verOk] at f) <;> (try simp (maxSteps := 1000000) (disch := first | omega | (simp only [LN, numOk, verOk, rfP, rvP, rhP, frP] <;> omega) | exact Ck.mk rfl) only [e, VC, T, Nat.reduceMul, Nat.reduceAdd, Nat.reduceSub, Nat.reduceLT, Nat.reduceEqDiff, Nat.reduceLeDiff, Nat.reduceBEq, reduceCtorEq, Int.reduceToNat, ↓reduceIte, rfP, rvP, rhP, frP]) <;> (try clear e)))
  · exact ⟨-1, rfl, fun h => by omega, by omega, by omega⟩
  · refine lp_go (fun x : Nat × Int => ⟨27, [(0, .far (xs.map ndP)), (1, .int .i64 x.2), (5, .int .i64 x.1)], []⟩) (fun x => x.1 ≤ xs.length ∧ (0 ≤ x.2 ∧ x.2 ≤ n) ∧ n - xs.length - sumF ndZ xs = x.2 - sumF ndZ (xs.drop x.1)) (fun x => xs.length - x.1) (0, n - xs.length) ?_ ⟨Nat.zero_le _, by simp only; omega, rfl⟩ ?_
    · (simp (disch := first | omega | (simp only [LN, numOk, verOk] <;> omega) | exact Ck.mk rfl) only [SB, EQ, Nat.reduceMul, Nat.reduceAdd, Nat.reduceSub, Nat.reduceLT, Nat.reduceEqDiff, Nat.reduceLeDiff, Nat.reduceBEq, reduceCtorEq, Int.reduceToNat, ↓reduceIte]; try omega)
    · rintro ⟨i, m⟩ ⟨h1, h2, h3⟩ N hN
      simp only at h1 h2 h3
      have hd := sumF_drop ndZ xs i
      have hz : i < xs.length → (xs.getD i default).2.1.size ≤ 9223372036854775807 := fun h => hs _ (getD_mem _ _ h)
      have hp := sumF_pos ndZ ndZ_pos (xs.drop (i + 1))
      have hg : i < xs.length → (xs.map ndP).getD i .junk = .agg [.int .i64 (xs.getD i default).1, .str (xs.getD i default).2.1, .int .i64 (xs.getD i default).2.2] := fun h => by
        rw [List.getD_eq_getElem?_getD, List.getElem?_map, List.getElem?_eq_getElem h, List.getD_eq_getElem?_getD, List.getElem?_eq_getElem h]; rfl
      (try simp (maxSteps := 1000000) (disch := first | omega | (simp only [LN, numOk, verOk, rfP, rvP, rhP, frP, hg] <;> omega) | exact Ck.mk rfl) only [VC, T, Nat.reduceMul, Nat.reduceAdd, Nat.reduceSub, Nat.reduceLT, Nat.reduceEqDiff, Nat.reduceLeDiff, Nat.reduceBEq, reduceCtorEq, Int.reduceToNat, ↓reduceIte, rfP, rvP, rhP, frP, hg])
      repeat' (first
        | (refine br_go (fun e f => ?_) (fun e f => ?_) <;> (try simp only [BB] at f) <;> (try simp only [numOk, verOk] at f) <;> (try simp (maxSteps := 1000000) (disch := first | omega | (simp only [LN, numOk, verOk, rfP, rvP, rhP, frP, hg] <;> omega) | exact Ck.mk rfl) only [e, VC, T, Nat.reduceMul, Nat.reduceAdd, Nat.reduceSub, Nat.reduceLT, Nat.reduceEqDiff, Nat.reduceLeDiff, Nat.reduceBEq, reduceCtorEq, Int.reduceToNat, ↓reduceIte, rfP, rvP, rhP, frP, hg]) <;> (try clear e))
        | (refine pick_go (fun e f => ?_) (fun e f => ?_) <;> (try simp only [BB] at f) <;> (try simp only [numOk, verOk] at f) <;> (try simp (maxSteps := 1000000) (disch := first | omega | (simp only [LN, numOk, verOk, rfP, rvP, rhP, frP, hg] <;> omega) | exact Ck.mk rfl) only [e, VC, T, Nat.reduceMul, Nat.reduceAdd, Nat.reduceSub, Nat.reduceLT, Nat.reduceEqDiff, Nat.reduceLeDiff, Nat.reduceBEq, reduceCtorEq, Int.reduceToNat, ↓reduceIte, rfP, rvP, rhP, frP, hg]) <;> (try clear e))
        | ((first | refine call_x (laws_szNode _ _ _ _ (by omega) (hz (by omega))) rfl ⟨rfl⟩ ?_); (try simp (maxSteps := 1000000) (disch := first | omega | (simp only [LN, numOk, verOk, rfP, rvP, rhP, frP, hg] <;> omega) | exact Ck.mk rfl) only [VC, T, Nat.reduceMul, Nat.reduceAdd, Nat.reduceSub, Nat.reduceLT, Nat.reduceEqDiff, Nat.reduceLeDiff, Nat.reduceBEq, reduceCtorEq, Int.reduceToNat, ↓reduceIte, rfP, rvP, rhP, frP, hg])))
      · exact ⟨-1, rfl, fun h => by omega, by omega, by omega⟩
      · split at f
        · exfalso; omega
        · rename_i hq
          rw [if_neg hq] at *
          refine hN (i + 1, m - (xs.getD i default).2.1.size) _ ⟨by simp only; omega, ⟨by simp only; omega, by simp only; omega⟩, by simp only; have := hd (by omega); unfold ndZ at *; omega⟩ (by simp only; omega) ?_
          (simp (disch := first | omega | (simp only [LN, numOk, verOk] <;> omega) | exact Ck.mk rfl) only [SB, EQ, Nat.reduceMul, Nat.reduceAdd, Nat.reduceSub, Nat.reduceLT, Nat.reduceEqDiff, Nat.reduceLeDiff, Nat.reduceBEq, reduceCtorEq, Int.reduceToNat, ↓reduceIte]; try omega)
      · rw [List.drop_eq_nil_of_le (by omega)] at h3
        exact ⟨m, rfl, fun _ => by rw [h3]; simp [sumF], by omega, by omega⟩
theorem laws_szEntryS (xs : List Et) (n : Int) (hn : 0 ≤ n ∧ n ≤ 1048576) (hx : xs.length ≤ 9223372036854775807) (hs : ∀ x ∈ xs, x.1.size ≤ 9223372036854775807) : FnV Tryd.prog 10 [.far (xs.map enP), .int .i64 n] (fun r => ∃ m : Int, r = .int .i64 m ∧ (0 ≤ m → m = n - xs.length - sumF enZ xs) ∧ -1 ≤ m ∧ m ≤ n) := by
  refine fn_v tok (n := 27) (rs := [.tmp 4]) Tryd.func10 (by decide) rfl rfl rfl rfl ?_
  (try simp (maxSteps := 1000000) (disch := first | omega | (simp only [LN, numOk, verOk, rfP, rvP, rhP, frP] <;> omega) | exact Ck.mk rfl) only [VC, T, Nat.reduceMul, Nat.reduceAdd, Nat.reduceSub, Nat.reduceLT, Nat.reduceEqDiff, Nat.reduceLeDiff, Nat.reduceBEq, reduceCtorEq, Int.reduceToNat, ↓reduceIte, rfP, rvP, rhP, frP])
  repeat' (first
    | (refine br_go (fun e f => ?_) (fun e f => ?_) <;> (try simp only [BB] at f) <;> (try simp only [numOk, verOk] at f) <;> (try simp (maxSteps := 1000000) (disch := first | omega | (simp only [LN, numOk, verOk, rfP, rvP, rhP, frP] <;> omega) | exact Ck.mk rfl) only [e, VC, T, Nat.reduceMul, Nat.reduceAdd, Nat.reduceSub, Nat.reduceLT, Nat.reduceEqDiff, Nat.reduceLeDiff, Nat.reduceBEq, reduceCtorEq, Int.reduceToNat, ↓reduceIte, rfP, rvP, rhP, frP]) <;> (try clear e))
    | (refine pick_go (fun e f => ?_) (fun e f => ?_) <;> (try simp only [BB] at f) <;> (try simp only [numOk, verOk] at f) <;> (try simp (maxSteps := 1000000) (disch := first | omega | (simp only [LN, numOk, verOk, rfP, rvP, rhP, frP] <;> omega) | exact Ck.mk rfl) only [e, VC, T, Nat.reduceMul, Nat.reduceAdd, Nat.reduceSub, Nat.reduceLT, Nat.reduceEqDiff, Nat.reduceLeDiff, Nat.reduceBEq, reduceCtorEq, Int.reduceToNat, ↓reduceIte, rfP, rvP, rhP, frP]) <;> (try clear e)))
  · exact ⟨-1, rfl, fun h => by omega, by omega, by omega⟩
  · refine lp_go (fun x : Nat × Int => ⟨27, [(0, .far (xs.map enP)), (1, .int .i64 x.2), (5, .int .i64 x.1)], []⟩) (fun x => x.1 ≤ xs.length ∧ (0 ≤ x.2 ∧ x.2 ≤ n) ∧ n - xs.length - sumF enZ xs = x.2 - sumF enZ (xs.drop x.1)) (fun x => xs.length - x.1) (0, n - xs.length) ?_ ⟨Nat.zero_le _, by simp only; omega, rfl⟩ ?_
    · (simp (disch := first | omega | (simp only [LN, numOk, verOk] <;> omega) | exact Ck.mk rfl) only [SB, EQ, Nat.reduceMul, Nat.reduceAdd, Nat.reduceSub, Nat.reduceLT, Nat.reduceEqDiff, Nat.reduceLeDiff, Nat.reduceBEq, reduceCtorEq, Int.reduceToNat, ↓reduceIte]; try omega)
    · rintro ⟨i, m⟩ ⟨h1, h2, h3⟩ N hN
      simp only at h1 h2 h3
      have hd := sumF_drop enZ xs i
      have hz : i < xs.length → (xs.getD i default).1.size ≤ 9223372036854775807 := fun h => hs _ (getD_mem _ _ h)
      have hp := sumF_pos enZ enZ_pos (xs.drop (i + 1))
      have hg : i < xs.length → (xs.map enP).getD i .junk = .agg [.str (xs.getD i default).1, .int .i64 (xs.getD i default).2] := fun h => by
        rw [List.getD_eq_getElem?_getD, List.getElem?_map, List.getElem?_eq_getElem h, List.getD_eq_getElem?_getD, List.getElem?_eq_getElem h]; rfl
      (try simp (maxSteps := 1000000) (disch := first | omega | (simp only [LN, numOk, verOk, rfP, rvP, rhP, frP, hg] <;> omega) | exact Ck.mk rfl) only [VC, T, Nat.reduceMul, Nat.reduceAdd, Nat.reduceSub, Nat.reduceLT, Nat.reduceEqDiff, Nat.reduceLeDiff, Nat.reduceBEq, reduceCtorEq, Int.reduceToNat, ↓reduceIte, rfP, rvP, rhP, frP, hg])
      repeat' (first
        | (refine br_go (fun e f => ?_) (fun e f => ?_) <;> (try simp only [BB] at f) <;> (try simp only [numOk, verOk] at f) <;> (try simp (maxSteps := 1000000) (disch := first | omega | (simp only [LN, numOk, verOk, rfP, rvP, rhP, frP, hg] <;> omega) | exact Ck.mk rfl) only [e, VC, T, Nat.reduceMul, Nat.reduceAdd, Nat.reduceSub, Nat.reduceLT, Nat.reduceEqDiff, Nat.reduceLeDiff, Nat.reduceBEq, reduceCtorEq, Int.reduceToNat, ↓reduceIte, rfP, rvP, rhP, frP, hg]) <;> (try clear e))
        | (refine pick_go (fun e f => ?_) (fun e f => ?_) <;> (try simp only [BB] at f) <;> (try simp only [numOk, verOk] at f) <;> (try simp (maxSteps := 1000000) (disch := first | omega | (simp only [LN, numOk, verOk, rfP, rvP, rhP, frP, hg] <;> omega) | exact Ck.mk rfl) only [e, VC, T, Nat.reduceMul, Nat.reduceAdd, Nat.reduceSub, Nat.reduceLT, Nat.reduceEqDiff, Nat.reduceLeDiff, Nat.reduceBEq, reduceCtorEq, Int.reduceToNat, ↓reduceIte, rfP, rvP, rhP, frP, hg]) <;> (try clear e))
        | ((first | refine call_x (laws_szEntry _ _ _ (by omega) (hz (by omega))) rfl ⟨rfl⟩ ?_); (try simp (maxSteps := 1000000) (disch := first | omega | (simp only [LN, numOk, verOk, rfP, rvP, rhP, frP, hg] <;> omega) | exact Ck.mk rfl) only [VC, T, Nat.reduceMul, Nat.reduceAdd, Nat.reduceSub, Nat.reduceLT, Nat.reduceEqDiff, Nat.reduceLeDiff, Nat.reduceBEq, reduceCtorEq, Int.reduceToNat, ↓reduceIte, rfP, rvP, rhP, frP, hg])))
      · exact ⟨-1, rfl, fun h => by omega, by omega, by omega⟩
      · split at f
        · exfalso; omega
        · rename_i hq
          rw [if_neg hq] at *
          refine hN (i + 1, m - (xs.getD i default).1.size) _ ⟨by simp only; omega, ⟨by simp only; omega, by simp only; omega⟩, by simp only; have := hd (by omega); unfold enZ at *; omega⟩ (by simp only; omega) ?_
          (simp (disch := first | omega | (simp only [LN, numOk, verOk] <;> omega) | exact Ck.mk rfl) only [SB, EQ, Nat.reduceMul, Nat.reduceAdd, Nat.reduceSub, Nat.reduceLT, Nat.reduceEqDiff, Nat.reduceLeDiff, Nat.reduceBEq, reduceCtorEq, Int.reduceToNat, ↓reduceIte]; try omega)
      · rw [List.drop_eq_nil_of_le (by omega)] at h3
        exact ⟨m, rfl, fun _ => by rw [h3]; simp [sumF], by omega, by omega⟩
end Go.Pv

/- What functions of the program and of the reference do, in plain values. -/
namespace Go.Pv
open Go.Proofs Go.Mth
set_option linter.unusedSimpArgs false
set_option linter.unusedVariables false
set_option maxHeartbeats 4000000

/-! ### the laws' own functions: whole disks -/
def mkNd (k : Int) (i : Int) : Nd := (k + 3 * i, markT (k + 3 * i + 1), k + 3 * i + 2)
def mkEt (k : Int) (i : Int) : Et := (markT (k + 2 * i), k + 2 * i + 1)
def dkR (K : Nat) (d : Dk) : PV := .agg [.row K d.1.length, .row (K + 1) d.2.1.length, .row (K + 2) d.2.2.1.length, .row (K + 3) d.2.2.2.1.length, .int .i64 d.2.2.2.2.1, .int .i64 d.2.2.2.2.2]
def dkH (d : Dk) : Hp := [(64, .row ⟨3, 0⟩ (d.1.map ndP)), (65, .row ⟨2, 0⟩ (d.2.1.map enP)), (66, .row ⟨2, 0⟩ (d.2.2.1.map enP)), (67, .row ⟨1, 0⟩ (d.2.2.2.1.map .str))]
theorem laws_toDisk_R (d : Dk) (h : DkOk d) : FnE Tryd.prog 6 [dkP d] [] (fun r m => r = dkR 64 d ∧ m = dkH d) := by
  obtain ⟨ns, es, os, ss, r, x⟩ := d
  have h1 := h.ns
  have h2 := h.es
  have h3 := h.os
  have h4 := h.ss
  simp only at h1 h2 h3 h4
  unfold dkP
  refine fn_e tok (n := 27) (rs := [.cell 2 32]) Tryd.func6 (by decide) rfl rfl rfl rfl (low_of rfl) ?_
  (try simp (maxSteps := 1000000) (disch := first | omega | (simp only [LN, numOk, verOk, rfP, rvP, rhP, frP] <;> omega) | exact Ck.mk rfl) only [VC, T, Nat.reduceMul, Nat.reduceAdd, Nat.reduceSub, Nat.reduceLT, Nat.reduceEqDiff, Nat.reduceLeDiff, Nat.reduceBEq, reduceCtorEq, Int.reduceToNat, ↓reduceIte, rfP, rvP, rhP, frP])
  repeat' (first
    | (refine br_go (fun e f => ?_) (fun e f => ?_) <;> (try simp only [BB] at f) <;> (try simp only [numOk, verOk] at f) <;> (try simp (maxSteps := 1000000) (disch := first | omega | (simp only [LN, numOk, verOk, rfP, rvP, rhP, frP] <;> omega) | exact Ck.mk rfl) only [e, VC, T, Nat.reduceMul, Nat.reduceAdd, Nat.reduceSub, Nat.reduceLT, Nat.reduceEqDiff, Nat.reduceLeDiff, Nat.reduceBEq, reduceCtorEq, Int.reduceToNat, ↓reduceIte, rfP, rvP, rhP, frP]) <;> (try clear e))
    | (refine pick_go (fun e f => ?_) (fun e f => ?_) <;> (try simp only [BB] at f) <;> (try simp only [numOk, verOk] at f) <;> (try simp (maxSteps := 1000000) (disch := first | omega | (simp only [LN, numOk, verOk, rfP, rvP, rhP, frP] <;> omega) | exact Ck.mk rfl) only [e, VC, T, Nat.reduceMul, Nat.reduceAdd, Nat.reduceSub, Nat.reduceLT, Nat.reduceEqDiff, Nat.reduceLeDiff, Nat.reduceBEq, reduceCtorEq, Int.reduceToNat, ↓reduceIte, rfP, rvP, rhP, frP]) <;> (try clear e))
    | ((first | (refine call_h [] [] (laws_toNodeS_R ns (by omega)) (by decide) rfl rfl ?_; rintro _ _ ⟨rfl, rfl⟩) | (refine call_h [] [] (laws_toEntryS_R es (by omega)) (by decide) rfl rfl ?_; rintro _ _ ⟨rfl, rfl⟩) | (refine call_h [] [] (laws_toEntryS_R os (by omega)) (by decide) rfl rfl ?_; rintro _ _ ⟨rfl, rfl⟩) | (refine call_h [] [] (laws_toStr_R ss (by omega)) (by decide) rfl rfl ?_; rintro _ _ ⟨rfl, rfl⟩)); (try simp (maxSteps := 1000000) (disch := first | omega | (simp only [LN, numOk, verOk, rfP, rvP, rhP, frP] <;> omega) | exact Ck.mk rfl) only [VC, T, Nat.reduceMul, Nat.reduceAdd, Nat.reduceSub, Nat.reduceLT, Nat.reduceEqDiff, Nat.reduceLeDiff, Nat.reduceBEq, reduceCtorEq, Int.reduceToNat, ↓reduceIte, rfP, rvP, rhP, frP])))
  exact fin_t [some 448, some 704, some 960, some 1216] (⟨rfl, rfl⟩) rfl (by simp [RV, RV2, RVl, RV1, tau, tget, hget, data1, oneOf, dkR, dkH]) (by simp [RH, RVl, RV1, tau, hget, data1, dkR, dkH]) (by simp [Taus, hget, dkR, dkH])
theorem laws_toDisk (d : Dk) (h : DkOk d) : Fn Tryd.prog 6 [dkP d] [] (dkP d) [] := by
  obtain ⟨_, _, ⟨rfl, rfl⟩, k⟩ := laws_toDisk_R d h
  refine k.far ?_
  simp [fz, fz2, fz1, cvtl, elems, dkR, dkH, dkP, hget, data1]
theorem laws_eqDisk (x y : Dk) (hx : DkOk x) : Fn Tryd.prog 8 [dkP x, dkP y] [] (.bool (decide (x = y))) [] := by
  obtain ⟨ns, es, os, ss, r, n⟩ := x
  obtain ⟨ns', es', os', ss', r', n'⟩ := y
  have h1 := hx.ns
  have h2 := hx.es
  have h3 := hx.os
  have h4 := hx.ss
  simp only at h1 h2 h3 h4
  unfold dkP
  refine fn_x tok (n := 39) (rs := [.tmp 4]) Tryd.func8 (by decide) rfl rfl rfl rfl ?_
  (try simp (maxSteps := 1000000) (disch := first | omega | (simp only [LN, numOk, verOk, rfP, rvP, rhP, frP] <;> omega) | exact Ck.mk rfl) only [VC, T, Nat.reduceMul, Nat.reduceAdd, Nat.reduceSub, Nat.reduceLT, Nat.reduceEqDiff, Nat.reduceLeDiff, Nat.reduceBEq, reduceCtorEq, Int.reduceToNat, ↓reduceIte, rfP, rvP, rhP, frP])
  repeat' (first
    | (refine br_go (fun e f => ?_) (fun e f => ?_) <;> (try simp only [BB] at f) <;> (try simp only [numOk, verOk] at f) <;> (try simp (maxSteps := 1000000) (disch := first | omega | (simp only [LN, numOk, verOk, rfP, rvP, rhP, frP] <;> omega) | exact Ck.mk rfl) only [e, VC, T, Nat.reduceMul, Nat.reduceAdd, Nat.reduceSub, Nat.reduceLT, Nat.reduceEqDiff, Nat.reduceLeDiff, Nat.reduceBEq, reduceCtorEq, Int.reduceToNat, ↓reduceIte, rfP, rvP, rhP, frP]) <;> (try clear e))
    | (refine pick_go (fun e f => ?_) (fun e f => ?_) <;> (try simp only [BB] at f) <;> (try simp only [numOk, verOk] at f) <;> (try simp (maxSteps := 1000000) (disch := first | omega | (simp only [LN, numOk, verOk, rfP, rvP, rhP, frP] <;> omega) | exact Ck.mk rfl) only [e, VC, T, Nat.reduceMul, Nat.reduceAdd, Nat.reduceSub, Nat.reduceLT, Nat.reduceEqDiff, Nat.reduceLeDiff, Nat.reduceBEq, reduceCtorEq, Int.reduceToNat, ↓reduceIte, rfP, rvP, rhP, frP]) <;> (try clear e))
    | ((first | refine call_x (laws_eqNodeS ns ns' (by omega)) rfl ⟨rfl⟩ ?_ | refine call_x (laws_eqEntryS es es' (by omega)) rfl ⟨rfl⟩ ?_ | refine call_x (laws_eqEntryS os os' (by omega)) rfl ⟨rfl⟩ ?_ | refine call_x (laws_eqStr ss ss' (by omega)) rfl ⟨rfl⟩ ?_); (try simp (maxSteps := 1000000) (disch := first | omega | (simp only [LN, numOk, verOk, rfP, rvP, rhP, frP] <;> omega) | exact Ck.mk rfl) only [VC, T, Nat.reduceMul, Nat.reduceAdd, Nat.reduceSub, Nat.reduceLT, Nat.reduceEqDiff, Nat.reduceLeDiff, Nat.reduceBEq, reduceCtorEq, Int.reduceToNat, ↓reduceIte, rfP, rvP, rhP, frP])))
  all_goals simp_all
theorem laws_szDisk (d : Dk) (n : Int) (hn : 0 ≤ n ∧ n ≤ 1048576) (h1 : d.1.length ≤ 9223372036854775807) (h2 : d.2.1.length ≤ 9223372036854775807) (h3 : d.2.2.1.length ≤ 9223372036854775807) (h4 : d.2.2.2.1.length ≤ 9223372036854775807)
    (k1 : ∀ x ∈ d.1, x.2.1.size ≤ 9223372036854775807) (k2 : ∀ x ∈ d.2.1, x.1.size ≤ 9223372036854775807) (k3 : ∀ x ∈ d.2.2.1, x.1.size ≤ 9223372036854775807) (k4 : ∀ x ∈ d.2.2.2.1, x.size ≤ 9223372036854775807) :
    FnV Tryd.prog 4 [dkP d, .int .i64 n] (fun r => ∃ m : Int, r = .int .i64 m ∧ (0 ≤ m → DkOk d) ∧ -1 ≤ m ∧ m ≤ n) := by
  obtain ⟨ns, es, os, ss, r, x⟩ := d
  simp only at h1 h2 h3 h4 k1 k2 k3 k4
  unfold dkP
  have p1 := sumF_pos ndZ ndZ_pos ns
  have p2 := sumF_pos enZ enZ_pos es
  have p3 := sumF_pos enZ enZ_pos os
  have p4 := sumSz_pos ss
  refine fn_v tok (n := 30) (rs := [.tmp 4]) Tryd.func4 (by decide) rfl rfl rfl rfl ?_
  (try simp (maxSteps := 1000000) (disch := first | omega | (simp only [LN, numOk, verOk, rfP, rvP, rhP, frP] <;> omega) | exact Ck.mk rfl) only [VC, T, Nat.reduceMul, Nat.reduceAdd, Nat.reduceSub, Nat.reduceLT, Nat.reduceEqDiff, Nat.reduceLeDiff, Nat.reduceBEq, reduceCtorEq, Int.reduceToNat, ↓reduceIte, rfP, rvP, rhP, frP])
  repeat' (first
    | (refine br_go (fun e f => ?_) (fun e f => ?_) <;> (try simp only [BB] at f) <;> (try simp only [numOk, verOk] at f) <;> (try simp (maxSteps := 1000000) (disch := first | omega | (simp only [LN, numOk, verOk, rfP, rvP, rhP, frP] <;> omega) | exact Ck.mk rfl) only [e, VC, T, Nat.reduceMul, Nat.reduceAdd, Nat.reduceSub, Nat.reduceLT, Nat.reduceEqDiff, Nat.reduceLeDiff, Nat.reduceBEq, reduceCtorEq, Int.reduceToNat, ↓reduceIte, rfP, rvP, rhP, frP]) <;> (try clear e))
    | (refine pick_go (fun e f => ?_) (fun e f => ?_) <;> (try simp only [BB] at f) <;> (try simp only [numOk, verOk] at f) <;> (try simp (maxSteps := 1000000) (disch := first | omega | (simp only [LN, numOk, verOk, rfP, rvP, rhP, frP] <;> omega) | exact Ck.mk rfl) only [e, VC, T, Nat.reduceMul, Nat.reduceAdd, Nat.reduceSub, Nat.reduceLT, Nat.reduceEqDiff, Nat.reduceLeDiff, Nat.reduceBEq, reduceCtorEq, Int.reduceToNat, ↓reduceIte, rfP, rvP, rhP, frP]) <;> (try clear e)))
  refine call_v (laws_szNodeS ns n hn h1 k1) rfl ?_
  rintro _ ⟨m1, rfl, q1, q2, q3⟩
  refine ⟨⟨rfl⟩, ?_⟩
  (try simp (maxSteps := 1000000) (disch := first | omega | (simp only [LN, numOk, verOk, rfP, rvP, rhP, frP] <;> omega) | exact Ck.mk rfl) only [VC, T, Nat.reduceMul, Nat.reduceAdd, Nat.reduceSub, Nat.reduceLT, Nat.reduceEqDiff, Nat.reduceLeDiff, Nat.reduceBEq, reduceCtorEq, Int.reduceToNat, ↓reduceIte, rfP, rvP, rhP, frP])
  repeat' (first
    | (refine br_go (fun e f => ?_) (fun e f => ?_) <;> (try simp only [BB] at f) <;> (try simp only [numOk, verOk] at f) <;> (try simp (maxSteps := 1000000) (disch := first | omega | (simp only [LN, numOk, verOk, rfP, rvP, rhP, frP] <;> omega) | exact Ck.mk rfl) only [e, VC, T, Nat.reduceMul, Nat.reduceAdd, Nat.reduceSub, Nat.reduceLT, Nat.reduceEqDiff, Nat.reduceLeDiff, Nat.reduceBEq, reduceCtorEq, Int.reduceToNat, ↓reduceIte, rfP, rvP, rhP, frP]) <;> (try clear e))
    | (refine pick_go (fun e f => ?_) (fun e f => ?_) <;> (try simp only [BB] at f) <;> (try simp only [numOk, verOk] at f) <;> (try simp (maxSteps := 1000000) (disch := first | omega | (simp only [LN, numOk, verOk, rfP, rvP, rhP, frP] <;> omega) | exact Ck.mk rfl) only [e, VC, T, Nat.reduceMul, Nat.reduceAdd, Nat.reduceSub, Nat.reduceLT, Nat.reduceEqDiff, Nat.reduceLeDiff, Nat.reduceBEq, reduceCtorEq, Int.reduceToNat, ↓reduceIte, rfP, rvP, rhP, frP]) <;> (try clear e)))
  · exact ⟨-1, rfl, fun h => by omega, by omega, by omega⟩
  · refine call_v (laws_szEntryS es m1 (by omega) h2 k2) rfl ?_
    rintro _ ⟨m2, rfl, q4, q5, q6⟩
    refine ⟨⟨rfl⟩, ?_⟩
    (try simp (maxSteps := 1000000) (disch := first | omega | (simp only [LN, numOk, verOk, rfP, rvP, rhP, frP] <;> omega) | exact Ck.mk rfl) only [VC, T, Nat.reduceMul, Nat.reduceAdd, Nat.reduceSub, Nat.reduceLT, Nat.reduceEqDiff, Nat.reduceLeDiff, Nat.reduceBEq, reduceCtorEq, Int.reduceToNat, ↓reduceIte, rfP, rvP, rhP, frP])
    repeat' (first
      | (refine br_go (fun e f => ?_) (fun e f => ?_) <;> (try simp only [BB] at f) <;> (try simp only [numOk, verOk] at f) <;> (try simp (maxSteps := 1000000) (disch := first | omega | (simp only [LN, numOk, verOk, rfP, rvP, rhP, frP] <;> omega) | exact Ck.mk rfl) only [e, VC, T, Nat.reduceMul, Nat.reduceAdd, Nat.reduceSub, Nat.reduceLT, Nat.reduceEqDiff, Nat.reduceLeDiff, Nat.reduceBEq, reduceCtorEq, Int.reduceToNat, ↓reduceIte, rfP, rvP, rhP, frP]) <;> (try clear e))
      | (refine pick_go (fun e f => ?_) (fun e f => ?_) <;> (try simp only [BB] at f) <;> (try simp only [numOk, verOk] at f) <;> (try simp (maxSteps := 1000000) (disch := first | omega | (simp only [LN, numOk, verOk, rfP, rvP, rhP, frP] <;> omega) | exact Ck.mk rfl) only [e, VC, T, Nat.reduceMul, Nat.reduceAdd, Nat.reduceSub, Nat.reduceLT, Nat.reduceEqDiff, Nat.reduceLeDiff, Nat.reduceBEq, reduceCtorEq, Int.reduceToNat, ↓reduceIte, rfP, rvP, rhP, frP]) <;> (try clear e)))
    · exact ⟨-1, rfl, fun h => by omega, by omega, by omega⟩
    · refine call_v (laws_szEntryS os m2 (by omega) h3 k3) rfl ?_
      rintro _ ⟨m3, rfl, q7, q8, q9⟩
      refine ⟨⟨rfl⟩, ?_⟩
      (try simp (maxSteps := 1000000) (disch := first | omega | (simp only [LN, numOk, verOk, rfP, rvP, rhP, frP] <;> omega) | exact Ck.mk rfl) only [VC, T, Nat.reduceMul, Nat.reduceAdd, Nat.reduceSub, Nat.reduceLT, Nat.reduceEqDiff, Nat.reduceLeDiff, Nat.reduceBEq, reduceCtorEq, Int.reduceToNat, ↓reduceIte, rfP, rvP, rhP, frP])
      repeat' (first
        | (refine br_go (fun e f => ?_) (fun e f => ?_) <;> (try simp only [BB] at f) <;> (try simp only [numOk, verOk] at f) <;> (try simp (maxSteps := 1000000) (disch := first | omega | (simp only [LN, numOk, verOk, rfP, rvP, rhP, frP] <;> omega) | exact Ck.mk rfl) only [e, VC, T, Nat.reduceMul, Nat.reduceAdd, Nat.reduceSub, Nat.reduceLT, Nat.reduceEqDiff, Nat.reduceLeDiff, Nat.reduceBEq, reduceCtorEq, Int.reduceToNat, ↓reduceIte, rfP, rvP, rhP, frP]) <;> (try clear e))
        | (refine pick_go (fun e f => ?_) (fun e f => ?_) <;> (try simp only [BB] at f) <;> (try simp only [numOk, verOk] at f) <;> (try simp (maxSteps := 1000000) (disch := first | omega | (simp only [LN, numOk, verOk, rfP, rvP, rhP, frP] <;> omega) | exact Ck.mk rfl) only [e, VC, T, Nat.reduceMul, Nat.reduceAdd, Nat.reduceSub, Nat.reduceLT, Nat.reduceEqDiff, Nat.reduceLeDiff, Nat.reduceBEq, reduceCtorEq, Int.reduceToNat, ↓reduceIte, rfP, rvP, rhP, frP]) <;> (try clear e)))
      · exact ⟨-1, rfl, fun h => by omega, by omega, by omega⟩
      · refine call_v (laws_szStringS ss m3 (by omega) h4 k4) rfl ?_
        rintro _ ⟨m4, rfl, q10, q11, q12⟩
        refine ⟨⟨rfl⟩, ?_⟩
        (try simp (maxSteps := 1000000) (disch := first | omega | (simp only [LN, numOk, verOk, rfP, rvP, rhP, frP] <;> omega) | exact Ck.mk rfl) only [VC, T, Nat.reduceMul, Nat.reduceAdd, Nat.reduceSub, Nat.reduceLT, Nat.reduceEqDiff, Nat.reduceLeDiff, Nat.reduceBEq, reduceCtorEq, Int.reduceToNat, ↓reduceIte, rfP, rvP, rhP, frP])
        repeat' (first
          | (refine br_go (fun e f => ?_) (fun e f => ?_) <;> (try simp only [BB] at f) <;> (try simp only [numOk, verOk] at f) <;> (try simp (maxSteps := 1000000) (disch := first | omega | (simp only [LN, numOk, verOk, rfP, rvP, rhP, frP] <;> omega) | exact Ck.mk rfl) only [e, VC, T, Nat.reduceMul, Nat.reduceAdd, Nat.reduceSub, Nat.reduceLT, Nat.reduceEqDiff, Nat.reduceLeDiff, Nat.reduceBEq, reduceCtorEq, Int.reduceToNat, ↓reduceIte, rfP, rvP, rhP, frP]) <;> (try clear e))
          | (refine pick_go (fun e f => ?_) (fun e f => ?_) <;> (try simp only [BB] at f) <;> (try simp only [numOk, verOk] at f) <;> (try simp (maxSteps := 1000000) (disch := first | omega | (simp only [LN, numOk, verOk, rfP, rvP, rhP, frP] <;> omega) | exact Ck.mk rfl) only [e, VC, T, Nat.reduceMul, Nat.reduceAdd, Nat.reduceSub, Nat.reduceLT, Nat.reduceEqDiff, Nat.reduceLeDiff, Nat.reduceBEq, reduceCtorEq, Int.reduceToNat, ↓reduceIte, rfP, rvP, rhP, frP]) <;> (try clear e)))
        · exact ⟨-1, rfl, fun h => by omega, by omega, by omega⟩
        · refine ⟨m4, rfl, fun h => ?_, by omega, by omega⟩
          have e1 := q1 (by omega)
          have e2 := q4 (by omega)
          have e3 := q7 (by omega)
          have e4 := q10 h
          refine ⟨by simp only; omega, by simp only; omega, by simp only; omega, by simp only; omega, fun y hy => ?_, fun y hy => ?_, fun y hy => ?_, fun y hy => ?_⟩
          · have : (y.2.1.size : Int) ≤ sumF ndZ ns := sumF_mem ndZ ndZ_pos hy
            omega
          · have : (y.1.size : Int) ≤ sumF enZ es := sumF_mem enZ enZ_pos hy
            omega
          · have : (y.1.size : Int) ≤ sumF enZ os := sumF_mem enZ enZ_pos hy
            omega
          · have : (y.size : Int) ≤ sumSz ss := sumSz_mem hy
            omega
end Go.Pv

/- What functions of the program and of the reference do, in plain values. -/
namespace Go.Pv
open Go.Proofs Go.Mth
set_option linter.unusedSimpArgs false
set_option linter.unusedVariables false
set_option maxHeartbeats 4000000

/-! ### laws of disks -/
def DkIn (d : Dk) : Prop := (d.1.length ≤ 9223372036854775807 ∧ ∀ a ∈ d.1, i64 a.1 ∧ a.2.1.size ≤ 9223372036854775807 ∧ i64 a.2.2) ∧ (d.2.1.length ≤ 9223372036854775807 ∧ ∀ a ∈ d.2.1, a.1.size ≤ 9223372036854775807 ∧ i64 a.2) ∧ (d.2.2.1.length ≤ 9223372036854775807 ∧ ∀ a ∈ d.2.2.1, a.1.size ≤ 9223372036854775807 ∧ i64 a.2) ∧
  (d.2.2.2.1.length ≤ 9223372036854775807 ∧ ∀ a ∈ d.2.2.2.1, a.size ≤ 9223372036854775807) ∧ i64 d.2.2.2.2.1 ∧ i64 d.2.2.2.2.2
theorem sz_disk (d : Dk) (h : DkIn d) : FnV Tryd.prog 4 [dkP d, .int .i64 1048576] (fun r => ∃ m : Int, r = .int .i64 m ∧ (0 ≤ m → DkOk d) ∧ -1 ≤ m ∧ m ≤ 1048576) :=
  laws_szDisk d 1048576 (by decide) h.1.1 h.2.1.1 h.2.2.1.1 h.2.2.2.1.1 (fun x hx => (h.1.2 x hx).2.1) (fun x hx => (h.2.1.2 x hx).1) (fun x hx => (h.2.2.1.2 x hx).1) (fun x hx => h.2.2.2.1.2 x hx)
theorem law_FnExactTextAt (d : Dk) (b : Int) (h : DkIn d) (hb : i64 b) : Fn Tryd.prog 3 [dkP d, .int .i64 b] [] (.bool true) [] := by
  have hz := sz_disk d h
  have hD := fun hd => laws_toDisk d hd
  have hS := fun hd => spec_TextAt d b hd hb
  have hI := fun hd => impl_TextAt d b hd hb
  have hE := fun hd => laws_eqDisk d d hd
  unfold dkP at *
  refine fn_x tok (n := 31) (rs := [.tmp 4]) Tryd.func3 (by decide) rfl rfl rfl rfl ?_
  (try simp (maxSteps := 1000000) (disch := first | omega | (simp only [LN, numOk, verOk, dkP, dkR, dkH, beq_self_eq_true, bkd] <;> omega) | exact Ck.mk rfl) only [VC, T, Nat.reduceMul, Nat.reduceAdd, Nat.reduceSub, Nat.reduceLT, Nat.reduceEqDiff, Nat.reduceLeDiff, Nat.reduceBEq, reduceCtorEq, Int.reduceToNat, ↓reduceIte, dkP, dkR, dkH, beq_self_eq_true, bkd])
  repeat' (first
    | (refine br_go (fun e f => ?_) (fun e f => ?_) <;> (try simp only [BB] at f) <;> (try simp only [numOk, verOk] at f) <;> (try simp (maxSteps := 1000000) (disch := first | omega | (simp only [LN, numOk, verOk, dkP, dkR, dkH, beq_self_eq_true, bkd] <;> omega) | exact Ck.mk rfl) only [e, VC, T, Nat.reduceMul, Nat.reduceAdd, Nat.reduceSub, Nat.reduceLT, Nat.reduceEqDiff, Nat.reduceLeDiff, Nat.reduceBEq, reduceCtorEq, Int.reduceToNat, ↓reduceIte, dkP, dkR, dkH, beq_self_eq_true, bkd]) <;> (try clear e))
    | (refine pick_go (fun e f => ?_) (fun e f => ?_) <;> (try simp only [BB] at f) <;> (try simp only [numOk, verOk] at f) <;> (try simp (maxSteps := 1000000) (disch := first | omega | (simp only [LN, numOk, verOk, dkP, dkR, dkH, beq_self_eq_true, bkd] <;> omega) | exact Ck.mk rfl) only [e, VC, T, Nat.reduceMul, Nat.reduceAdd, Nat.reduceSub, Nat.reduceLT, Nat.reduceEqDiff, Nat.reduceLeDiff, Nat.reduceBEq, reduceCtorEq, Int.reduceToNat, ↓reduceIte, dkP, dkR, dkH, beq_self_eq_true, bkd]) <;> (try clear e))
    | ((first | (refine call_v hz rfl ?_; rintro _ ⟨m, rfl, hm1, hm2, hm3⟩; refine ⟨⟨rfl⟩, ?_⟩)); (try simp (maxSteps := 1000000) (disch := first | omega | (simp only [LN, numOk, verOk, dkP, dkR, dkH, beq_self_eq_true, bkd] <;> omega) | exact Ck.mk rfl) only [VC, T, Nat.reduceMul, Nat.reduceAdd, Nat.reduceSub, Nat.reduceLT, Nat.reduceEqDiff, Nat.reduceLeDiff, Nat.reduceBEq, reduceCtorEq, Int.reduceToNat, ↓reduceIte, dkP, dkR, dkH, beq_self_eq_true, bkd])))
  have hd := hm1 (by omega)
  (try simp (maxSteps := 1000000) (disch := first | omega | (simp only [LN, numOk, verOk, dkP, dkR, dkH, beq_self_eq_true, bkd] <;> omega) | exact Ck.mk rfl) only [VC, T, Nat.reduceMul, Nat.reduceAdd, Nat.reduceSub, Nat.reduceLT, Nat.reduceEqDiff, Nat.reduceLeDiff, Nat.reduceBEq, reduceCtorEq, Int.reduceToNat, ↓reduceIte, dkP, dkR, dkH, beq_self_eq_true, bkd])
  repeat' (first
    | (refine br_go (fun e f => ?_) (fun e f => ?_) <;> (try simp only [BB] at f) <;> (try simp only [numOk, verOk] at f) <;> (try simp (maxSteps := 1000000) (disch := first | omega | (simp only [LN, numOk, verOk, dkP, dkR, dkH, beq_self_eq_true, bkd] <;> omega) | exact Ck.mk rfl) only [e, VC, T, Nat.reduceMul, Nat.reduceAdd, Nat.reduceSub, Nat.reduceLT, Nat.reduceEqDiff, Nat.reduceLeDiff, Nat.reduceBEq, reduceCtorEq, Int.reduceToNat, ↓reduceIte, dkP, dkR, dkH, beq_self_eq_true, bkd]) <;> (try clear e))
    | (refine pick_go (fun e f => ?_) (fun e f => ?_) <;> (try simp only [BB] at f) <;> (try simp only [numOk, verOk] at f) <;> (try simp (maxSteps := 1000000) (disch := first | omega | (simp only [LN, numOk, verOk, dkP, dkR, dkH, beq_self_eq_true, bkd] <;> omega) | exact Ck.mk rfl) only [e, VC, T, Nat.reduceMul, Nat.reduceAdd, Nat.reduceSub, Nat.reduceLT, Nat.reduceEqDiff, Nat.reduceLeDiff, Nat.reduceBEq, reduceCtorEq, Int.reduceToNat, ↓reduceIte, dkP, dkR, dkH, beq_self_eq_true, bkd]) <;> (try clear e))
    | ((first | refine dr_go mixed (id := 10) [([], [7], []), ([], [2], []), ([1], [27], []), ([0, 1, 2], [26, 28], []), ([0, 1, 2, 3], [29], [])] rfl rfl rfl ?_ | refine call_x (hD hd) rfl ⟨rfl⟩ ?_ | refine call_x (hS hd) rfl ⟨rfl⟩ ?_ | refine call_x (hI hd) rfl ⟨rfl⟩ ?_ | refine call_x (hE hd) rfl ⟨rfl⟩ ?_); (try simp (maxSteps := 1000000) (disch := first | omega | (simp only [LN, numOk, verOk, dkP, dkR, dkH, beq_self_eq_true, bkd] <;> omega) | exact Ck.mk rfl) only [VC, T, Nat.reduceMul, Nat.reduceAdd, Nat.reduceSub, Nat.reduceLT, Nat.reduceEqDiff, Nat.reduceLeDiff, Nat.reduceBEq, reduceCtorEq, Int.reduceToNat, ↓reduceIte, dkP, dkR, dkH, beq_self_eq_true, bkd])))
end Go.Pv

/- What a law's contract in plain values says of its walk. -/
namespace Go.Pv

variable {P : Program}
theorem kp_below {Γ : Nat → Value} {w w' : World} (h : Kp (Ow Γ []) w w') : Go.RowKit.Below w.heap.size w w' :=
  ⟨h.os, h.tape, h.output, h.size, fun k hk => h.block k hk fun ⟨_, l, _⟩ => l.elim⟩
/-- Nothing is handed over. -/
def No : Bl := fun _ => False
def Ga : Nat → Value := fun _ => .bool false
/-- The arguments of a law. -/
def Lay (w : World) (args : List PV) (vs : List Value) : Prop := vs.length = args.length ∧ ∀ (i : Nat) (x : PV) (v : Value), args[i]? = some x → vs[i]? = some v → DR w No x v
theorem lay_nil {w : World} : Lay w [] [] := ⟨rfl, fun _ _ _ h => by simp at h⟩
theorem lay_cons {w : World} {x : PV} {v : Value} {xs : List PV} {vs : List Value} (h : DR w No x v) (k : Lay w xs vs) : Lay w (x :: xs) (v :: vs) :=
  ⟨congrArg (· + 1) k.1, fun i y u h1 h2 => by
    cases i with
    | zero => simp at h1 h2; obtain rfl := h1; obtain rfl := h2; exact h
    | succ i => exact k.2 i y u (by simpa using h1) (by simpa using h2)⟩
theorem Fn.law {f : FuncId} {args : List PV} {vs : List Value} {w : World} {b : Bool} (h : Fn P f args [] (.bool b) []) (hg : Glo w No No) (hl : Lay w args vs) :
    Calls P f vs.toArray w fun e w' => e = .returned (.bool b) ∧ Go.RowKit.Below w.heap.size w w' := by
  have no : ∀ b, ¬ Av No Ga [] b := fun b hb => hb.elim id fun ⟨_, l, _⟩ => l
  refine (h.run w No Ga vs.toArray ⟨fun _ h => h.elim, fun g cs e => ⟨(hg g cs e).1, fun ⟨_, l, _⟩ => l, (hg g cs e).2.2⟩⟩ (by simpa using hl.1) (fun i x hx => ?_) (fun _ => trivial) fun _ _ _ l => l.elim).mono ?_
  · have hi : i < vs.length := by
      rw [hl.1]
      exact (List.getElem?_eq_some_iff.1 hx).1
    have e := hl.2 i x vs[i] hx (List.getElem?_eq_getElem hi)
    have g : vs.toArray.getD i undef = vs[i] := by simp [Array.getD, hi]
    rw [g]
    exact .data (e.step (fun _ _ _ => rfl) fun b _ hb => (no b hb).elim)
  · rintro e w' ⟨v, Γ', rfl, h1, h2, _⟩
    refine ⟨?_, kp_below h1⟩
    cases h2 with
    | data h => cases h; rfl
end Go.Pv

/- A law's arguments, opened: whole numbers, texts, slices and structs of them. -/
namespace Go.Pv
open Go.RowKit Go.WideShapes

section
variable {H : Type} {enc : TypeId × Value → H} {P : Program} {w : World} {α β : Type}

/-- What is read at type t, out of k cells, is 'f a', for an a of which R holds. -/
def Opn (enc : TypeId × Value → H) (P : Program) (w : World) (t : TypeId) (k : Nat) (f : α → PV) (R : α → Prop) : Prop :=
  ∀ (fuel : Nat) (cs : List Value) (d : DataW H × List MemPlace), DataW.trod enc P w 0 (fun _ => true) true fuel t cs = some d →
    cs.length = k ∧ ∃ a, R a ∧ (flat (f a)).length = k ∧ ∀ (j : Nat) (y : PV), (flat (f a))[j]? = some y → DR w No y (cs.getD j undef)
theorem one_dr {x : PV} {v : Value} (hx : flat x = [x]) (h : DR w No x v) : (flat x).length = 1 ∧ ∀ (j : Nat) (y : PV), (flat x)[j]? = some y → DR w No y ([v].getD j undef) := by
  rw [hx]
  refine ⟨rfl, fun j y hy => ?_⟩
  cases j with
  | zero => cases hy; exact h
  | succ j => simp at hy
theorem opn_int {t : TypeId} {k : IntKind} (ht : P.underlying t = some (.int k)) : Opn enc P w t 1 (PV.int k) (fun n => (Lit.int k n).wf = true) := fun fuel cs d h => by
  obtain ⟨n, rfl, _, hw⟩ := DataW.trod_int ht h
  exact ⟨rfl, n, hw, one_dr rfl (.int k n)⟩
theorem int_wf {n : Int} (h : (Lit.int .i64 n).wf = true) : -9223372036854775808 ≤ n ∧ n ≤ 9223372036854775807 := by
  simp only [Lit.wf, Bool.and_eq_true, decide_eq_true_eq] at h
  exact h
theorem opn_i64 {t : TypeId} (ht : P.underlying t = some (.int .i64)) : Opn enc P w t 1 (PV.int .i64) (fun n => -9223372036854775808 ≤ n ∧ n ≤ 9223372036854775807) := fun fuel cs d h => by
  obtain ⟨h1, a, h2, h3⟩ := opn_int ht fuel cs d h
  exact ⟨h1, a, int_wf h2, h3⟩
theorem opn_bool {t : TypeId} (ht : P.underlying t = some .bool) : Opn enc P w t 1 PV.bool (fun _ => True) := fun fuel cs d h => by
  obtain ⟨n, rfl, _⟩ := DataW.trod_bool ht h
  exact ⟨rfl, n, trivial, one_dr rfl (.bool n)⟩
theorem opn_str {t : TypeId} (ht : P.underlying t = some .string) : Opn enc P w t 1 PV.str (fun s => s.size ≤ 9223372036854775807) := fun fuel cs d h => by
  obtain ⟨s, rfl, _, hs⟩ := DataW.trod_string ht h
  exact ⟨rfl, s, hs, one_dr rfl (.str s)⟩
theorem all_list {Q : Nat → α → Prop} : ∀ (n : Nat), (∀ i, i < n → ∃ a, Q i a) → ∃ l : List α, l.length = n ∧ ∀ i a, l[i]? = some a → Q i a
  | 0, _ => ⟨[], rfl, fun i a h => by simp at h⟩
  | n + 1, h => by
    obtain ⟨l, h1, h2⟩ := all_list n fun i hi => h i (by omega)
    obtain ⟨a, ha⟩ := h n (by omega)
    refine ⟨l ++ [a], by simp [h1], fun i x hx => ?_⟩
    by_cases hi : i < l.length
    · rw [List.getElem?_append_left hi] at hx; exact h2 i x hx
    · rw [List.getElem?_append_right (by omega)] at hx
      by_cases e : i = l.length
      · subst e; rw [Nat.sub_self] at hx; cases hx; rw [h1]; exact ha
      · rw [show i - l.length = (i - l.length - 1) + 1 by omega] at hx; simp at hx
theorem opn_slice {t e : TypeId} {k : Nat} {f : α → PV} {R : α → Prop} (ht : P.underlying t = some (.slice e)) (hk : P.cellsOf e = k) (h0 : 0 < k) (he : Opn enc P w e k f R) :
    Opn enc P w t 1 (fun l : List α => .far (l.map f)) (fun l => l.length ≤ 9223372036854775807 ∧ ∀ a ∈ l, R a) := fun fuel cs d h => by
  rcases DataW.trod_slice ht h with ⟨rfl, _⟩ | ⟨a, len, cap, elems, rest, n, _, rfl, _, _, hl, hm, hlen, hel, _, _⟩
  · exact ⟨rfl, [], ⟨by simp, by simp⟩, one_dr rfl (.far0 _ _)⟩
  · refine ⟨rfl, ?_⟩
    rw [hk] at hel
    have each : ∀ i, i < len → ∃ x, R x ∧ (flat (f x)).length = k ∧ ∀ (j : Nat) (y : PV), (flat (f x))[j]? = some y → ∃ v, w.cell? ((a.add (i * k)).add j) = some v ∧ DR w No y v := fun i hi => by
      have h1 := hel i hi
      rw [List.getElem?_eq_getElem (by omega), Option.bind_eq_some_iff] at h1
      obtain ⟨cs, h2, h3⟩ := h1
      obtain ⟨h4, x, h5, h6, h7⟩ := he _ _ _ h3
      refine ⟨x, h5, h6, fun j y hy => ?_⟩
      have hj : j < k := by rw [← h6]; exact (List.getElem?_eq_some_iff.1 hy).1
      unfold World.cells? at h2
      rw [if_pos (Nat.zero_le _)] at h2
      have h8 := mapM_some_get h2 j j (by simp [hj])
      rw [List.getElem?_eq_getElem (by omega)] at h8
      refine ⟨_, h8, ?_⟩
      have := h7 j y hy
      rw [List.getD_eq_getElem?_getD, List.getElem?_eq_getElem (by omega)] at this
      exact this
    obtain ⟨l, h1, h2⟩ := all_list len each
    refine ⟨l, ⟨by rw [h1]; exact Nat.le_trans hl hm, fun x hx => ?_⟩, one_dr rfl ?_⟩
    · obtain ⟨i, hi⟩ := List.getElem?_of_mem hx
      exact (h2 i x hi).1
    · by_cases hz : len = 0
      · obtain rfl : l = [] := List.eq_nil_of_length_eq_zero (by omega)
        subst hz
        exact .far0 _ _
      · obtain ⟨β, o, spot⟩ := a
        have cell : ∀ (i : Nat) (x : α) (j : Nat) (y : PV), l[i]? = some x → (flat (f x))[j]? = some y → ∃ v, w.cell? ⟨β, o + i * k + j, if i * k = 0 ∧ j = 0 then spot else none⟩ = some v ∧ DR w No y v := fun i x j y hx hy => by
          obtain ⟨v, q1, q2⟩ := (h2 i x hx).2.2 j y hy
          refine ⟨v, ?_, q2⟩
          rw [← q1]
          unfold Addr.add
          by_cases e1 : i * k = 0 <;> by_cases e2 : j = 0 <;> simp [e1, e2]
        obtain ⟨x0, hx0⟩ : ∃ x, l[0]? = some x := ⟨l[0]'(by omega), List.getElem?_eq_getElem (by omega)⟩
        have hfl := (h2 0 x0 hx0).2.1
        obtain ⟨v, q1, _⟩ := cell 0 x0 0 ((flat (f x0))[0]'(by omega)) hx0 (List.getElem?_eq_getElem (by omega))
        simp only [Nat.zero_mul, true_and, and_self, if_true] at q1
        obtain ⟨c, t', fr, hw, hs⟩ : ∃ c t' fr, w.heap[β]? = some (.cells c t' fr) ∧ spot = none := by
          unfold World.cell? at q1
          split at q1
          · rename_i c t' fr hw
            refine ⟨c, t', fr, hw, ?_⟩
            cases spot with
            | none => rfl
            | some s => simp at q1
          · cases q1
        subst hs
        simp only [ite_self] at cell
        have cc : ∀ (i : Nat) (x : α) (j : Nat) (y : PV), l[i]? = some x → (flat (f x))[j]? = some y → o + i * k + j < c.size ∧ DR w No y (c.getD (o + i * k + j) undef) := fun i x j y hx hy => by
          obtain ⟨v, q1, q2⟩ := cell i x j y hx hy
          unfold World.cell? at q1
          simp only [hw] at q1
          have q3 := (Array.getElem?_eq_some_iff.1 (by simpa using q1 : c[o + i * k + j]? = some v)).1
          refine ⟨q3, ?_⟩
          have q4 : c[o + i * k + j]? = some v := by simpa using q1
          rw [Array.getD_eq_getD_getElem?, q4]
          exact q2
        have pick : ∀ (i : Nat) (x : PV), (l.map f)[i]? = some x → ∃ a, l[i]? = some a ∧ x = f a := fun i x hx => by
          rw [List.getElem?_map, Option.map_eq_some_iff] at hx
          obtain ⟨a, ha, rfl⟩ := hx
          exact ⟨a, ha, rfl⟩
        have key := DR.far (w := w) (A := No) (l.map f) β o cap k c t' fr (fun h => h) hw (by simpa [h1] using hl)
          (fun i x hx => by obtain ⟨a, ha, rfl⟩ := pick i x hx; exact (h2 i a ha).2.1)
          (fun i x j y hx hy => by obtain ⟨a, ha, rfl⟩ := pick i x hx; exact (cc i a j y ha hy).1)
          (fun i x j y hx hy => by obtain ⟨a, ha, rfl⟩ := pick i x hx; exact (cc i a j y ha hy).2)
        rw [List.length_map, h1] at key
        exact key
/-- The fields of a struct, from cell 'off' on, each of one cell. -/
def OpnF (enc : TypeId × Value → H) (P : Program) (w : World) (fs : List Field) (off : Nat) (f : α → List PV) (R : α → Prop) : Prop :=
  ∀ (n : Nat) (cs : List Value), (∀ (i : Nat) (fl : Field), fs[i]? = some fl → ∃ d, DataW.trod enc P w 0 (fun _ => true) true n fl.type ((cs.drop fl.offset).take (P.cellsOf fl.type)) = some d) →
    ∃ a, R a ∧ (f a).length = fs.length ∧ ∀ (j : Nat) (y : PV), (f a)[j]? = some y → DR w No y (cs.getD (off + j) undef)
theorem opnf_fld {fl : Field} {off : Nat} {f1 : α → PV} {R1 : α → Prop} (hk : P.cellsOf fl.type = 1) (ho : fl.offset = off) (hf : ∀ a, flat (f1 a) = [f1 a]) (h1 : Opn enc P w fl.type 1 f1 R1) {n : Nat} {cs : List Value} {d : DataW H × List MemPlace}
    (h : DataW.trod enc P w 0 (fun _ => true) true n fl.type ((cs.drop fl.offset).take (P.cellsOf fl.type)) = some d) : ∃ a, R1 a ∧ DR w No (f1 a) (cs.getD off undef) := by
  rw [hk, ho] at h
  obtain ⟨e, a, q1, q2, q3⟩ := h1 _ _ _ h
  refine ⟨a, q1, ?_⟩
  rw [hf] at q3
  have q4 := q3 0 _ rfl
  have e2 : ((cs.drop off).take 1).getD 0 undef = cs.getD off undef := by
    rw [List.getD_eq_getElem?_getD, List.getD_eq_getElem?_getD, List.getElem?_take_of_lt (by decide), List.getElem?_drop, Nat.add_zero]
  rw [e2] at q4
  exact q4
theorem opnf_one {fl : Field} {off : Nat} {f1 : α → PV} {R1 : α → Prop} (hk : P.cellsOf fl.type = 1) (ho : fl.offset = off) (hf : ∀ a, flat (f1 a) = [f1 a]) (h1 : Opn enc P w fl.type 1 f1 R1) : OpnF enc P w [fl] off (fun a => [f1 a]) R1 := fun n cs h => by
  obtain ⟨d, hd⟩ := h 0 fl rfl
  obtain ⟨a, q1, q2⟩ := opnf_fld hk ho hf h1 hd
  refine ⟨a, q1, rfl, fun j y hy => ?_⟩
  cases j with
  | zero => cases hy; exact q2
  | succ j => simp at hy
theorem opnf_cons {fl : Field} {fs : List Field} {off : Nat} {f1 : α → PV} {R1 : α → Prop} {f2 : β → List PV} {R2 : β → Prop} (hk : P.cellsOf fl.type = 1) (ho : fl.offset = off) (hf : ∀ a, flat (f1 a) = [f1 a]) (h1 : Opn enc P w fl.type 1 f1 R1) (h2 : OpnF enc P w fs (off + 1) f2 R2) :
    OpnF enc P w (fl :: fs) off (fun p : α × β => f1 p.1 :: f2 p.2) (fun p => R1 p.1 ∧ R2 p.2) := fun n cs h => by
  obtain ⟨d, hd⟩ := h 0 fl rfl
  obtain ⟨a, q1, q2⟩ := opnf_fld hk ho hf h1 hd
  obtain ⟨b, q3, q4, q5⟩ := h2 n cs fun i g hg => h (i + 1) g (by simpa using hg)
  refine ⟨(a, b), ⟨q1, q3⟩, by simp [q4], fun j y hy => ?_⟩
  cases j with
  | zero => cases hy; exact q2
  | succ j =>
    have := q5 j y (by simpa using hy)
    rwa [show off + 1 + j = off + (j + 1) by omega] at this
theorem opn_struct {t : TypeId} {fs : Array Field} {fl : List Field} {n : Nat} {f : α → List PV} {R : α → Prop} (ht : P.underlying t = some (.struct fs)) (hfs : fs.toList = fl) (hc : P.cellsOf t = n) (hn : fl.length = n) (h : OpnF enc P w fl 0 f R) : Opn enc P w t n (fun a => .agg (f a)) R := fun fuel cs d hd => by
  obtain ⟨xs, m, _, _, h1, h2, h3⟩ := DataW.trod_struct ht hd
  subst hfs
  obtain ⟨a, q1, q2, q3⟩ := h m cs fun i g hg => by
    have hi : i < fs.size := by simpa using (List.getElem?_eq_some_iff.1 hg).1
    rw [h3 i g (by simpa using hg), List.getElem?_eq_getElem (by omega)]
    exact ⟨_, rfl⟩
  refine ⟨h1.trans hc, a, q1, q2.trans hn, fun j y hy => ?_⟩
  have := q3 j y hy
  rwa [Nat.zero_add] at this
/-- A struct, and a slice, as an argument. -/
theorem arg_struct {t : TypeId} {n : Nat} {fs : Array Field} {f : α → List PV} {R : α → Prop} {base : Nat} {v : Value} {d : DataW H} {ps : List MemPlace} (ht : P.underlying t = some (.struct fs)) (h : Opn enc P w t n (fun a => .agg (f a)) R) (hval : Value.okWide P w .any base t v)
    (hd : DataW.Trod enc P w 0 (fun _ => true) true t v d ps) : ∃ a, R a ∧ DR w No (.agg (f a)) v := by
  obtain ⟨cs, rfl, _⟩ := okWide_struct ht hval
  obtain ⟨fuel, hf⟩ := hd
  obtain ⟨h1, a, h2, h3, h4⟩ := h _ _ _ hf
  refine ⟨a, h2, .agg _ _ ?_ fun i x hx => ?_⟩
  · have : (flat (.agg (f a))).length = (f a).length := rfl
    simp only [Value.cells] at h1
    rw [← this, h3, ← h1, Array.length_toList]
  · have := h4 i x hx
    simp only [Value.cells] at this
    rwa [List.getD_eq_getElem?_getD, Array.getElem?_toList, ← Array.getD_eq_getD_getElem?] at this
theorem arg_slice {t e : TypeId} {f : α → PV} {R : List α → Prop} {base : Nat} {v : Value} {d : DataW H} {ps : List MemPlace} (ht : P.underlying t = some (.slice e)) (h : Opn enc P w t 1 (fun l : List α => .far (l.map f)) R) (hval : Value.okWide P w .any base t v)
    (hd : DataW.Trod enc P w 0 (fun _ => true) true t v d ps) : ∃ l, R l ∧ DR w No (.far (l.map f)) v := by
  obtain ⟨a, len, cap, rfl⟩ := okWide_slice ht hval
  obtain ⟨fuel, hf⟩ := hd
  obtain ⟨h1, l, h2, h3, h4⟩ := h _ _ _ hf
  exact ⟨l, h2, h4 0 _ rfl⟩
end
end Go.Pv
