/- The texts of this claim, part 3: a small logic of plain values for the model's runs, what it says of the functions, in plain values. -/
import Derived.Lib.Strings
import Derived.Lib.Walk
import Derived.Lib.Builder
import Derived.Lib.UnsafeStr
import Derived.WalkKit
import Derived.Laws.Externs
import Derived.Shelf.RegionOpenPlain
import Derived.Test.YtnaajggfggijhaaPvC0
import Derived.Test.YtnaajggfggijhaaPvC1
import Derived.Test.YtnaajggfggijhaaPvC2
/- What functions of the program and of the reference do, in plain values. -/
namespace Go.Pv
open Go.Proofs Go.Mth
set_option linter.unusedSimpArgs false
set_option linter.unusedVariables false
set_option maxHeartbeats 4000000

/-! ### laws over slices: how much there is, heads -/
def sumSz (l : List ByteArray) : Int := l.foldr (fun s n => (s.size : Int) + n) 0
theorem sumSz_nil : sumSz [] = 0 := rfl
theorem sumSz_cons (s : ByteArray) (l : List ByteArray) : sumSz (s :: l) = s.size + sumSz l := rfl
theorem sumSz_pos (l : List ByteArray) : 0 ≤ sumSz l := by
  induction l with
  | nil => exact Int.le_refl _
  | cons s l ih => rw [sumSz_cons]; omega
theorem sumSz_mem : ∀ {l : List ByteArray} {s : ByteArray}, s ∈ l → (s.size : Int) ≤ sumSz l
  | x :: l, s, h => by
    rw [sumSz_cons]
    rcases List.mem_cons.1 h with rfl | h
    · have := sumSz_pos l; omega
    · have := sumSz_mem h; omega
theorem sumSz_drop (l : List ByteArray) (i : Nat) (h : i < l.length) : sumSz (l.drop i) = (l.getD i default).size + sumSz (l.drop (i + 1)) := by
  rw [List.drop_eq_getElem_cons h, List.getD_eq_getElem?_getD, List.getElem?_eq_getElem h]; rfl
/-- What is left, if anything is. -/
theorem laws_eqPlace (x y : Int × Int) : Fn Try.prog 61 [plP x, plP y] [] (.bool (decide (x = y))) [] := by
  obtain ⟨a, b⟩ := x
  obtain ⟨c, d⟩ := y
  unfold plP
  refine fn_x tok (n := 15) (rs := [.tmp 4]) Try.func61 (by decide) rfl rfl rfl rfl ?_
  (try simp (maxSteps := 1000000) (disch := first | omega | (simp only [LN, numOk, verOk, rfP, rvP, rhP, frP] <;> omega) | exact Ck.mk rfl) only [VC, T, Nat.reduceMul, Nat.reduceAdd, Nat.reduceSub, Nat.reduceLT, Nat.reduceEqDiff, Nat.reduceLeDiff, Nat.reduceBEq, reduceCtorEq, Int.reduceToNat, ↓reduceIte, rfP, rvP, rhP, frP])
  repeat' (first
    | (refine br_go (fun e f => ?_) (fun e f => ?_) <;> (try simp only [BB] at f) <;> (try simp only [numOk, verOk] at f) <;> (try simp (maxSteps := 1000000) (disch := first | omega | (simp only [LN, numOk, verOk, rfP, rvP, rhP, frP] <;> omega) | exact Ck.mk rfl) only [e, VC, T, Nat.reduceMul, Nat.reduceAdd, Nat.reduceSub, Nat.reduceLT, Nat.reduceEqDiff, Nat.reduceLeDiff, Nat.reduceBEq, reduceCtorEq, Int.reduceToNat, ↓reduceIte, rfP, rvP, rhP, frP]) <;> (try clear e))
    | (refine pick_go (fun e f => ?_) (fun e f => ?_) <;> (try simp only [BB] at f) <;> (try simp only [numOk, verOk] at f) <;> (try simp (maxSteps := 1000000) (disch := first | omega | (simp only [LN, numOk, verOk, rfP, rvP, rhP, frP] <;> omega) | exact Ck.mk rfl) only [e, VC, T, Nat.reduceMul, Nat.reduceAdd, Nat.reduceSub, Nat.reduceLT, Nat.reduceEqDiff, Nat.reduceLeDiff, Nat.reduceBEq, reduceCtorEq, Int.reduceToNat, ↓reduceIte, rfP, rvP, rhP, frP]) <;> (try clear e)))
  all_goals simp [*]
theorem laws_eqPlaceS (xs ys : List (Int × Int)) (hx : xs.length ≤ 4611686018427387904) : Fn Try.prog 26 [.far (xs.map plP), .far (ys.map plP)] [] (.bool (decide (xs = ys))) [] := by
  refine fn_x tok (n := 27) (rs := [.tmp 4]) Try.func26 (by decide) rfl rfl rfl rfl ?_
  (try simp (maxSteps := 1000000) (disch := first | omega | (simp only [LN, numOk, verOk, rfP, rvP, rhP, frP] <;> omega) | exact Ck.mk rfl) only [VC, T, Nat.reduceMul, Nat.reduceAdd, Nat.reduceSub, Nat.reduceLT, Nat.reduceEqDiff, Nat.reduceLeDiff, Nat.reduceBEq, reduceCtorEq, Int.reduceToNat, ↓reduceIte, rfP, rvP, rhP, frP])
  repeat' (first
    | (refine br_go (fun e f => ?_) (fun e f => ?_) <;> (try simp only [BB] at f) <;> (try simp only [numOk, verOk] at f) <;> (try simp (maxSteps := 1000000) (disch := first | omega | (simp only [LN, numOk, verOk, rfP, rvP, rhP, frP] <;> omega) | exact Ck.mk rfl) only [e, VC, T, Nat.reduceMul, Nat.reduceAdd, Nat.reduceSub, Nat.reduceLT, Nat.reduceEqDiff, Nat.reduceLeDiff, Nat.reduceBEq, reduceCtorEq, Int.reduceToNat, ↓reduceIte, rfP, rvP, rhP, frP]) <;> (try clear e))
    | (refine pick_go (fun e f => ?_) (fun e f => ?_) <;> (try simp only [BB] at f) <;> (try simp only [numOk, verOk] at f) <;> (try simp (maxSteps := 1000000) (disch := first | omega | (simp only [LN, numOk, verOk, rfP, rvP, rhP, frP] <;> omega) | exact Ck.mk rfl) only [e, VC, T, Nat.reduceMul, Nat.reduceAdd, Nat.reduceSub, Nat.reduceLT, Nat.reduceEqDiff, Nat.reduceLeDiff, Nat.reduceBEq, reduceCtorEq, Int.reduceToNat, ↓reduceIte, rfP, rvP, rhP, frP]) <;> (try clear e)))
  · have hl : xs.length = ys.length := by omega
    refine lp_go (fun i : Nat => ⟨27, [(0, .far (xs.map plP)), (1, .far (ys.map plP)), (5, .int .i64 i)], []⟩) (fun i => i ≤ xs.length ∧ xs.take i = ys.take i) (fun i => xs.length - i) 0 ?_ ⟨Nat.zero_le _, rfl⟩ ?_
    · (simp (disch := first | omega | (simp only [LN, numOk, verOk] <;> omega) | exact Ck.mk rfl) only [SB, EQ, Nat.reduceMul, Nat.reduceAdd, Nat.reduceSub, Nat.reduceLT, Nat.reduceEqDiff, Nat.reduceLeDiff, Nat.reduceBEq, reduceCtorEq, Int.reduceToNat, ↓reduceIte]; try omega)
    · rintro i ⟨h1, h2⟩ N hN
      have hg : ∀ zs : List (Int × Int), i < zs.length → (zs.map plP).getD i .junk = .agg [.int .i64 (zs.getD i default).1, .int .i64 (zs.getD i default).2] := fun zs h => by
        rw [List.getD_eq_getElem?_getD, List.getElem?_map, List.getElem?_eq_getElem h, List.getD_eq_getElem?_getD, List.getElem?_eq_getElem h]; rfl
      (try simp (maxSteps := 1000000) (disch := first | omega | (simp only [LN, numOk, verOk, rfP, rvP, rhP, frP, hg] <;> omega) | exact Ck.mk rfl) only [VC, T, Nat.reduceMul, Nat.reduceAdd, Nat.reduceSub, Nat.reduceLT, Nat.reduceEqDiff, Nat.reduceLeDiff, Nat.reduceBEq, reduceCtorEq, Int.reduceToNat, ↓reduceIte, rfP, rvP, rhP, frP, hg])
      repeat' (first
        | (refine br_go (fun e f => ?_) (fun e f => ?_) <;> (try simp only [BB] at f) <;> (try simp only [numOk, verOk] at f) <;> (try simp (maxSteps := 1000000) (disch := first | omega | (simp only [LN, numOk, verOk, rfP, rvP, rhP, frP, hg] <;> omega) | exact Ck.mk rfl) only [e, VC, T, Nat.reduceMul, Nat.reduceAdd, Nat.reduceSub, Nat.reduceLT, Nat.reduceEqDiff, Nat.reduceLeDiff, Nat.reduceBEq, reduceCtorEq, Int.reduceToNat, ↓reduceIte, rfP, rvP, rhP, frP, hg]) <;> (try clear e))
        | (refine pick_go (fun e f => ?_) (fun e f => ?_) <;> (try simp only [BB] at f) <;> (try simp only [numOk, verOk] at f) <;> (try simp (maxSteps := 1000000) (disch := first | omega | (simp only [LN, numOk, verOk, rfP, rvP, rhP, frP, hg] <;> omega) | exact Ck.mk rfl) only [e, VC, T, Nat.reduceMul, Nat.reduceAdd, Nat.reduceSub, Nat.reduceLT, Nat.reduceEqDiff, Nat.reduceLeDiff, Nat.reduceBEq, reduceCtorEq, Int.reduceToNat, ↓reduceIte, rfP, rvP, rhP, frP, hg]) <;> (try clear e))
        | ((first | refine dr_go mixed (id := 6) [([], [0], []), ([], [5], []), ([0, 1], [17, 18], []), ([0, 1, 2], [19], []), ([], [1], []), ([], [5], []), ([4, 5], [21, 22], []), ([4, 5, 6], [23], []), ([0, 1, 2, 3, 4, 5, 6, 7], [20, 24], []), ([0, 1, 2, 3, 4, 5, 6, 7, 8], [25], [])] rfl rfl rfl ?_ | refine call_x (laws_eqPlace _ _) rfl ⟨rfl⟩ ?_); (try simp (maxSteps := 1000000) (disch := first | omega | (simp only [LN, numOk, verOk, rfP, rvP, rhP, frP, hg] <;> omega) | exact Ck.mk rfl) only [VC, T, Nat.reduceMul, Nat.reduceAdd, Nat.reduceSub, Nat.reduceLT, Nat.reduceEqDiff, Nat.reduceLeDiff, Nat.reduceBEq, reduceCtorEq, Int.reduceToNat, ↓reduceIte, rfP, rvP, rhP, frP, hg])))
      · refine hN (i + 1) _ ⟨by omega, eq_step xs ys i hl (by omega) h2 (Prod.ext (by simp_all) (by simp_all))⟩ (by omega) ?_
        (simp (disch := first | omega | (simp only [LN, numOk, verOk] <;> omega) | exact Ck.mk rfl) only [SB, EQ, Nat.reduceMul, Nat.reduceAdd, Nat.reduceSub, Nat.reduceLT, Nat.reduceEqDiff, Nat.reduceLeDiff, Nat.reduceBEq, reduceCtorEq, Int.reduceToNat, ↓reduceIte]; try omega)
      · rw [decide_eq_false fun h => by subst h; simp at f]
      · rw [List.take_of_length_le (by omega), List.take_of_length_le (by omega)] at h2
        rw [decide_eq_true h2]
  · rw [decide_eq_false fun h => f (by rw [h])]
theorem laws_samePlaces (xs ys : List (Int × Int)) (hx : xs.length ≤ 4611686018427387904) : Fn Try.prog 44 [.far (xs.map plP), .far (ys.map plP)] [] (.bool (decide (xs = ys))) [] := by
  refine fn_x tok (n := 26) (rs := [.tmp 4]) Try.func44 (by decide) rfl rfl rfl rfl ?_
  (try simp (maxSteps := 1000000) (disch := first | omega | (simp only [LN, numOk, verOk, rfP, rvP, rhP, frP] <;> omega) | exact Ck.mk rfl) only [VC, T, Nat.reduceMul, Nat.reduceAdd, Nat.reduceSub, Nat.reduceLT, Nat.reduceEqDiff, Nat.reduceLeDiff, Nat.reduceBEq, reduceCtorEq, Int.reduceToNat, ↓reduceIte, rfP, rvP, rhP, frP])
  repeat' (first
    | (refine br_go (fun e f => ?_) (fun e f => ?_) <;> (try simp only [BB] at f) <;> (try simp only [numOk, verOk] at f) <;> (try simp (maxSteps := 1000000) (disch := first | omega | (simp only [LN, numOk, verOk, rfP, rvP, rhP, frP] <;> omega) | exact Ck.mk rfl) only [e, VC, T, Nat.reduceMul, Nat.reduceAdd, Nat.reduceSub, Nat.reduceLT, Nat.reduceEqDiff, Nat.reduceLeDiff, Nat.reduceBEq, reduceCtorEq, Int.reduceToNat, ↓reduceIte, rfP, rvP, rhP, frP]) <;> (try clear e))
    | (refine pick_go (fun e f => ?_) (fun e f => ?_) <;> (try simp only [BB] at f) <;> (try simp only [numOk, verOk] at f) <;> (try simp (maxSteps := 1000000) (disch := first | omega | (simp only [LN, numOk, verOk, rfP, rvP, rhP, frP] <;> omega) | exact Ck.mk rfl) only [e, VC, T, Nat.reduceMul, Nat.reduceAdd, Nat.reduceSub, Nat.reduceLT, Nat.reduceEqDiff, Nat.reduceLeDiff, Nat.reduceBEq, reduceCtorEq, Int.reduceToNat, ↓reduceIte, rfP, rvP, rhP, frP]) <;> (try clear e)))
  · have hl : xs.length = ys.length := by omega
    refine lp_go (fun i : Nat => ⟨26, [(0, .far (xs.map plP)), (1, .far (ys.map plP)), (5, .int .i64 i)], []⟩) (fun i => i ≤ xs.length ∧ xs.take i = ys.take i) (fun i => xs.length - i) 0 ?_ ⟨Nat.zero_le _, rfl⟩ ?_
    · (simp (disch := first | omega | (simp only [LN, numOk, verOk] <;> omega) | exact Ck.mk rfl) only [SB, EQ, Nat.reduceMul, Nat.reduceAdd, Nat.reduceSub, Nat.reduceLT, Nat.reduceEqDiff, Nat.reduceLeDiff, Nat.reduceBEq, reduceCtorEq, Int.reduceToNat, ↓reduceIte]; try omega)
    · rintro i ⟨h1, h2⟩ N hN
      have hg : ∀ zs : List (Int × Int), i < zs.length → (zs.map plP).getD i .junk = .agg [.int .i64 (zs.getD i default).1, .int .i64 (zs.getD i default).2] := fun zs h => by
        rw [List.getD_eq_getElem?_getD, List.getElem?_map, List.getElem?_eq_getElem h, List.getD_eq_getElem?_getD, List.getElem?_eq_getElem h]; rfl
      (try simp (maxSteps := 1000000) (disch := first | omega | (simp only [LN, numOk, verOk, rfP, rvP, rhP, frP, hg] <;> omega) | exact Ck.mk rfl) only [VC, T, Nat.reduceMul, Nat.reduceAdd, Nat.reduceSub, Nat.reduceLT, Nat.reduceEqDiff, Nat.reduceLeDiff, Nat.reduceBEq, reduceCtorEq, Int.reduceToNat, ↓reduceIte, rfP, rvP, rhP, frP, hg])
      repeat' (first
        | (refine br_go (fun e f => ?_) (fun e f => ?_) <;> (try simp only [BB] at f) <;> (try simp only [numOk, verOk] at f) <;> (try simp (maxSteps := 1000000) (disch := first | omega | (simp only [LN, numOk, verOk, rfP, rvP, rhP, frP, hg] <;> omega) | exact Ck.mk rfl) only [e, VC, T, Nat.reduceMul, Nat.reduceAdd, Nat.reduceSub, Nat.reduceLT, Nat.reduceEqDiff, Nat.reduceLeDiff, Nat.reduceBEq, reduceCtorEq, Int.reduceToNat, ↓reduceIte, rfP, rvP, rhP, frP, hg]) <;> (try clear e))
        | (refine pick_go (fun e f => ?_) (fun e f => ?_) <;> (try simp only [BB] at f) <;> (try simp only [numOk, verOk] at f) <;> (try simp (maxSteps := 1000000) (disch := first | omega | (simp only [LN, numOk, verOk, rfP, rvP, rhP, frP, hg] <;> omega) | exact Ck.mk rfl) only [e, VC, T, Nat.reduceMul, Nat.reduceAdd, Nat.reduceSub, Nat.reduceLT, Nat.reduceEqDiff, Nat.reduceLeDiff, Nat.reduceBEq, reduceCtorEq, Int.reduceToNat, ↓reduceIte, rfP, rvP, rhP, frP, hg]) <;> (try clear e))
        | ((first | refine dr_go mixed (id := 6) [([], [0], []), ([], [5], []), ([0, 1], [17, 18], []), ([0, 1, 2], [19], []), ([], [1], []), ([], [5], []), ([4, 5], [21, 22], []), ([4, 5, 6], [23], []), ([0, 1, 2, 3, 4, 5, 6, 7], [20, 24], [])] rfl rfl rfl ?_); (try simp (maxSteps := 1000000) (disch := first | omega | (simp only [LN, numOk, verOk, rfP, rvP, rhP, frP, hg] <;> omega) | exact Ck.mk rfl) only [VC, T, Nat.reduceMul, Nat.reduceAdd, Nat.reduceSub, Nat.reduceLT, Nat.reduceEqDiff, Nat.reduceLeDiff, Nat.reduceBEq, reduceCtorEq, Int.reduceToNat, ↓reduceIte, rfP, rvP, rhP, frP, hg])))
      · refine hN (i + 1) _ ⟨by omega, eq_step xs ys i hl (by omega) h2 (Prod.ext (by simp_all) (by simp_all))⟩ (by omega) ?_
        (simp (disch := first | omega | (simp only [LN, numOk, verOk] <;> omega) | exact Ck.mk rfl) only [SB, EQ, Nat.reduceMul, Nat.reduceAdd, Nat.reduceSub, Nat.reduceLT, Nat.reduceEqDiff, Nat.reduceLeDiff, Nat.reduceBEq, reduceCtorEq, Int.reduceToNat, ↓reduceIte]; try omega)
      · rw [decide_eq_false fun h => by subst h; simp at f]
      · rw [List.take_of_length_le (by omega), List.take_of_length_le (by omega)] at h2
        rw [decide_eq_true h2]
  · rw [decide_eq_false fun h => f (by rw [h])]
def pfor (i : Int) : List (Int × Int) → (Int × Int) × Bool
  | [] => ((0, 0), false)
  | p :: l => if (pfor i l).2 = true then pfor i l else if p.1 ≤ i then (p, true) else ((0, 0), false)
theorem pfor_snoc (i : Int) (l : List (Int × Int)) (p : Int × Int) : pfor i (l ++ [p]) = if p.1 ≤ i then (p, true) else pfor i l := by
  induction l with
  | nil => simp [pfor]
  | cons q l ih =>
    rw [List.cons_append]
    unfold pfor
    rw [ih]
    by_cases h : p.1 ≤ i
    · simp [h]
    · simp [h]
def pfP (x : (Int × Int) × Bool) : PV := .tup [.agg [.int .i64 x.1.1, .int .i64 x.1.2], .bool x.2]
theorem impl_PlaceFor (ps : List (Int × Int)) (n : Int) (hx : ps.length ≤ 1073741824) : Fn Try.prog 46 [.far (ps.map plP), .int .i64 n] [] (pfP (pfor n ps)) [] := by
  refine fn_x tok (n := 26) (rs := [.cell 4 59, .tmp 5]) Try.func46 (by decide) rfl rfl rfl rfl ?_
  (try simp (maxSteps := 1000000) (disch := first | omega | (simp only [LN, numOk, verOk, rfP, rvP, rhP, frP] <;> omega) | exact Ck.mk rfl) only [VC, T, Nat.reduceMul, Nat.reduceAdd, Nat.reduceSub, Nat.reduceLT, Nat.reduceEqDiff, Nat.reduceLeDiff, Nat.reduceBEq, reduceCtorEq, Int.reduceToNat, ↓reduceIte, rfP, rvP, rhP, frP])
  repeat' (first
    | (refine br_go (fun e f => ?_) (fun e f => ?_) <;> (try simp only [BB] at f) <;> (try simp only [numOk, verOk] at f) <;> (try simp (maxSteps := 1000000) (disch := first | omega | (simp only [LN, numOk, verOk, rfP, rvP, rhP, frP] <;> omega) | exact Ck.mk rfl) only [e, VC, T, Nat.reduceMul, Nat.reduceAdd, Nat.reduceSub, Nat.reduceLT, Nat.reduceEqDiff, Nat.reduceLeDiff, Nat.reduceBEq, reduceCtorEq, Int.reduceToNat, ↓reduceIte, rfP, rvP, rhP, frP]) <;> (try clear e))
    | (refine pick_go (fun e f => ?_) (fun e f => ?_) <;> (try simp only [BB] at f) <;> (try simp only [numOk, verOk] at f) <;> (try simp (maxSteps := 1000000) (disch := first | omega | (simp only [LN, numOk, verOk, rfP, rvP, rhP, frP] <;> omega) | exact Ck.mk rfl) only [e, VC, T, Nat.reduceMul, Nat.reduceAdd, Nat.reduceSub, Nat.reduceLT, Nat.reduceEqDiff, Nat.reduceLeDiff, Nat.reduceBEq, reduceCtorEq, Int.reduceToNat, ↓reduceIte, rfP, rvP, rhP, frP]) <;> (try clear e)))
  refine lp_go (fun k : Nat => ⟨26, [(0, .far (ps.map plP)), (1, .int .i64 n), (4, .ref 320 0), (6, .int .i64 ((k : Int) - 1))], [(320, .box 59 [.int .i64 0, .int .i64 0])]⟩) (fun k => k ≤ ps.length ∧ pfor n ps = pfor n (ps.take k)) (fun k => k) ps.length ?_ ⟨Nat.le_refl _, by rw [List.take_length]⟩ ?_
  · (simp (disch := first | omega | (simp only [LN, numOk, verOk] <;> omega) | exact Ck.mk rfl) only [SB, EQ, Nat.reduceMul, Nat.reduceAdd, Nat.reduceSub, Nat.reduceLT, Nat.reduceEqDiff, Nat.reduceLeDiff, Nat.reduceBEq, reduceCtorEq, Int.reduceToNat, ↓reduceIte]; try omega)
  · rintro k ⟨h1, h2⟩ N hN
    by_cases hk : k = 0
    · subst hk
      (try simp (maxSteps := 1000000) (disch := first | omega | (simp only [LN, numOk, verOk, rfP, rvP, rhP, frP] <;> omega) | exact Ck.mk rfl) only [VC, T, Nat.reduceMul, Nat.reduceAdd, Nat.reduceSub, Nat.reduceLT, Nat.reduceEqDiff, Nat.reduceLeDiff, Nat.reduceBEq, reduceCtorEq, Int.reduceToNat, ↓reduceIte, rfP, rvP, rhP, frP])
      repeat' (first
        | (refine br_go (fun e f => ?_) (fun e f => ?_) <;> (try simp only [BB] at f) <;> (try simp only [numOk, verOk] at f) <;> (try simp (maxSteps := 1000000) (disch := first | omega | (simp only [LN, numOk, verOk, rfP, rvP, rhP, frP] <;> omega) | exact Ck.mk rfl) only [e, VC, T, Nat.reduceMul, Nat.reduceAdd, Nat.reduceSub, Nat.reduceLT, Nat.reduceEqDiff, Nat.reduceLeDiff, Nat.reduceBEq, reduceCtorEq, Int.reduceToNat, ↓reduceIte, rfP, rvP, rhP, frP]) <;> (try clear e))
        | (refine pick_go (fun e f => ?_) (fun e f => ?_) <;> (try simp only [BB] at f) <;> (try simp only [numOk, verOk] at f) <;> (try simp (maxSteps := 1000000) (disch := first | omega | (simp only [LN, numOk, verOk, rfP, rvP, rhP, frP] <;> omega) | exact Ck.mk rfl) only [e, VC, T, Nat.reduceMul, Nat.reduceAdd, Nat.reduceSub, Nat.reduceLT, Nat.reduceEqDiff, Nat.reduceLeDiff, Nat.reduceBEq, reduceCtorEq, Int.reduceToNat, ↓reduceIte, rfP, rvP, rhP, frP]) <;> (try clear e)))
      rw [h2]; rfl
    · obtain ⟨j, rfl⟩ : ∃ j, k = j + 1 := ⟨k - 1, by omega⟩
      have hg : (ps.map plP).getD j .junk = .agg [.int .i64 (ps.getD j default).1, .int .i64 (ps.getD j default).2] := by
        rw [List.getD_eq_getElem?_getD, List.getElem?_map, List.getElem?_eq_getElem (by omega), List.getD_eq_getElem?_getD, List.getElem?_eq_getElem (by omega)]; rfl
      have ht : pfor n (ps.take (j + 1)) = if (ps.getD j default).1 ≤ n then (ps.getD j default, true) else pfor n (ps.take j) := by
        rw [List.take_succ_eq_append_getElem (by omega), pfor_snoc, List.getD_eq_getElem?_getD, List.getElem?_eq_getElem (by omega)]; rfl
      rw [ht] at h2
      have e1 : ((j + 1 : Nat) : Int) - 1 = (j : Int) := by omega
      simp only [e1] at *
      (try simp (maxSteps := 1000000) (disch := first | omega | (simp only [LN, numOk, verOk, rfP, rvP, rhP, frP, hg] <;> omega) | exact Ck.mk rfl) only [VC, T, Nat.reduceMul, Nat.reduceAdd, Nat.reduceSub, Nat.reduceLT, Nat.reduceEqDiff, Nat.reduceLeDiff, Nat.reduceBEq, reduceCtorEq, Int.reduceToNat, ↓reduceIte, rfP, rvP, rhP, frP, hg])
      repeat' (first
        | (refine br_go (fun e f => ?_) (fun e f => ?_) <;> (try simp only [BB] at f) <;> (try simp only [numOk, verOk] at f) <;> (try simp (maxSteps := 1000000) (disch := first | omega | (simp only [LN, numOk, verOk, rfP, rvP, rhP, frP, hg] <;> omega) | exact Ck.mk rfl) only [e, VC, T, Nat.reduceMul, Nat.reduceAdd, Nat.reduceSub, Nat.reduceLT, Nat.reduceEqDiff, Nat.reduceLeDiff, Nat.reduceBEq, reduceCtorEq, Int.reduceToNat, ↓reduceIte, rfP, rvP, rhP, frP, hg]) <;> (try clear e))
        | (refine pick_go (fun e f => ?_) (fun e f => ?_) <;> (try simp only [BB] at f) <;> (try simp only [numOk, verOk] at f) <;> (try simp (maxSteps := 1000000) (disch := first | omega | (simp only [LN, numOk, verOk, rfP, rvP, rhP, frP, hg] <;> omega) | exact Ck.mk rfl) only [e, VC, T, Nat.reduceMul, Nat.reduceAdd, Nat.reduceSub, Nat.reduceLT, Nat.reduceEqDiff, Nat.reduceLeDiff, Nat.reduceBEq, reduceCtorEq, Int.reduceToNat, ↓reduceIte, rfP, rvP, rhP, frP, hg]) <;> (try clear e)))
      · rw [h2, if_pos f]; rfl
      · refine hN j _ ⟨by omega, by rw [h2, if_neg (by omega)]⟩ (by omega) ?_
        (simp (disch := first | omega | (simp only [LN, numOk, verOk] <;> omega) | exact Ck.mk rfl) only [SB, EQ, Nat.reduceMul, Nat.reduceAdd, Nat.reduceSub, Nat.reduceLT, Nat.reduceEqDiff, Nat.reduceLeDiff, Nat.reduceBEq, reduceCtorEq, Int.reduceToNat, ↓reduceIte]; try omega)
theorem spec_PlaceFor (ps : List (Int × Int)) (n : Int) (hx : ps.length ≤ 1073741824) : Fn Try.prog 47 [.far (ps.map plP), .int .i64 n] [] (pfP (pfor n ps)) [] := by
  refine fn_x tok (n := 26) (rs := [.cell 4 59, .tmp 5]) Try.func47 (by decide) rfl rfl rfl rfl ?_
  (try simp (maxSteps := 1000000) (disch := first | omega | (simp only [LN, numOk, verOk, rfP, rvP, rhP, frP] <;> omega) | exact Ck.mk rfl) only [VC, T, Nat.reduceMul, Nat.reduceAdd, Nat.reduceSub, Nat.reduceLT, Nat.reduceEqDiff, Nat.reduceLeDiff, Nat.reduceBEq, reduceCtorEq, Int.reduceToNat, ↓reduceIte, rfP, rvP, rhP, frP])
  repeat' (first
    | (refine br_go (fun e f => ?_) (fun e f => ?_) <;> (try simp only [BB] at f) <;> (try simp only [numOk, verOk] at f) <;> (try simp (maxSteps := 1000000) (disch := first | omega | (simp only [LN, numOk, verOk, rfP, rvP, rhP, frP] <;> omega) | exact Ck.mk rfl) only [e, VC, T, Nat.reduceMul, Nat.reduceAdd, Nat.reduceSub, Nat.reduceLT, Nat.reduceEqDiff, Nat.reduceLeDiff, Nat.reduceBEq, reduceCtorEq, Int.reduceToNat, ↓reduceIte, rfP, rvP, rhP, frP]) <;> (try clear e))
    | (refine pick_go (fun e f => ?_) (fun e f => ?_) <;> (try simp only [BB] at f) <;> (try simp only [numOk, verOk] at f) <;> (try simp (maxSteps := 1000000) (disch := first | omega | (simp only [LN, numOk, verOk, rfP, rvP, rhP, frP] <;> omega) | exact Ck.mk rfl) only [e, VC, T, Nat.reduceMul, Nat.reduceAdd, Nat.reduceSub, Nat.reduceLT, Nat.reduceEqDiff, Nat.reduceLeDiff, Nat.reduceBEq, reduceCtorEq, Int.reduceToNat, ↓reduceIte, rfP, rvP, rhP, frP]) <;> (try clear e)))
  refine lp_go (fun k : Nat => ⟨26, [(0, .far (ps.map plP)), (1, .int .i64 n), (4, .ref 320 0), (6, .int .i64 ((k : Int) - 1))], [(320, .box 59 [.int .i64 0, .int .i64 0])]⟩) (fun k => k ≤ ps.length ∧ pfor n ps = pfor n (ps.take k)) (fun k => k) ps.length ?_ ⟨Nat.le_refl _, by rw [List.take_length]⟩ ?_
  · (simp (disch := first | omega | (simp only [LN, numOk, verOk] <;> omega) | exact Ck.mk rfl) only [SB, EQ, Nat.reduceMul, Nat.reduceAdd, Nat.reduceSub, Nat.reduceLT, Nat.reduceEqDiff, Nat.reduceLeDiff, Nat.reduceBEq, reduceCtorEq, Int.reduceToNat, ↓reduceIte]; try omega)
  · rintro k ⟨h1, h2⟩ N hN
    by_cases hk : k = 0
    · subst hk
      (try simp (maxSteps := 1000000) (disch := first | omega | (simp only [LN, numOk, verOk, rfP, rvP, rhP, frP] <;> omega) | exact Ck.mk rfl) only [VC, T, Nat.reduceMul, Nat.reduceAdd, Nat.reduceSub, Nat.reduceLT, Nat.reduceEqDiff, Nat.reduceLeDiff, Nat.reduceBEq, reduceCtorEq, Int.reduceToNat, ↓reduceIte, rfP, rvP, rhP, frP])
      repeat' (first
        | (refine br_go (fun e f => ?_) (fun e f => ?_) <;> (try simp only [BB] at f) <;> (try simp only [numOk, verOk] at f) <;> (try simp (maxSteps := 1000000) (disch := first | omega | (simp only [LN, numOk, verOk, rfP, rvP, rhP, frP] <;> omega) | exact Ck.mk rfl) only [e, VC, T, Nat.reduceMul, Nat.reduceAdd, Nat.reduceSub, Nat.reduceLT, Nat.reduceEqDiff, Nat.reduceLeDiff, Nat.reduceBEq, reduceCtorEq, Int.reduceToNat, ↓reduceIte, rfP, rvP, rhP, frP]) <;> (try clear e))
        | (refine pick_go (fun e f => ?_) (fun e f => ?_) <;> (try simp only [BB] at f) <;> (try simp only [numOk, verOk] at f) <;> (try simp (maxSteps := 1000000) (disch := first | omega | (simp only [LN, numOk, verOk, rfP, rvP, rhP, frP] <;> omega) | exact Ck.mk rfl) only [e, VC, T, Nat.reduceMul, Nat.reduceAdd, Nat.reduceSub, Nat.reduceLT, Nat.reduceEqDiff, Nat.reduceLeDiff, Nat.reduceBEq, reduceCtorEq, Int.reduceToNat, ↓reduceIte, rfP, rvP, rhP, frP]) <;> (try clear e)))
      rw [h2]; rfl
    · obtain ⟨j, rfl⟩ : ∃ j, k = j + 1 := ⟨k - 1, by omega⟩
      have hg : (ps.map plP).getD j .junk = .agg [.int .i64 (ps.getD j default).1, .int .i64 (ps.getD j default).2] := by
        rw [List.getD_eq_getElem?_getD, List.getElem?_map, List.getElem?_eq_getElem (by omega), List.getD_eq_getElem?_getD, List.getElem?_eq_getElem (by omega)]; rfl
      have ht : pfor n (ps.take (j + 1)) = if (ps.getD j default).1 ≤ n then (ps.getD j default, true) else pfor n (ps.take j) := by
        rw [List.take_succ_eq_append_getElem (by omega), pfor_snoc, List.getD_eq_getElem?_getD, List.getElem?_eq_getElem (by omega)]; rfl
      rw [ht] at h2
      have e1 : ((j + 1 : Nat) : Int) - 1 = (j : Int) := by omega
      simp only [e1] at *
      (try simp (maxSteps := 1000000) (disch := first | omega | (simp only [LN, numOk, verOk, rfP, rvP, rhP, frP, hg] <;> omega) | exact Ck.mk rfl) only [VC, T, Nat.reduceMul, Nat.reduceAdd, Nat.reduceSub, Nat.reduceLT, Nat.reduceEqDiff, Nat.reduceLeDiff, Nat.reduceBEq, reduceCtorEq, Int.reduceToNat, ↓reduceIte, rfP, rvP, rhP, frP, hg])
      repeat' (first
        | (refine br_go (fun e f => ?_) (fun e f => ?_) <;> (try simp only [BB] at f) <;> (try simp only [numOk, verOk] at f) <;> (try simp (maxSteps := 1000000) (disch := first | omega | (simp only [LN, numOk, verOk, rfP, rvP, rhP, frP, hg] <;> omega) | exact Ck.mk rfl) only [e, VC, T, Nat.reduceMul, Nat.reduceAdd, Nat.reduceSub, Nat.reduceLT, Nat.reduceEqDiff, Nat.reduceLeDiff, Nat.reduceBEq, reduceCtorEq, Int.reduceToNat, ↓reduceIte, rfP, rvP, rhP, frP, hg]) <;> (try clear e))
        | (refine pick_go (fun e f => ?_) (fun e f => ?_) <;> (try simp only [BB] at f) <;> (try simp only [numOk, verOk] at f) <;> (try simp (maxSteps := 1000000) (disch := first | omega | (simp only [LN, numOk, verOk, rfP, rvP, rhP, frP, hg] <;> omega) | exact Ck.mk rfl) only [e, VC, T, Nat.reduceMul, Nat.reduceAdd, Nat.reduceSub, Nat.reduceLT, Nat.reduceEqDiff, Nat.reduceLeDiff, Nat.reduceBEq, reduceCtorEq, Int.reduceToNat, ↓reduceIte, rfP, rvP, rhP, frP, hg]) <;> (try clear e)))
      · rw [h2, if_pos f]; rfl
      · refine hN j _ ⟨by omega, by rw [h2, if_neg (by omega)]⟩ (by omega) ?_
        (simp (disch := first | omega | (simp only [LN, numOk, verOk] <;> omega) | exact Ck.mk rfl) only [SB, EQ, Nat.reduceMul, Nat.reduceAdd, Nat.reduceSub, Nat.reduceLT, Nat.reduceEqDiff, Nat.reduceLeDiff, Nat.reduceBEq, reduceCtorEq, Int.reduceToNat, ↓reduceIte]; try omega)
end Go.Pv

/- strings.Builder: what its functions do, in plain values. -/
namespace Go.Pv
open Go.Proofs Go.Mth Go.RowKit
set_option linter.unusedSimpArgs false
set_option linter.unusedVariables false
set_option maxHeartbeats 4000000
theorem bl_size : (Try.prog.info? 83).map (·.size) = some 2 := by kernel_rfl
theorem bl_lies : liesAt Try.prog Try.prog.depth 83 (2 / Try.prog.cellsOf 83) 0 83 1 = true := by kernel_rfl
set_option maxRecDepth 100000 in
theorem bl_fresh (b : Nat) (w : World) (h0 : w.cell? ⟨b, 0, none⟩ = some (.pointer none)) (hsh : w.shape? b = some (83, 2)) (hfz : w.frozen? ⟨b, 0, none⟩ = false) :
    Calls Try.prog 102 #[.pointer (some ⟨b, 0, none⟩)] w fun e w' => e = .returned (.tuple #[]) ∧ w' = w.setCell ⟨b, 0, none⟩ (.pointer (some ⟨b, 0, none⟩)) := by
  obtain ⟨j, hj, hjs⟩ := Option.map_eq_some_iff.1 bl_size
  go_enter Try.func102, Try.ntmps102
  go_wp2
  rw [Lib.run_to_unsafe w ⟨b, 0, none⟩ Try.underlying81 Try.underlying116 hj (by rw [hjs]; decide) hsh (Nat.zero_lt_succ 1)]
  simp only [Result.andThen]
  rw [Oper.upon_value]
  go_wp2
  rw [run_callFunc_extern Try.func118 (by kernel_rfl) (by kernel_rfl) (by kernel_rfl) (e := Extern.AbiNoEscape.same) (by kernel_rfl)]
  rw [Lib.run_noEscape]
  simp only [Result.andThen]
  rw [Oper.upon_value]
  go_wp2
  rw [Lib.run_from_unsafe w ⟨b, 0, none⟩ Try.underlying116 Try.underlying81 hj hsh bl_lies]
  simp only [Result.andThen]
  rw [Oper.upon_value]
  go_wp2
  go_end0
  exact ⟨rfl, rfl⟩
set_option maxRecDepth 100000 in
theorem bl_String (b g cap : Nat) (p : Value) (cur : Array Value) (fzb fz : Nat × Nat) (l : List UInt8) (w : World) (h0 : l ≠ []) (hbk : w.heap[b]? = some (.cells #[p, .slice (some ⟨g, 0, none⟩) l.length cap] 83 fzb)) (hg : w.heap[g]? = some (.cells cur 5 fz))
    (hc : l.length ≤ cap) (hcm : cap ≤ cur.size) (h63 : l.length ≤ 9223372036854775807) (hcell : ∀ (j : Nat) (x : UInt8), l[j]? = some x → cur[j]? = some (Value.int .u8 x.toNat)) :
    Calls Try.prog 76 #[.pointer (some ⟨b, 0, none⟩)] w fun e w' => e = .returned (.string ⟨l.toArray⟩) ∧ w' = w.drew.freeze ⟨g, 0, none⟩ l.length := by
  have hl0 : l.length ≠ 0 := by simpa using h0
  have c1 : w.drew.cell? ⟨b, 1, none⟩ = some (.slice (some ⟨g, 0, none⟩) l.length cap) := by
    have : w.drew.heap[b]? = some (.cells #[p, .slice (some ⟨g, 0, none⟩) l.length cap] 83 fzb) := hbk
    rw [Lib.cell_of_heap this]; rfl
  have hSD : (Builtin.unsafeSliceData_ #[22] 109 #[.slice (some ⟨g, 0, none⟩) l.length cap]).run Try.prog w.drew = .ok (.pointer (some ⟨g, 0, none⟩)) w.drew :=
    Lib.run_unsafeSliceData_row _ _ _ _ _ _ (by omega)
  have hUS : (Builtin.unsafeString_ #[109, 3] 9 #[.pointer (some ⟨g, 0, none⟩), .int .i64 l.length]).run Try.prog w.drew = .ok (.string ⟨l.toArray⟩) (w.drew.freeze ⟨g, 0, none⟩ l.length) := by
    refine Lib.run_unsafeString_row w.drew 109 3 9 5 Try.underlying109 (by kernel_rfl) g cur.size (by have hg' : w.drew.heap[g]? = some (.cells cur 5 fz) := hg; simp [World.shape?, hg']) l h0 (by omega) h63 ?_
    intro j x hx
    have hg' : w.drew.heap[g]? = some (.cells cur 5 fz) := hg
    have := hcell j x hx
    by_cases hj : j = 0
    · subst hj; simp [World.cell?, Addr.add, hg', this]
    · simp [World.cell?, Addr.add, hg', this, hj]
  have hm := mixed
  go_enter Try.func76, Try.ntmps76
  go_wp2
  go_region_o
  all_goals (go_wp2; go_ret; exact ⟨rfl, rfl⟩)
set_option maxRecDepth 100000 in
theorem bl_used (b : Nat) (w : World) (h0 : w.cell? ⟨b, 0, none⟩ = some (.pointer (some ⟨b, 0, none⟩))) :
    Calls Try.prog 102 #[.pointer (some ⟨b, 0, none⟩)] w fun e w' => e = .returned (.tuple #[]) ∧ w' = w := by
  obtain ⟨j, hj, _⟩ := Option.map_eq_some_iff.1 bl_size
  go_enter Try.func102, Try.ntmps102
  go_wp2
  rw [Lib.run_neq_ptr_same w _ Try.underlying81 hj]
  go_wp2
  go_end0
  exact ⟨rfl, rfl⟩
section
variable {w : World} {A : Bl} {Γ : Nat → Value} {hp : Hp}
theorem ref_val {b off q : Nat} {cs : List PV} {v : Value} (h : VR w A Γ hp (.ref b off) v) (hb : hget hp b = some (.box q cs)) : ∃ β, Γ b = .pointer (some ⟨β, 0, none⟩) ∧ v = .pointer (some ⟨β, off, none⟩) := by
  cases h with
  | data h => cases h
  | ref _ _ _ _ _ k => exact k q cs hb
theorem vr_nilp {v : Value} (h : VR w A Γ hp .nilp v) : v = .pointer none := by
  cases h with | data h => cases h; rfl
theorem row_val {g n : Nat} {sz : Sz} {xs : List PV} {v : Value} (h : VR w A Γ hp (.row g n) v) (hb : hget hp g = some (.row sz xs)) (hn : n = xs.length) : v = Γ g := by
  cases h with
  | data h => cases h
  | row _ _ _ _ _ k => exact (k sz xs hb).2 hn
theorem vs_one {vs : Array Value} (h : vs.size = 1) : vs = #[vs.getD 0 undef] := by
  apply Array.ext
  · simpa using h
  · intro i h1 h2
    obtain rfl : i = 0 := by omega
    simp [Array.getD, h1]
theorem box_cell {β : Nat} {c : Array Value} {q : TypeId} {fr : Nat × Nat} (h : w.heap[β]? = some (.cells c q fr)) {i : Nat} (hi : i < c.size) : w.cell? ⟨β, i, none⟩ = some (c.getD i undef) := by
  rw [Lib.cell_of_heap h, Array.getD_eq_getD_getElem?, Array.getElem?_eq_getElem hi]; rfl
end
theorem copy_ent : Ent Try.prog 102 := fun vs w => by
  simp [callFunc, Try.func102, show (Try.f102).name ≠ "runtime.NumGoroutine" by decide, show (Try.f102).body = some _ from rfl]
theorem str_ent : Ent Try.prog 76 := fun vs w => by
  simp [callFunc, Try.func76, show (Try.f76).name ≠ "runtime.NumGoroutine" by decide, show (Try.f76).body = some _ from rfl]
theorem copy_used (ha : Hp) (x : PV) (h : hget ha 0 = some (.box 83 [.ref 0 0, x])) : Fn Try.prog 102 [.ref 0 0] ha (.tup []) ha := by
  refine ⟨copy_ent, fun w V Γ vs hV hs hargs hhr hd => ?_⟩
  have h0 := hhr 0
  unfold HR at h0
  rw [h] at h0
  obtain ⟨β, c, fr, e1, e2, e3, e4, e5⟩ := h0
  obtain ⟨β', g1, g2⟩ := ref_val (hargs 0 _ rfl) h
  obtain ⟨β2, g3, g4⟩ := ref_val (e5 0 _ rfl) h
  rw [e1] at g1 g3
  cases g1
  cases g3
  rw [vs_one hs, g2]
  have e3' : c.size = 2 := e3
  refine (bl_used β w (by rw [box_cell e2 (by omega), g4])).mono ?_
  rintro e w' ⟨rfl, rfl⟩
  exact ⟨_, Γ, rfl, Kp.refl _ _, .tup [] #[] rfl (fun i x h => by simp at h), hhr, hd, fun b hb => .inr hb, fun _ _ _ _ => rfl⟩
theorem copy_fresh : Fn Try.prog 102 [.ref 0 0] [(0, .box 83 [.nilp, .nils])] (.tup []) [(0, .box 83 [.ref 0 0, .nils])] := by
  refine ⟨copy_ent, fun w V Γ vs hV hs hargs hhr hd => ?_⟩
  obtain ⟨β, c, fr, e1, e2, e3, e4, e5⟩ := hhr 0
  obtain ⟨β', g1, g2⟩ := ref_val (hargs 0 _ rfl) rfl
  rw [e1] at g1
  cases g1
  have c0 : c.getD 0 undef = .pointer none := vr_nilp (e5 0 _ rfl)
  have c1 : c.getD 1 undef = .slice none 0 0 := vr_nils (e5 1 _ rfl)
  have e3' : c.size = 2 := e3
  rw [vs_one hs, g2]
  refine (bl_fresh β w (by rw [box_cell e2 (by omega), c0]) (by simp [World.shape?, e2, e3']) (by
    have := e4 0 (Nat.le_refl _) (by omega)
    simp only [World.frozen?, e2]
    simpa using this)).mono ?_
  rintro e w' ⟨rfl, rfl⟩
  have hw : (w.setCell ⟨β, 0, none⟩ (.pointer (some ⟨β, 0, none⟩))).heap[β]? = some (.cells (c.setIfInBounds 0 (.pointer (some ⟨β, 0, none⟩))) 83 fr) := by
    simp [World.setCell, Array.getElem?_modify, e2]
  have ho : ∀ b, b ≠ β → (w.setCell ⟨β, 0, none⟩ (.pointer (some ⟨β, 0, none⟩))).heap[b]? = w.heap[b]? := fun b hb => by
    simp [World.setCell, Array.getElem?_modify, Ne.symm hb]
  have lv : ∀ k, live [(0, HC.box 83 [.ref 0 0, .nils])] k → k = 0 := fun k hk => by
    unfold live at hk
    by_cases e : k = 0
    · exact e
    · simp [hget, e] at hk
  have l0 : live [(0, HC.box 83 [.nilp, .nils])] 0 := trivial
  refine ⟨_, Γ, rfl, ⟨rfl, rfl, rfl, by simp [World.setCell], fun b hb hM => ho b fun e => hM ⟨0, l0, by rw [e1, e]; rfl⟩⟩, .tup [] #[] rfl (fun i x h => by simp at h), fun k => ?_, fun k k' b l l' _ _ => (lv k l).trans (lv k' l').symm, fun b ⟨k, l, hk⟩ => .inr ⟨0, l0, by rw [← lv k l]; exact hk⟩, fun _ _ _ _ => rfl⟩
  unfold HR
  by_cases e : k = 0
  · subst e
    refine ⟨β, _, fr, e1, hw, by simp [e3'], by simpa using e4, fun j y hy => ?_⟩
    match j, hy with
    | 0, hy =>
      cases hy
      have : (c.setIfInBounds 0 (Value.pointer (some ⟨β, 0, none⟩))).getD 0 undef = .pointer (some ⟨β, 0, none⟩) := by
        simp [Array.getD_eq_getD_getElem?, e3']
      rw [this]
      exact .ref 0 0 _ rfl (by simp [hget]) fun q cs _ => ⟨β, e1, rfl⟩
    | 1, hy =>
      cases hy
      have : (c.setIfInBounds 0 (Value.pointer (some ⟨β, 0, none⟩))).getD 1 undef = c.getD 1 undef := by
        simp [Array.getD_eq_getD_getElem?, e3']
      rw [this, c1]
      exact .data .nils
    | j + 2, hy => simp at hy
  · simp [hget, e]
/-- A builder that holds bytes, as it is handed over. -/
def blH (t : ByteArray) : Hp := [(0, .box 83 [.ref 0 0, .row 1 t.size]), (1, .row ⟨1, 5⟩ ((bytesOf t).map (.int .u8)))]
theorem Builder_Write0 (s : ByteArray) (h0 : ¬ s.size = 0) (hs : s.size ≤ 1000000000000) : FnE Try.prog 72 [.ref 0 0, .str s] [(0, .box 83 [.nilp, .nils])] (fun r m => r = .tup [.int .i64 s.size, .raw .nilIface] ∧ m = [(0, .box 83 [.ref 0 0, .row 64 s.size]), (64, .row ⟨1, 5⟩ ((bytesOf s).map (.int .u8)))]) := by
  refine fn_e tok (n := 19) (rs := [.tmp 4, .tmp 5]) Try.func72 (by decide) rfl rfl rfl rfl (low_of rfl) ?_
  (try simp (maxSteps := 1000000) (disch := first | omega | (simp only [LN, numOk, verOk, bytesOf_length] <;> omega) | exact Ck.mk rfl) only [VC, T, Nat.reduceMul, Nat.reduceAdd, Nat.reduceSub, Nat.reduceLT, Nat.reduceEqDiff, Nat.reduceLeDiff, Nat.reduceBEq, reduceCtorEq, Int.reduceToNat, ↓reduceIte, bytesOf_length])
  repeat' (first
    | (refine br_go (fun e f => ?_) (fun e f => ?_) <;> (try simp only [BB] at f) <;> (try simp only [numOk, verOk] at f) <;> (try simp (maxSteps := 1000000) (disch := first | omega | (simp only [LN, numOk, verOk, bytesOf_length] <;> omega) | exact Ck.mk rfl) only [e, VC, T, Nat.reduceMul, Nat.reduceAdd, Nat.reduceSub, Nat.reduceLT, Nat.reduceEqDiff, Nat.reduceLeDiff, Nat.reduceBEq, reduceCtorEq, Int.reduceToNat, ↓reduceIte, bytesOf_length]) <;> (try clear e))
    | (refine pick_go (fun e f => ?_) (fun e f => ?_) <;> (try simp only [BB] at f) <;> (try simp only [numOk, verOk] at f) <;> (try simp (maxSteps := 1000000) (disch := first | omega | (simp only [LN, numOk, verOk, bytesOf_length] <;> omega) | exact Ck.mk rfl) only [e, VC, T, Nat.reduceMul, Nat.reduceAdd, Nat.reduceSub, Nat.reduceLT, Nat.reduceEqDiff, Nat.reduceLeDiff, Nat.reduceBEq, reduceCtorEq, Int.reduceToNat, ↓reduceIte, bytesOf_length]) <;> (try clear e))
    | ((first | refine call_hx [0] [] (copy_fresh) (by decide) rfl rfl ?_); (try simp (maxSteps := 1000000) (disch := first | omega | (simp only [LN, numOk, verOk, bytesOf_length] <;> omega) | exact Ck.mk rfl) only [VC, T, Nat.reduceMul, Nat.reduceAdd, Nat.reduceSub, Nat.reduceLT, Nat.reduceEqDiff, Nat.reduceLeDiff, Nat.reduceBEq, reduceCtorEq, Int.reduceToNat, ↓reduceIte, bytesOf_length])))
  exact fin_t [some 960] (⟨rfl, rfl⟩) rfl (by simp [RV, RV2, RVl, RV1, tau, tget, hget, data1, oneOf]) (by simp [RH, RVl, RV1, tau, hget, data1]) (by simp [Taus, hget])
theorem Builder_Write (t s : ByteArray) (ht : t.size ≤ 1000000000000) (hs : s.size ≤ 1000000000000) : FnE Try.prog 72 [.ref 0 0, .str s] (blH t) (fun r m => r = .tup [.int .i64 s.size, .raw .nilIface] ∧ m = blH (t ++ s)) := by
  unfold blH
  refine fn_e tok (n := 19) (rs := [.tmp 4, .tmp 5]) Try.func72 (by decide) rfl rfl rfl rfl (low_of rfl) ?_
  (try simp (maxSteps := 1000000) (disch := first | omega | (simp only [LN, numOk, verOk, bytesOf_length] <;> omega) | exact Ck.mk rfl) only [VC, T, Nat.reduceMul, Nat.reduceAdd, Nat.reduceSub, Nat.reduceLT, Nat.reduceEqDiff, Nat.reduceLeDiff, Nat.reduceBEq, reduceCtorEq, Int.reduceToNat, ↓reduceIte, bytesOf_length])
  repeat' (first
    | (refine br_go (fun e f => ?_) (fun e f => ?_) <;> (try simp only [BB] at f) <;> (try simp only [numOk, verOk] at f) <;> (try simp (maxSteps := 1000000) (disch := first | omega | (simp only [LN, numOk, verOk, bytesOf_length] <;> omega) | exact Ck.mk rfl) only [e, VC, T, Nat.reduceMul, Nat.reduceAdd, Nat.reduceSub, Nat.reduceLT, Nat.reduceEqDiff, Nat.reduceLeDiff, Nat.reduceBEq, reduceCtorEq, Int.reduceToNat, ↓reduceIte, bytesOf_length]) <;> (try clear e))
    | (refine pick_go (fun e f => ?_) (fun e f => ?_) <;> (try simp only [BB] at f) <;> (try simp only [numOk, verOk] at f) <;> (try simp (maxSteps := 1000000) (disch := first | omega | (simp only [LN, numOk, verOk, bytesOf_length] <;> omega) | exact Ck.mk rfl) only [e, VC, T, Nat.reduceMul, Nat.reduceAdd, Nat.reduceSub, Nat.reduceLT, Nat.reduceEqDiff, Nat.reduceLeDiff, Nat.reduceBEq, reduceCtorEq, Int.reduceToNat, ↓reduceIte, bytesOf_length]) <;> (try clear e))
    | ((first | refine call_hx [0, 1] [] (copy_used _ _ rfl) (by decide) rfl rfl ?_); (try simp (maxSteps := 1000000) (disch := first | omega | (simp only [LN, numOk, verOk, bytesOf_length] <;> omega) | exact Ck.mk rfl) only [VC, T, Nat.reduceMul, Nat.reduceAdd, Nat.reduceSub, Nat.reduceLT, Nat.reduceEqDiff, Nat.reduceLeDiff, Nat.reduceBEq, reduceCtorEq, Int.reduceToNat, ↓reduceIte, bytesOf_length])))
  exact fin_t [] (⟨rfl, rfl⟩) rfl (by simp [RV, RV2, RVl, RV1, tau, tget, hget, data1, oneOf, bytesOf_append]) (by simp [RH, RVl, RV1, tau, hget, data1, bytesOf_append]) (by simp [Taus, hget, bytesOf_append])
/-- What stands in a builder is told as a text; its memory is read only from then on. -/
theorem Builder_String (t : ByteArray) (h0 : ¬ t.size = 0) (h1 : t.size ≤ 1000000000000) : Fn Try.prog 76 [.ref 0 0] (blH t) (.str t) [(0, .box 83 [.ref 0 0, .far ((bytesOf t).map (.int .u8))])] := by
  refine ⟨str_ent, fun w V Γ vs hV hs hargs hhr hd => ?_⟩
  obtain ⟨β, c, fr, e1, e2, e3, e4, e5⟩ := hhr 0
  obtain ⟨_, hrow⟩ := hhr 1
  obtain ⟨β', g1, g2⟩ := ref_val (hargs 0 _ rfl) rfl
  rw [e1] at g1
  cases g1
  have e3' : c.size = 2 := e3
  have hlen : ((bytesOf t).map (PV.int .u8)).length = t.size := by rw [List.length_map, bytesOf_length]
  rcases hrow with ⟨hn, _⟩ | ⟨g, o, cap, cur, e, frg, q1, q2, q3, q4, q5, q6, q7, q8⟩
  · exfalso; rw [hn] at hlen; exact h0 hlen.symm
  obtain ⟨rfl, rfl⟩ : e = 5 ∧ o = 0 := by
    rcases q3 with q3 | q3
    · exact absurd q3 (by decide)
    · exact q3
  rw [hlen] at q1 q4
  have hls : t.data.toList.length = t.size := Array.length_toList
  obtain ⟨β2, g3, g4⟩ := ref_val (e5 0 _ rfl) rfl
  rw [e1] at g3
  cases g3
  have g5 : c.getD 1 undef = .slice (some ⟨g, 0, none⟩) t.size cap := by
    rw [row_val (e5 1 _ rfl) rfl hlen.symm, q1]
  have hc : c = #[.pointer (some ⟨β, 0, none⟩), .slice (some ⟨g, 0, none⟩) t.size cap] := by
    apply Array.ext
    · exact e3'
    · intro i hi _
      have hi2 : i < 2 := by omega
      have hx : c.getD i undef = c[i] := by simp [Array.getD, hi]
      obtain rfl | rfl : i = 0 ∨ i = 1 := by omega
      · rw [← hx, g4]; rfl
      · rw [← hx, g5]; rfl
  subst hc
  have hgβ : g ≠ β := fun e => by
    have := hd 1 0 β (by trivial) (by trivial) (by rw [q1, e]; rfl) (by rw [e1]; rfl)
    cases this
  have hby : ∀ (j : Nat) (x : UInt8), t.data.toList[j]? = some x → (bytesOf t)[j]? = some (x.toNat : Int) := fun j x hx => by
    unfold bytesOf
    rw [List.getElem?_map, hx]; rfl
  have hcell : ∀ (j : Nat) (x : UInt8), t.data.toList[j]? = some x → cur[j]? = some (Value.int .u8 x.toNat) := fun j x hx => by
    have hj : j < t.size := by rw [← hls]; exact (List.getElem?_eq_some_iff.1 hx).1
    have h8 := q8 j (.int .u8 x.toNat) 0 (.int .u8 x.toNat) (by rw [List.getElem?_map, hby j x hx]; rfl) rfl
    have h9 : (0 : Nat) + j * 1 + 0 = j := by omega
    change DR w _ _ (cur.getD (0 + j * 1 + 0) undef) at h8
    rw [h9] at h8
    have hjc : j < cur.size := by have : 0 + cap * 1 ≤ cur.size := q5; omega
    rw [Array.getElem?_eq_getElem hjc]
    have h10 : cur.getD j undef = cur[j] := by simp [Array.getD, hjc]
    rw [← h10]
    generalize cur.getD j undef = u at h8
    cases h8; rfl
  have q5' : 0 + cap * 1 ≤ cur.size := q5
  rw [vs_one hs, g2]
  have hne : t.data.toList ≠ [] := fun e => h0 (by rw [← hls, e]; rfl)
  refine (bl_String β g cap (.pointer (some ⟨β, 0, none⟩)) cur fr frg t.data.toList w hne (by rw [hls]; exact e2) q2 (by omega) (by omega) (by omega) hcell).mono ?_
  rintro e w' ⟨rfl, rfl⟩
  have hw : ∀ b, b ≠ g → (w.drew.freeze ⟨g, 0, none⟩ t.data.toList.length).heap[b]? = w.heap[b]? := fun b hb => by
    unfold World.freeze
    rw [if_neg (by omega)]
    show (w.heap.modify g _)[b]? = _
    rw [Array.getElem?_modify, if_neg (Ne.symm hb)]
  obtain ⟨fr', hg'⟩ : ∃ fr', (w.drew.freeze ⟨g, 0, none⟩ t.data.toList.length).heap[g]? = some (.cells cur 5 fr') := by
    unfold World.freeze
    rw [if_neg (by omega)]
    refine ⟨if (frg.1 == frg.2) = true then (0, 0 + t.data.toList.length) else (min frg.1 0, max frg.2 (0 + t.data.toList.length)), ?_⟩
    show (w.heap.modify g _)[g]? = _
    rw [Array.getElem?_modify, if_pos rfl, q2]; rfl
  have hsz : (w.drew.freeze ⟨g, 0, none⟩ t.data.toList.length).heap.size = w.heap.size := by
    unfold World.freeze
    rw [if_neg (by omega)]
    show (w.heap.modify g _).size = _
    rw [Array.size_modify]
  have l1 : live (blH t) 1 := trivial
  have l0 : live (blH t) 0 := trivial
  have lv : ∀ k, live [(0, HC.box 83 [.ref 0 0, .far ((bytesOf t).map (.int .u8))])] k → k = 0 := fun k hk => by
    unfold live at hk
    by_cases e : k = 0
    · exact e
    · simp [hget, e] at hk
  have hVg : ¬ V g := fun h => (hV g h).2 ⟨1, l1, by rw [q1]; rfl⟩
  refine ⟨_, Γ, rfl, ⟨?_, ?_, ?_, Nat.le_of_eq hsz.symm, fun b hb hM => hw b fun e => hM ⟨1, l1, by rw [q1, e]; rfl⟩⟩, .data (.str _), fun k => ?_, fun k k' b l l' _ _ => (lv k l).trans (lv k' l').symm, fun b ⟨k, l, hk⟩ => .inr ⟨0, l0, by rw [← lv k l]; exact hk⟩, fun _ _ _ _ => rfl⟩
  · unfold World.freeze; rw [if_neg (by omega)]; rfl
  · unfold World.freeze; rw [if_neg (by omega)]; rfl
  · unfold World.freeze; rw [if_neg (by omega)]; rfl
  · unfold HR
    by_cases e : k = 0
    · subst e
      refine ⟨β, _, fr, e1, (hw β (Ne.symm hgβ)).trans e2, rfl, e4, fun j y hy => ?_⟩
      match j, hy with
      | 0, hy => cases hy; exact .ref 0 0 _ rfl (by simp [hget]) fun q cs _ => ⟨β, e1, rfl⟩
      | 1, hy =>
        cases hy
        have key := DR.far (w := w.drew.freeze ⟨g, 0, none⟩ t.data.toList.length) (A := Av V Γ [(0, HC.box 83 [.ref 0 0, .far ((bytesOf t).map (.int .u8))])]) ((bytesOf t).map (.int .u8)) g 0 cap 1 cur 5 fr' (fun h => by
          rcases h with h | ⟨k, l, hk⟩
          · exact hVg h
          · rw [lv k l, e1] at hk
            cases hk; exact hgβ rfl) hg' (by rw [hlen]; exact q4) (fun i x hx => by
              obtain ⟨n, _, rfl⟩ := Option.map_eq_some_iff.1 (List.getElem?_map ▸ hx); rfl)
          (fun i x j y hx hy => by
            have hi : i < t.size := by rw [← hlen]; exact (List.getElem?_eq_some_iff.1 hx).1
            obtain ⟨n, _, rfl⟩ := Option.map_eq_some_iff.1 (List.getElem?_map ▸ hx)
            have hj : j < 1 := (List.getElem?_eq_some_iff.1 hy).1
            omega)
          (fun i x j y hx hy => by
            have h8 := q8 i x j y hx hy
            obtain ⟨n, _, rfl⟩ := Option.map_eq_some_iff.1 (List.getElem?_map ▸ hx)
            obtain rfl : j = 0 := by have hj : j < 1 := (List.getElem?_eq_some_iff.1 hy).1; omega
            cases hy
            change DR w _ _ (cur.getD (0 + i * 1 + 0) undef) at h8
            generalize cur.getD (0 + i * 1 + 0) undef = u at h8 ⊢
            cases h8; exact .int _ _)
        rw [hlen] at key
        exact .data key
      | j + 2, hy => simp at hy
    · simp [hget, e]
theorem Builder_Len (xs : List PV) : FnE Try.prog 74 [.ref 0 0] [(0, .box 83 [.ref 0 0, .far xs])] (fun r m => r = .int .i64 xs.length ∧ m = [(0, .box 83 [.ref 0 0, .far xs])]) := by
  refine fn_e tok (n := 8) (rs := [.tmp 2]) Try.func74 (by decide) rfl rfl rfl rfl (low_of rfl) ?_
  (try simp (maxSteps := 1000000) (disch := first | omega | (simp only [LN, numOk, verOk] <;> omega) | exact Ck.mk rfl) only [VC, T, Nat.reduceMul, Nat.reduceAdd, Nat.reduceSub, Nat.reduceLT, Nat.reduceEqDiff, Nat.reduceLeDiff, Nat.reduceBEq, reduceCtorEq, Int.reduceToNat, ↓reduceIte])
  repeat' (first
    | (refine br_go (fun e f => ?_) (fun e f => ?_) <;> (try simp only [BB] at f) <;> (try simp only [numOk, verOk] at f) <;> (try simp (maxSteps := 1000000) (disch := first | omega | (simp only [LN, numOk, verOk] <;> omega) | exact Ck.mk rfl) only [e, VC, T, Nat.reduceMul, Nat.reduceAdd, Nat.reduceSub, Nat.reduceLT, Nat.reduceEqDiff, Nat.reduceLeDiff, Nat.reduceBEq, reduceCtorEq, Int.reduceToNat, ↓reduceIte]) <;> (try clear e))
    | (refine pick_go (fun e f => ?_) (fun e f => ?_) <;> (try simp only [BB] at f) <;> (try simp only [numOk, verOk] at f) <;> (try simp (maxSteps := 1000000) (disch := first | omega | (simp only [LN, numOk, verOk] <;> omega) | exact Ck.mk rfl) only [e, VC, T, Nat.reduceMul, Nat.reduceAdd, Nat.reduceSub, Nat.reduceLT, Nat.reduceEqDiff, Nat.reduceLeDiff, Nat.reduceBEq, reduceCtorEq, Int.reduceToNat, ↓reduceIte]) <;> (try clear e)))
  exact fin_t [] (⟨rfl, rfl⟩) rfl (by simp [RV, RV2, RVl, RV1, tau, tget, hget, data1, oneOf]) (by simp [RH, RVl, RV1, tau, hget, data1]) (by simp [Taus, hget])
theorem Builder_Len1 (t : ByteArray) (ht : t.size ≤ 1000000000000) : FnE Try.prog 74 [.ref 0 0] (blH t) (fun r m => r = .int .i64 t.size ∧ m = blH t) := by
  unfold blH
  refine fn_e tok (n := 8) (rs := [.tmp 2]) Try.func74 (by decide) rfl rfl rfl rfl (low_of rfl) ?_
  (try simp (maxSteps := 1000000) (disch := first | omega | (simp only [LN, numOk, verOk, bytesOf_length] <;> omega) | exact Ck.mk rfl) only [VC, T, Nat.reduceMul, Nat.reduceAdd, Nat.reduceSub, Nat.reduceLT, Nat.reduceEqDiff, Nat.reduceLeDiff, Nat.reduceBEq, reduceCtorEq, Int.reduceToNat, ↓reduceIte, bytesOf_length])
  repeat' (first
    | (refine br_go (fun e f => ?_) (fun e f => ?_) <;> (try simp only [BB] at f) <;> (try simp only [numOk, verOk] at f) <;> (try simp (maxSteps := 1000000) (disch := first | omega | (simp only [LN, numOk, verOk, bytesOf_length] <;> omega) | exact Ck.mk rfl) only [e, VC, T, Nat.reduceMul, Nat.reduceAdd, Nat.reduceSub, Nat.reduceLT, Nat.reduceEqDiff, Nat.reduceLeDiff, Nat.reduceBEq, reduceCtorEq, Int.reduceToNat, ↓reduceIte, bytesOf_length]) <;> (try clear e))
    | (refine pick_go (fun e f => ?_) (fun e f => ?_) <;> (try simp only [BB] at f) <;> (try simp only [numOk, verOk] at f) <;> (try simp (maxSteps := 1000000) (disch := first | omega | (simp only [LN, numOk, verOk, bytesOf_length] <;> omega) | exact Ck.mk rfl) only [e, VC, T, Nat.reduceMul, Nat.reduceAdd, Nat.reduceSub, Nat.reduceLT, Nat.reduceEqDiff, Nat.reduceLeDiff, Nat.reduceBEq, reduceCtorEq, Int.reduceToNat, ↓reduceIte, bytesOf_length]) <;> (try clear e)))
  exact fin_t [] (⟨rfl, rfl⟩) rfl (by simp [RV, RV2, RVl, RV1, tau, tget, hget, data1, oneOf]) (by simp [RH, RVl, RV1, tau, hget, data1]) (by simp [Taus, hget])
end Go.Pv

/- Plain mathematics, fifth part: texts back from scans, scans of frames, sealed files. No program in it. -/
namespace Go.Mth
open Go.RowKit
set_option linter.unusedVariables false
set_option linter.unusedSimpArgs false

/-! ### frames -/
theorem frGo_snoc (v b : Int) : ∀ (l : List ByteArray) (t : ByteArray) (os : List Int) (r : ByteArray), frGo v b t os (l ++ [r]) = ((frGo v b t os l).1 ++ frameT v (b + (frGo v b t os l).2.length) r, (frGo v b t os l).2 ++ [((frGo v b t os l).1.size : Int)])
  | [], t, os, r => rfl
  | x :: l, t, os, r => by
    rw [List.cons_append]
    show frGo v b (t ++ frameT v (b + os.length) x) (os ++ [(t.size : Int)]) (l ++ [r]) = _
    rw [frGo_snoc v b l]; rfl
theorem frGo_pre (v b : Int) : ∀ (l : List ByteArray) (t : ByteArray) (os : List Int), ∃ z o, (frGo v b t os l).1 = t ++ z ∧ (frGo v b t os l).2 = os ++ o
  | [], t, os => ⟨⟨#[]⟩, [], (ByteArray.append_empty).symm, (List.append_nil _).symm⟩
  | x :: l, t, os => by
    obtain ⟨z, o, h1, h2⟩ := frGo_pre v b l (t ++ frameT v (b + os.length) x) (os ++ [(t.size : Int)])
    exact ⟨frameT v (b + os.length) x ++ z, [(t.size : Int)] ++ o, by show (frGo v b (t ++ frameT v (b + os.length) x) (os ++ [(t.size : Int)]) l).1 = _; rw [h1, ByteArray.append_assoc], by show (frGo v b (t ++ frameT v (b + os.length) x) (os ++ [(t.size : Int)]) l).2 = _; rw [h2, List.append_assoc]⟩
theorem extract_hasAt (b : ByteArray) (a : Int) (t : ByteArray) (h : hasAt b a t = true) : b.extract 0 (a.toNat + t.size) = b.extract 0 a.toNat ++ t := by
  obtain ⟨h0, h1, h2⟩ := (hasAt_iff _ _ _).1 h
  apply bytesOf_inj
  have e := congrArg bytesOf h2
  rw [bytesOf_extract] at e
  rw [bytesOf_append, bytesOf_extract, bytesOf_extract, ← e, List.drop_zero, List.drop_zero]
  have k := (List.take_append_drop a.toNat ((bytesOf b).take (a.toNat + t.size))).symm
  rw [List.take_take, Nat.min_eq_left (by omega)] at k
  exact k

/-! ### texts back from scans -/
theorem scanGo_text (v base : Int) (hd b : ByteArray) : ∀ (d : Nat) (rs : List ByteArray) (os : List Int) (e : Int), 0 ≤ e → rs.length = os.length → frGo v base hd [] rs = (b.extract 0 e.toNat, os) → e ≤ b.size →
    frGo v base hd [] (scanGo v base b d rs os e).1 = (b.extract 0 (scanGo v base b d rs os e).2.2.1.toNat, (scanGo v base b d rs os e).2.1)
  | 0, rs, os, e, _, _, h, _ => h
  | d + 1, rs, os, e, h0, hl, h, he => by
    unfold scanGo
    split
    · exact h
    · split
      · rename_i hf
        obtain ⟨_, _, k0, k1, k2, k3, k4, k5⟩ := rFrame_ok _ _ _ _ hf
        refine scanGo_text v base hd b d _ _ _ (by omega) (by simp [hl]) ?_ k5
        rw [frGo_snoc, h]
        simp only
        rw [← hl, k2, Int.toNat_add k0 (by omega), Int.toNat_natCast, extract_hasAt b e _ k3]
        congr 2
        rw [ByteArray.size_extract]
        have : min e.toNat b.size - 0 = e.toNat := by omega
        rw [this]
        simp [Int.toNat_of_nonneg h0]
      · exact h
theorem scan_text (b : ByteArray) (h : (scan b).1 = true) : frGo (scan b).2.1 (scan b).2.2.2.1 (headT (scan b).2.1 (scan b).2.2.1 (scan b).2.2.2.1 (scan b).2.2.2.2.1) [] (scan b).2.2.2.2.2.1 = (b.extract 0 (scan b).2.2.2.2.2.2.2.1.toNat, (scan b).2.2.2.2.2.2.1) := by
  unfold scan at h ⊢
  split at h
  · rename_i h1
    rw [if_pos h1]
    obtain ⟨k1, k2, k3⟩ := rHead_ok b h1
    exact scanGo_text _ _ _ b _ [] [] 24 (by decide) rfl (by rw [k3]; rfl) (by omega)
  · cases h

/-! ### scans of frames -/
theorem var_255 : ∀ n : Fin 61, varT (n.val : Int) ≠ ⟨#[255]⟩ ∧ (varT (n.val : Int)).size = 1 := by decide +kernel
theorem noMark (v p : Int) (r x y : ByteArray) (hv : verOk v) (hp : numOk p) (hr : r.size ≤ 60) : markAt v p (x ++ frameT v p r ++ y) x.size = false := by
  rw [Bool.eq_false_iff]
  intro h
  unfold markAt at h
  rw [Bool.and_eq_true] at h
  have h2 := h.2
  unfold frameT at h2
  rw [if_pos ⟨hv, hp, hr⟩] at h2
  unfold endMark at h2
  rw [if_pos (⟨hv, hp⟩ : verOk v ∧ numOk p)] at h2
  by_cases h1 : v = 1
  · rw [if_pos h1, if_pos h1] at h2
    obtain ⟨k1, k2⟩ := var_255 ⟨r.size, by omega⟩
    refine k1 (hasAt_head (varT r.size) (r ++ fixT (sumOf r) 4 ++ y) ⟨#[255]⟩ 1 k2 rfl x ⟨#[255, 255, 255, 15]⟩ x.size rfl ?_)
    have e1 : (⟨#[255]⟩ : ByteArray) ++ ⟨#[255, 255, 255, 15]⟩ = ⟨#[255, 255, 255, 255, 15]⟩ := rfl
    rw [e1]
    simpa only [ByteArray.append_assoc] using h2
  · rw [if_neg h1, if_neg h1] at h2
    have e := hasAt_head (fixT r.size 4) (fixT (sumOf (fixT p 8 ++ fixT r.size 4)) 4 ++ r ++ fixT (sumOf r) 4 ++ y) (fixT 4294967295 4) 4 (fixT4_size _ (by omega) (by omega)) (fixT4_size _ (by decide) (by decide)) x (fixT (sumOf (fixT p 8 ++ fixT 4294967295 4)) 4) x.size rfl (by
      unfold sizedT at h2
      simpa only [ByteArray.append_assoc] using h2)
    have := fixT_inj4 r.size 4294967295 (by omega) (by omega) (by decide) (by decide) e
    omega
theorem scanGo_frames (v base : Int) (hv : verOk v) (y : ByteArray) : ∀ (l : List ByteArray) (t : ByteArray) (os : List Int) (rs : List ByteArray) (d : Nat), rs.length = os.length → 0 ≤ base → base + (os.length + l.length) ≤ 1000000000 → (∀ r ∈ l, r.size ≤ 60) →
    scanGo v base ((frGo v base t os l).1 ++ y) (d + l.length) rs os t.size = scanGo v base ((frGo v base t os l).1 ++ y) d (rs ++ l) (frGo v base t os l).2 ((frGo v base t os l).1.size : Int)
  | [], t, os, rs, d, _, _, _, _ => by simp [frGo]
  | r :: l, t, os, rs, d, hl, hb, hn, hr => by
    have hp : numOk (base + (os.length : Int)) := ⟨by omega, by rw [List.length_cons] at hn; omega⟩
    obtain ⟨z, o, h1, h2⟩ := frGo_pre v base l (t ++ frameT v (base + os.length) r) (os ++ [(t.size : Int)])
    have e : frGo v base t os (r :: l) = frGo v base (t ++ frameT v (base + os.length) r) (os ++ [(t.size : Int)]) l := rfl
    rw [e]
    have hb1 : (frGo v base (t ++ frameT v (base + os.length) r) (os ++ [(t.size : Int)]) l).1 ++ y = t ++ frameT v (base + os.length) r ++ (z ++ y) := by rw [h1, ByteArray.append_assoc]
    have ih := scanGo_frames v base hv y l (t ++ frameT v (base + os.length) r) (os ++ [(t.size : Int)]) (rs ++ [r]) d (by simp [hl]) hb (by rw [List.length_append, List.length_singleton]; rw [List.length_cons] at hn; omega) (fun x hx => hr x (List.mem_cons_of_mem _ hx))
    rw [show d + (r :: l).length = (d + l.length) + 1 by rw [List.length_cons]; omega]
    have hm := noMark v (base + os.length) r t (z ++ y) hv hp (hr r List.mem_cons_self)
    have hf := rFrame_mid v (base + os.length) r t (z ++ y) hv hp (hr r List.mem_cons_self)
    rw [scanGo, hl, hb1, hm, if_neg (by decide), hf, if_pos rfl]
    rw [hb1] at ih
    rw [ByteArray.size_append, Int.natCast_add] at ih
    rw [ih, List.append_assoc]; rfl
theorem scan_frames (v s b l : Int) (rs : List ByteArray) (y : ByteArray) (hk : headOk v s b l) (hn : b + rs.length ≤ 1000000000) (hr : ∀ r ∈ rs, r.size ≤ 60) :
    ∃ d, scan ((frGo v b (headT v s b l) [] rs).1 ++ y) = (true, v, s, b, l, scanGo v b ((frGo v b (headT v s b l) [] rs).1 ++ y) (d + 1) rs (frGo v b (headT v s b l) [] rs).2 ((frGo v b (headT v s b l) [] rs).1.size : Int)) := by
  obtain ⟨z, o, h1, h2⟩ := frGo_pre v b rs (headT v s b l) []
  have hsz := headT_size v s b l hk
  have hle : rs.length ≤ z.size := by
    have : ∀ (l : List ByteArray) (t : ByteArray) (os : List Int), b + (os.length + l.length) ≤ 1000000000 → (∀ r ∈ l, r.size ≤ 60) → t.size + l.length ≤ (frGo v b t os l).1.size := fun l => by
      induction l with
      | nil => intro t os _ _; exact Nat.le_refl _
      | cons r l ih =>
        intro t os h3 h4
        have h5 := ih (t ++ frameT v (b + os.length) r) (os ++ [(t.size : Int)]) (by rw [List.length_append, List.length_singleton]; rw [List.length_cons] at h3; omega) (fun x hx => h4 x (List.mem_cons_of_mem _ hx))
        have h6 := frameT_pos v (b + os.length) r hk.1 ⟨by have := hk.2.2.1.1; omega, by rw [List.length_cons] at h3; omega⟩ (h4 r List.mem_cons_self)
        rw [ByteArray.size_append] at h5
        show _ ≤ (frGo v b (t ++ frameT v (b + os.length) r) (os ++ [(t.size : Int)]) l).1.size
        rw [List.length_cons]
        omega
    have h3 := this rs (headT v s b l) [] (by simp only [List.length_nil]; omega) hr
    rw [h1, ByteArray.size_append] at h3
    omega
  have hmk := rHead_mk v s b l hk (z ++ y)
  refine ⟨((frGo v b (headT v s b l) [] rs).1 ++ y).size - rs.length, ?_⟩
  have e : (frGo v b (headT v s b l) [] rs).1 ++ y = headT v s b l ++ (z ++ y) := by rw [h1, ByteArray.append_assoc]
  unfold scan
  rw [e, hmk, if_pos rfl, ← e]
  dsimp only
  have ht := scanGo_frames v b hk.1 y rs (headT v s b l) [] [] (((frGo v b (headT v s b l) [] rs).1 ++ y).size - rs.length + 1) rfl hk.2.2.1.1 (by simp only [List.length_nil]; omega) hr
  have h24 : (((headT v s b l).size : Nat) : Int) = 24 := by rw [hsz]; rfl
  rw [h24] at ht
  have hsz2 : rs.length ≤ ((frGo v b (headT v s b l) [] rs).1 ++ y).size := by rw [h1, ByteArray.size_append, ByteArray.size_append]; omega
  rw [show ((frGo v b (headT v s b l) [] rs).1 ++ y).size - rs.length + 1 + rs.length = ((frGo v b (headT v s b l) [] rs).1 ++ y).size + 1 by omega] at ht
  rw [ht]; rfl
/-- A mark stands behind the frames. -/
theorem scan_marked (v s b l : Int) (rs : List ByteArray) (y : ByteArray) (hk : headOk v s b l) (hn : b + rs.length ≤ 1000000000) (hr : ∀ r ∈ rs, r.size ≤ 60) (x : ByteArray) (hy : y = endMark v (b + rs.length) ++ x) :
    scan ((frGo v b (headT v s b l) [] rs).1 ++ y) = (true, v, s, b, l, rs, (frGo v b (headT v s b l) [] rs).2, ((frGo v b (headT v s b l) [] rs).1.size : Int), true) := by
  obtain ⟨d, h⟩ := scan_frames v s b l rs y hk hn hr
  rw [h]
  have hp : numOk (b + (rs.length : Int)) := ⟨by have := hk.2.2.1.1; omega, hn⟩
  have hm : markAt v (b + rs.length) ((frGo v b (headT v s b l) [] rs).1 ++ y) ((frGo v b (headT v s b l) [] rs).1.size : Int) = true := by
    unfold markAt
    have := endMark_ge v (b + rs.length) hk.1 hp
    rw [Bool.and_eq_true]
    refine ⟨decide_eq_true (by omega), ?_⟩
    rw [hy, ← ByteArray.append_assoc]
    exact hasAt_mid _ _ _
  rw [scanGo, hm, if_pos rfl]

/-! ### feet are there -/
def okO : Int → List Int → Prop
  | _, [] => True
  | a, x :: l => a ≤ x ∧ x ≤ 1000000000 ∧ okO x l
def okP : Int → Int → List (Int × Int) → Prop
  | _, _, [] => True
  | c, a, p :: l => c ≤ p.1 ∧ p.1 ≤ 1000000000 ∧ a ≤ p.2 ∧ p.2 ≤ 1000000000 ∧ okP p.1 p.2 l
theorem okO_le {a a' : Int} (h : a' ≤ a) : ∀ {l : List Int}, okO a l → okO a' l
  | [], _ => trivial
  | x :: l, ⟨h1, h2, h3⟩ => ⟨by omega, h2, h3⟩
theorem okP_le {c c' a a' : Int} (h : c' ≤ c) (h' : a' ≤ a) : ∀ {l : List (Int × Int)}, okP c a l → okP c' a' l
  | [], _ => trivial
  | x :: l, ⟨h1, h2, h3, h4, h5⟩ => ⟨by omega, h2, by omega, h4, h5⟩
theorem okP_cons {c a : Int} {p : Int × Int} {l : List (Int × Int)} (h1 : c ≤ p.1) (h2 : p.1 ≤ 1000000000) (h3 : a ≤ p.2) (h4 : p.2 ≤ 1000000000) (h5 : okP p.1 p.2 l) : okP c a (p :: l) := ⟨h1, h2, h3, h4, h5⟩
theorem okO_out {a x : Int} {l : List Int} (h : okO a (x :: l)) : a ≤ x ∧ x ≤ 1000000000 ∧ okO x l := h
theorem plc_ok (s : Int) (l : List Int) : ∀ (i : Nat) (a : Int), okO a l → (i : Int) + (l.length : Int) ≤ 1000000000 → okP i a (plc (fun a b => (a, b)) s l i) := by
  induction l with
  | nil => intro i a _ _; exact trivial
  | cons x l ih =>
    intro i a h hi
    obtain ⟨h1, h2, h3⟩ := okO_out h
    rw [List.length_cons] at hi
    have ih := ih (i + 1) x h3 (by omega)
    unfold plc
    split
    · exact okP_cons (Int.le_refl _) (by simp only; omega) h1 h2 (okP_le (by simp only; omega) (Int.le_refl _) ih)
    · exact okP_le (by omega) h1 ih
theorem upT_pos (a b : Int) (h : b ≤ a) (h2 : a - b ≤ 1000000000) : 0 < (upT a b).size := by
  unfold upT
  rw [if_pos ⟨h, h2⟩]
  exact varT_pos _ (by omega) h2
theorem plGo_pos : ∀ (l : List (Int × Int)) (o : ByteArray) (c a : Int), 0 ≤ c → 0 ≤ a → okP c a l → 0 < o.size → 0 < (plGo o c a l).size
  | [], o, c, a, _, _, _, h => h
  | p :: l, o, c, a, hc, ha, ⟨h1, h2, h3, h4, h5⟩, h => by
    have k1 := upT_pos p.1 c h1 (by omega)
    have k2 := upT_pos p.2 a h3 (by omega)
    unfold plGo
    rw [if_neg (by omega)]
    exact plGo_pos l _ _ _ (by omega) (by omega) h5 (by rw [ByteArray.size_append, ByteArray.size_append]; omega)
theorem placesT_pos (s : Int) (os : List Int) (h : okO 0 os) (hl : os.length ≤ 1000000000) : 0 < (placesT (placesP s os)).size := by
  unfold placesT
  have hle : (placesP s os).length ≤ os.length := placesOf_le _ _ _
  refine plGo_pos _ _ 0 0 (by decide) (by decide) ?_ (varT_pos _ (by omega) (by omega))
  unfold placesP placesOf
  split
  · trivial
  · exact plc_ok s os 0 0 h (by omega)
theorem frGo_ok (v b : Int) : ∀ (l : List ByteArray) (t : ByteArray) (os : List Int), t.size + 84 * l.length ≤ 1000000000 → ∃ o, (frGo v b t os l).2 = os ++ o ∧ okO t.size o
  | [], t, os, _ => ⟨[], (List.append_nil _).symm, trivial⟩
  | r :: l, t, os, h => by
    have hf := frameT_le v (b + os.length) r
    rw [List.length_cons] at h
    obtain ⟨o, h1, h2⟩ := frGo_ok v b l (t ++ frameT v (b + os.length) r) (os ++ [(t.size : Int)]) (by rw [ByteArray.size_append]; omega)
    refine ⟨(t.size : Int) :: o, ?_, Int.le_refl _, by omega, okO_le (by rw [ByteArray.size_append]; omega) h2⟩
    show (frGo v b (t ++ frameT v (b + os.length) r) (os ++ [(t.size : Int)]) l).2 = _
    rw [h1, List.append_assoc]; rfl
theorem trailT_pos (a b c d : Int) (ha : 0 ≤ a ∧ a < 4294967296) (hb : 0 ≤ b ∧ b < 4294967296) (hc : 0 ≤ c ∧ c < 4294967296) (hd : 0 ≤ d ∧ d < 4294967296) : trailT a b c d = fixT a 4 ++ fixT b 4 ++ fixT c 4 ++ fixT d 4 ++ ⟨#[73, 68, 88, 33]⟩ ∧ (trailT a b c d).size = 20 := by
  have h1 := fixT4_size a ha.1 ha.2
  have h2 := fixT4_size b hb.1 hb.2
  have h3 := fixT4_size c hc.1 hc.2
  have h4 := fixT4_size d hd.1 hd.2
  have e : trailT a b c d = fixT a 4 ++ fixT b 4 ++ fixT c 4 ++ fixT d 4 ++ ⟨#[73, 68, 88, 33]⟩ := by
    unfold trailT trailGo
    rw [if_neg (by omega)]
    unfold trailGo
    rw [if_neg (by omega)]
    unfold trailGo
    rw [if_neg (by omega)]
    unfold trailGo
    rw [if_neg (by omega)]
    unfold trailGo
    rw [show (⟨#[]⟩ : ByteArray) ++ fixT a 4 = fixT a 4 from ByteArray.empty_append]
  refine ⟨e, ?_⟩
  rw [e]
  simp only [ByteArray.size_append, h1, h2, h3, h4]
  rfl
theorem foot_ok (v s b l : Int) (os : List Int) (e : Int) (hk : headOk v s b l) (hn : b + os.length ≤ 1000000000) (ho : okO 0 os) (he : 0 ≤ e ∧ e < 4294967296) :
    footT v s b l os e = endMark v (b + os.length) ++ (placesT (placesP s os) ++ trailT e os.length s (sumOf (endMark v (b + os.length) ++ placesT (placesP s os) ++ (trailT e os.length s 0).extract 0 12))) := by
  have hp : numOk (b + (os.length : Int)) := ⟨by have := hk.2.2.1.1; omega, hn⟩
  have h1 := endMark_ge v (b + os.length) hk.1 hp
  have h2 := placesT_pos s os ho (by have := hk.2.2.1.1; omega)
  have h3 := (trailT_pos e os.length s 0 he (by have := hk.2.2.1.1; omega) (by have := hk.2.1; omega) (by decide)).2
  unfold footT
  rw [if_pos hk, if_neg (by omega), ByteArray.append_assoc]
theorem seal_ok (v s b l : Int) (rs : List ByteArray) (h : sealOk v s b l rs) : ∃ x, sealT v s b l rs = (frGo v b (headT v s b l) [] rs).1 ++ (endMark v (b + rs.length) ++ x) ∧ 20 ≤ x.size ∧
    footT v s b l (frGo v b (headT v s b l) [] rs).2 (frGo v b (headT v s b l) [] rs).1.size = endMark v (b + rs.length) ++ x := by
  obtain ⟨hk, hl, hn, hr⟩ := id h
  obtain ⟨h1, h2⟩ := frGo_le v b rs (headT v s b l) []
  have h3 := headT_size v s b l hk
  obtain ⟨o, h4, h5⟩ := frGo_ok v b rs (headT v s b l) [] (by omega)
  rw [List.nil_append] at h4
  rw [List.length_nil, Nat.zero_add] at h2
  have hf := foot_ok v s b l (frGo v b (headT v s b l) [] rs).2 (frGo v b (headT v s b l) [] rs).1.size hk (by rw [h2]; exact hn) (by rw [h4]; exact okO_le (by omega) h5) ⟨by omega, by omega⟩
  have h6 := fun q => (trailT_pos ((frGo v b (headT v s b l) [] rs).1.size : Int) (frGo v b (headT v s b l) [] rs).2.length s (sumOf q) (by omega) (by omega) (by have := hk.2.1; omega) (sumMore_range 0 q)).2
  rw [h2] at hf h6
  refine ⟨_, ?_, ?_, hf⟩
  · unfold sealT
    rw [if_pos h, hf]
  · rw [ByteArray.size_append, h6]
    omega
theorem scan_seal (v s b l : Int) (rs : List ByteArray) (h : sealOk v s b l rs) : scan (sealT v s b l rs) = (true, v, s, b, l, rs, (frGo v b (headT v s b l) [] rs).2, ((frGo v b (headT v s b l) [] rs).1.size : Int), true) := by
  obtain ⟨x, h1, _, _⟩ := seal_ok v s b l rs h
  rw [h1]
  exact scan_marked v s b l rs _ h.1 h.2.2.1 h.2.2.2 x rfl
theorem seal_size (v s b l : Int) (rs : List ByteArray) (h : sealOk v s b l rs) : 49 ≤ (sealT v s b l rs).size := by
  obtain ⟨x, h1, h2, _⟩ := seal_ok v s b l rs h
  obtain ⟨z, o, h3, _⟩ := frGo_pre v b rs (headT v s b l) []
  have h4 := headT_size v s b l h.1
  have h5 := endMark_ge v (b + rs.length) h.1.1 ⟨by have := h.1.2.2.1.1; omega, h.2.2.1⟩
  rw [h1, h3]
  simp only [ByteArray.size_append]
  omega
theorem seal_no (v s b l : Int) (rs : List ByteArray) (h : ¬ sealOk v s b l rs) : sealT v s b l rs = ⟨#[]⟩ := if_neg h
theorem seal_iff (v s b l : Int) (rs : List ByteArray) : (sealT v s b l rs).size = 0 ↔ ¬ sealOk v s b l rs := by
  constructor
  · intro h k; have := seal_size v s b l rs k; omega
  · intro h; rw [seal_no _ _ _ _ _ h]; rfl

/-! ### sealed files read -/
abbrev Sc := Bool × Int × Int × Int × Int × List ByteArray × List Int × Int × Bool
def scSeal (t : Sc) : ByteArray := sealT t.2.1 t.2.2.1 t.2.2.2.1 t.2.2.2.2.1 t.2.2.2.2.2.1
def sealedB (b : ByteArray) : Bool := (scan b).1 && decide (scSeal (scan b) = b)
/-- The head and the records of a sealed file. -/
def rSealed (b : ByteArray) : (Int × Int × Int × Int) × List ByteArray × Bool :=
  if sealedB b = true then (((scan b).2.1, (scan b).2.2.1, (scan b).2.2.2.1, (scan b).2.2.2.2.1), (scan b).2.2.2.2.2.1, true) else ((0, 0, 0, 0), [], false)
theorem sealed_ok (b : ByteArray) (h : sealedB b = true) : (scan b).1 = true ∧ scSeal (scan b) = b ∧ sealOk (scan b).2.1 (scan b).2.2.1 (scan b).2.2.2.1 (scan b).2.2.2.2.1 (scan b).2.2.2.2.2.1 ∧ (scan b).2.2.2.2.2.2.2.2 = true := by
  unfold sealedB at h
  rw [Bool.and_eq_true, decide_eq_true_eq] at h
  obtain ⟨h1, h2⟩ := h
  have h3 := (scan_head b h1).1
  have h4 := (rHead_ok b h3).1
  have hs : sealOk (scan b).2.1 (scan b).2.2.1 (scan b).2.2.2.1 (scan b).2.2.2.2.1 (scan b).2.2.2.2.2.1 := Decidable.byContradiction fun k => by
    have := (seal_iff _ _ _ _ _).2 k
    unfold scSeal at h2
    rw [h2] at this
    omega
  refine ⟨h1, h2, hs, ?_⟩
  have := scan_seal _ _ _ _ _ hs
  unfold scSeal at h2
  rw [h2] at this
  rw [this]
theorem sealed_seal (v s b l : Int) (rs : List ByteArray) (h : sealOk v s b l rs) : sealedB (sealT v s b l rs) = true := by
  unfold sealedB scSeal
  rw [scan_seal v s b l rs h]
  simp
/-- What is known of a scan of a text of n bytes. -/
def ScF (n : Nat) (t : Sc) : Prop :=
  (t.1 = true → headOk t.2.1 t.2.2.1 t.2.2.2.1 t.2.2.2.2.1 ∧ 24 ≤ t.2.2.2.2.2.2.2.1) ∧ (t.1 = false → t = (false, 0, 0, 0, 0, [], [], 0, false)) ∧ (0 ≤ t.2.2.2.1 ∧ t.2.2.2.1 ≤ 1000000000) ∧ t.2.2.2.2.2.2.1.length = t.2.2.2.2.2.1.length ∧ t.2.2.2.2.2.1.length ≤ n ∧
    (∀ r ∈ t.2.2.2.2.2.1, r.size ≤ 60) ∧ (∀ o ∈ t.2.2.2.2.2.2.1, 0 ≤ o ∧ o ≤ n) ∧ 0 ≤ t.2.2.2.2.2.2.2.1 ∧ t.2.2.2.2.2.2.2.1 ≤ n
theorem scan_f (b : ByteArray) : ScF b.size (scan b) := by
  by_cases h : (scan b).1 = true
  · obtain ⟨h1, h2, h3, h4, h5, h6⟩ := scan_inv b h
    obtain ⟨k1, k2, k3, k4, k5⟩ := scan_head b h
    have hk := (rHead_ok b k1).2.1
    rw [← k2, ← k3, ← k4, ← k5] at hk
    exact ⟨fun _ => ⟨hk, h2⟩, (fun e => by rw [h] at e; cases e), hk.2.2.1, h1.symm, by omega, h5, h6, by omega, h3⟩
  · have e := scan_no b h
    rw [e]
    exact ⟨fun h => Bool.noConfusion h, fun _ => rfl, ⟨by decide, by decide⟩, rfl, Nat.zero_le _, fun _ h => absurd h (by simp), fun _ h => absurd h (by simp), Int.le_refl _, Int.natCast_nonneg _⟩
end Go.Mth

/- What functions of the program and of the reference do, in plain values. -/
namespace Go.Pv
open Go.Proofs Go.Mth
set_option linter.unusedSimpArgs false
set_option linter.unusedVariables false
set_option maxHeartbeats 4000000

/-! ### lists of places, feet, sealed files -/
theorem upT_size0 {a b : Int} (h : ¬ (upT a b).size = 0) : b ≤ a := Decidable.byContradiction fun q => h (by rw [upT_no fun x => q x.1]; rfl)
theorem impl_PlacesText (ps : List (Int × Int)) (hl : ps.length ≤ 1000000000) (hp : ∀ p ∈ ps, i64 p.1 ∧ i64 p.2) : Fn Try.prog 108 [.far (ps.map plP)] [] (.str (placesT ps)) [] := by
  have b1 := varT_le ps.length
  have b2 := varT_pos ps.length (by omega) (by omega)
  refine fn_x tok (n := 44) (rs := [.tmp 2]) Try.func108 (by decide) rfl rfl rfl rfl ?_
  (try simp (maxSteps := 1000000) (disch := first | omega | (simp only [LN, numOk, verOk, rfP, rvP, rhP, frP, blH, bytesOf_length] <;> omega) | exact Ck.mk rfl) only [VC, T, Nat.reduceMul, Nat.reduceAdd, Nat.reduceSub, Nat.reduceLT, Nat.reduceEqDiff, Nat.reduceLeDiff, Nat.reduceBEq, reduceCtorEq, Int.reduceToNat, ↓reduceIte, rfP, rvP, rhP, frP, blH, bytesOf_length])
  repeat' (first
    | (refine br_go (fun e f => ?_) (fun e f => ?_) <;> (try simp only [BB] at f) <;> (try simp only [numOk, verOk] at f) <;> (try simp (maxSteps := 1000000) (disch := first | omega | (simp only [LN, numOk, verOk, rfP, rvP, rhP, frP, blH, bytesOf_length] <;> omega) | exact Ck.mk rfl) only [e, VC, T, Nat.reduceMul, Nat.reduceAdd, Nat.reduceSub, Nat.reduceLT, Nat.reduceEqDiff, Nat.reduceLeDiff, Nat.reduceBEq, reduceCtorEq, Int.reduceToNat, ↓reduceIte, rfP, rvP, rhP, frP, blH, bytesOf_length]) <;> (try clear e))
    | (refine pick_go (fun e f => ?_) (fun e f => ?_) <;> (try simp only [BB] at f) <;> (try simp only [numOk, verOk] at f) <;> (try simp (maxSteps := 1000000) (disch := first | omega | (simp only [LN, numOk, verOk, rfP, rvP, rhP, frP, blH, bytesOf_length] <;> omega) | exact Ck.mk rfl) only [e, VC, T, Nat.reduceMul, Nat.reduceAdd, Nat.reduceSub, Nat.reduceLT, Nat.reduceEqDiff, Nat.reduceLeDiff, Nat.reduceBEq, reduceCtorEq, Int.reduceToNat, ↓reduceIte, rfP, rvP, rhP, frP, blH, bytesOf_length]) <;> (try clear e))
    | ((first | refine call_x (impl_VarText _) rfl ⟨rfl⟩ ?_ | (refine call_h [256] [] (Builder_Write0 _ (by omega) (by omega)) (by decide) rfl rfl ?_; rintro _ _ ⟨rfl, rfl⟩)); (try simp (maxSteps := 1000000) (disch := first | omega | (simp only [LN, numOk, verOk, rfP, rvP, rhP, frP, blH, bytesOf_length] <;> omega) | exact Ck.mk rfl) only [VC, T, Nat.reduceMul, Nat.reduceAdd, Nat.reduceSub, Nat.reduceLT, Nat.reduceEqDiff, Nat.reduceLeDiff, Nat.reduceBEq, reduceCtorEq, Int.reduceToNat, ↓reduceIte, rfP, rvP, rhP, frP, blH, bytesOf_length])))
  refine lp_go (fun x : Nat × ByteArray × Int × Int => ⟨44, [(3, .ref 256 0), (4, .ref 320 0), (15, .far (ps.map plP)), (16, .int .i64 ps.length), (17, .int .i64 x.1)], [(256, .box 83 [.ref 256 0, .row 896 x.2.1.size]), (896, .row ⟨1, 5⟩ ((bytesOf x.2.1).map (.int .u8))), (320, .box 59 [.int .i64 x.2.2.1, .int .i64 x.2.2.2])]⟩) (fun x => x.1 ≤ ps.length ∧ (0 < x.2.1.size ∧ x.2.1.size ≤ 5 + 10 * x.1) ∧ (0 ≤ x.2.2.1 ∧ x.2.2.1 ≤ 9223372036854775807) ∧ (0 ≤ x.2.2.2 ∧ x.2.2.2 ≤ 9223372036854775807) ∧ placesT ps = plGo x.2.1 x.2.2.1 x.2.2.2 (ps.drop x.1)) (fun x => ps.length - x.1) (0, varT ps.length, 0, 0) ?_ ?_ ?_
  · (simp (disch := first | omega | (simp only [LN, numOk, verOk] <;> omega) | exact Ck.mk rfl) only [SB, EQ, Nat.reduceMul, Nat.reduceAdd, Nat.reduceSub, Nat.reduceLT, Nat.reduceEqDiff, Nat.reduceLeDiff, Nat.reduceBEq, reduceCtorEq, Int.reduceToNat, ↓reduceIte]; try omega)
  · exact ⟨Nat.zero_le _, ⟨b2, by simp only; omega⟩, by simp, by simp, rfl⟩
  · rintro ⟨i, o, lc, la⟩ ⟨h1, h2, h3, h4, h5⟩ N hN
    simp only at h1 h2 h3 h4 h5
    have hs := plGo_step ps i
    have hm : i < ps.length → i64 (ps.getD i default).1 ∧ i64 (ps.getD i default).2 := fun h => hp _ (getD_mem _ _ h)
    have s1 := stepT_le (ps.getD i default).1 lc
    have s2 := stepT_le (ps.getD i default).2 la
    have hg : i < ps.length → (ps.map plP).getD i .junk = .agg [.int .i64 (ps.getD i default).1, .int .i64 (ps.getD i default).2] := fun h => by
      rw [List.getD_eq_getElem?_getD, List.getElem?_map, List.getElem?_eq_getElem h, List.getD_eq_getElem?_getD, List.getElem?_eq_getElem h]; rfl
    (try simp (maxSteps := 1000000) (disch := first | omega | (simp only [LN, numOk, verOk, rfP, rvP, rhP, frP, blH, bytesOf_length, hg] <;> omega) | exact Ck.mk rfl) only [VC, T, Nat.reduceMul, Nat.reduceAdd, Nat.reduceSub, Nat.reduceLT, Nat.reduceEqDiff, Nat.reduceLeDiff, Nat.reduceBEq, reduceCtorEq, Int.reduceToNat, ↓reduceIte, rfP, rvP, rhP, frP, blH, bytesOf_length, hg])
    repeat' (first
      | (refine br_go (fun e f => ?_) (fun e f => ?_) <;> (try simp only [BB] at f) <;> (try simp only [numOk, verOk] at f) <;> (try simp (maxSteps := 1000000) (disch := first | omega | (simp only [LN, numOk, verOk, rfP, rvP, rhP, frP, blH, bytesOf_length, hg] <;> omega) | exact Ck.mk rfl) only [e, VC, T, Nat.reduceMul, Nat.reduceAdd, Nat.reduceSub, Nat.reduceLT, Nat.reduceEqDiff, Nat.reduceLeDiff, Nat.reduceBEq, reduceCtorEq, Int.reduceToNat, ↓reduceIte, rfP, rvP, rhP, frP, blH, bytesOf_length, hg]) <;> (try clear e))
      | (refine pick_go (fun e f => ?_) (fun e f => ?_) <;> (try simp only [BB] at f) <;> (try simp only [numOk, verOk] at f) <;> (try simp (maxSteps := 1000000) (disch := first | omega | (simp only [LN, numOk, verOk, rfP, rvP, rhP, frP, blH, bytesOf_length, hg] <;> omega) | exact Ck.mk rfl) only [e, VC, T, Nat.reduceMul, Nat.reduceAdd, Nat.reduceSub, Nat.reduceLT, Nat.reduceEqDiff, Nat.reduceLeDiff, Nat.reduceBEq, reduceCtorEq, Int.reduceToNat, ↓reduceIte, rfP, rvP, rhP, frP, blH, bytesOf_length, hg]) <;> (try clear e))
      | ((first | refine dr_go mixed (id := 7) [([], [6], []), ([0], [21], []), ([], [4], []), ([2], [23], []), ([0, 1, 2, 3], [22, 24], []), ([], [6], []), ([5], [26], []), ([], [4], []), ([7], [28], []), ([0, 1, 2, 3, 4, 5, 6, 7, 8], [27, 29], []), ([0, 1, 2, 3, 4, 5, 6, 7, 8, 9], [25], []), ([0, 1, 2, 3, 4, 5, 6, 7, 8, 9, 10], [30], [])] rfl rfl rfl ?_ | refine call_x (impl_above _ _ (hm (by omega)).1.1 (hm (by omega)).1.2 (by omega) h3.2) rfl ⟨rfl⟩ ?_ | refine call_x (impl_above _ _ (hm (by omega)).2.1 (hm (by omega)).2.2 (by omega) h4.2) rfl ⟨rfl⟩ ?_ | (refine call_h [256, 896] [] (Builder_Write o _ (by omega) (by rw [ByteArray.size_append]; omega)) (by decide) rfl rfl ?_; rintro _ _ ⟨rfl, rfl⟩) | refine call_hx [256, 896] [] (Builder_String o (by omega) (by omega)) (by decide) rfl rfl ?_); (try simp (maxSteps := 1000000) (disch := first | omega | (simp only [LN, numOk, verOk, rfP, rvP, rhP, frP, blH, bytesOf_length, hg] <;> omega) | exact Ck.mk rfl) only [VC, T, Nat.reduceMul, Nat.reduceAdd, Nat.reduceSub, Nat.reduceLT, Nat.reduceEqDiff, Nat.reduceLeDiff, Nat.reduceBEq, reduceCtorEq, Int.reduceToNat, ↓reduceIte, rfP, rvP, rhP, frP, blH, bytesOf_length, hg])))
    · rw [h5, hs (by omega), if_pos (.inl f)]
    · rw [h5, hs (by omega), if_pos (.inr f)]
    · have u1 := upT_size0 (a := (ps.getD i default).1) (b := lc) (by assumption)
      have u2 := upT_size0 f
      have m := hm (by omega)
      unfold i64 at m
      refine hN (i + 1, o ++ upT (ps.getD i default).1 lc ++ upT (ps.getD i default).2 la, (ps.getD i default).1, (ps.getD i default).2) _ ⟨by simp only; omega, ⟨by simp only [ByteArray.size_append]; omega, by simp only [ByteArray.size_append]; omega⟩, ⟨Int.le_trans h3.1 u1, m.1.2⟩, ⟨Int.le_trans h4.1 u2, m.2.2⟩, ?_⟩ (by simp only; omega) ?_
      · rw [h5, hs (by omega), if_neg (by rintro (q | q) <;> simp_all)]
      · (simp (disch := first | omega | (simp only [LN, numOk, verOk] <;> omega) | exact Ck.mk rfl) only [SB, EQ, Nat.reduceMul, Nat.reduceAdd, Nat.reduceSub, Nat.reduceLT, Nat.reduceEqDiff, Nat.reduceLeDiff, Nat.reduceBEq, reduceCtorEq, Int.reduceToNat, ↓reduceIte]; try omega)
        simp only [ByteArray.append_assoc, ByteArray.size_append, Nat.add_assoc, and_self]
    · rw [h5, List.drop_eq_nil_of_le (by omega)]; rfl
theorem plc_mem (s : Int) (os : List Int) : ∀ (l : List Int) (i : Nat), (∀ x ∈ l, x ∈ os) → i + l.length ≤ os.length → ∀ p ∈ plc (fun a b => (a, b)) s l i, (0 ≤ p.1 ∧ p.1 < os.length) ∧ p.2 ∈ os
  | [], i, _, _, p, hp => by simp [plc] at hp
  | x :: l, i, hm, hi, p, hp => by
    rw [List.length_cons] at hi
    have ih := plc_mem s os l (i + 1) (fun y hy => hm y (List.mem_cons_of_mem _ hy)) (by omega) p
    unfold plc at hp
    split at hp
    · rcases List.mem_cons.1 hp with rfl | hp
      · exact ⟨⟨by simp only; omega, by simp only; omega⟩, hm x List.mem_cons_self⟩
      · exact ih hp
    · exact ih hp
theorem placesP_mem (s : Int) (os : List Int) (p : Int × Int) (hp : p ∈ placesP s os) : (0 ≤ p.1 ∧ p.1 < os.length) ∧ p.2 ∈ os := by
  unfold placesP placesOf at hp
  split at hp
  · simp at hp
  · exact plc_mem s os os 0 (fun x h => h) (by omega) p hp
theorem trail_20 {a b c d : Int} (h : ¬ (trailT a b c d).size = 0) : (trailT a b c d).size = 20 := by
  obtain ⟨h1, h2, h3, h4, _⟩ := trailT_size a b c d h
  have k1 := fixT4_full a h1
  have k2 := fixT4_full b h2
  have k3 := fixT4_full c h3
  have k4 := fixT4_full d h4
  exact (trailT_pos a b c d k1.2 k2.2 k3.2 k4.2).2
theorem impl_FootText (v s b l : Int) (os : List Int) (e : Int) (hl : os.length ≤ 1000000000) (ho : ∀ o ∈ os, i64 o) (he : i64 e) : Fn Try.prog 77 [.agg [.int .i64 v, .int .i64 s, .int .i64 b, .int .i64 l], .far (os.map (.int .i64)), .int .i64 e] [] (.str (footT v s b l os e)) [] := by
  have hp : ∀ p ∈ placesP s os, i64 p.1 ∧ i64 p.2 := fun p h => by
    have := placesP_mem s os p h
    exact ⟨⟨by omega, by omega⟩, ho _ this.2⟩
  have hpl : (placesP s os).length ≤ os.length := placesOf_le _ _ _
  have t1 := endMark_le v (b + os.length)
  have t2 := placesT_le (placesP s os)
  have t3 := @trail_20 e os.length s 0
  have t5 := trailT_le e os.length s (sumOf (endMark v (b + os.length) ++ placesT (placesP s os) ++ (trailT e os.length s 0).extract 0 12))
  unfold i64 at he
  generalize hq : footT v s b l os e = q
  by_cases hk : headOk v s b l
  · have hH := impl_HeadOk v s b l
    rw [decide_eq_true hk] at hH
    obtain ⟨_, ⟨hs1, hs2⟩, ⟨hb0, hb1⟩, _⟩ := id hk
    have hm : ∀ z < 9223372036854775808, ∀ x ∈ [e, (os.length : Int), s, z], x < 9223372036854775808 := fun z hz x hx => by
      simp only [List.mem_cons, List.not_mem_nil, or_false] at hx
      omega
    unfold footT at hq
    rw [if_pos hk] at hq
    refine fn_x tok (n := 61) (rs := [.tmp 6]) Try.func77 (by decide) rfl rfl rfl rfl ?_
    (try simp (maxSteps := 1000000) (disch := first | omega | (simp only [LN, numOk, verOk, rfP, rvP, rhP, frP, blH, bytesOf_length, ByteArray.size_extract] <;> omega) | exact Ck.mk rfl) only [VC, T, Nat.reduceMul, Nat.reduceAdd, Nat.reduceSub, Nat.reduceLT, Nat.reduceEqDiff, Nat.reduceLeDiff, Nat.reduceBEq, reduceCtorEq, Int.reduceToNat, ↓reduceIte, rfP, rvP, rhP, frP, blH, bytesOf_length, ByteArray.size_extract])
    repeat' (first
      | (refine br_go (fun e f => ?_) (fun e f => ?_) <;> (try simp only [BB] at f) <;> (try simp only [numOk, verOk] at f) <;> (try simp (maxSteps := 1000000) (disch := first | omega | (simp only [LN, numOk, verOk, rfP, rvP, rhP, frP, blH, bytesOf_length, ByteArray.size_extract] <;> omega) | exact Ck.mk rfl) only [e, VC, T, Nat.reduceMul, Nat.reduceAdd, Nat.reduceSub, Nat.reduceLT, Nat.reduceEqDiff, Nat.reduceLeDiff, Nat.reduceBEq, reduceCtorEq, Int.reduceToNat, ↓reduceIte, rfP, rvP, rhP, frP, blH, bytesOf_length, ByteArray.size_extract]) <;> (try clear e))
      | (refine pick_go (fun e f => ?_) (fun e f => ?_) <;> (try simp only [BB] at f) <;> (try simp only [numOk, verOk] at f) <;> (try simp (maxSteps := 1000000) (disch := first | omega | (simp only [LN, numOk, verOk, rfP, rvP, rhP, frP, blH, bytesOf_length, ByteArray.size_extract] <;> omega) | exact Ck.mk rfl) only [e, VC, T, Nat.reduceMul, Nat.reduceAdd, Nat.reduceSub, Nat.reduceLT, Nat.reduceEqDiff, Nat.reduceLeDiff, Nat.reduceBEq, reduceCtorEq, Int.reduceToNat, ↓reduceIte, rfP, rvP, rhP, frP, blH, bytesOf_length, ByteArray.size_extract]) <;> (try clear e))
      | ((first | refine dr_go mixed (id := 3) [([], [3], []), ([0], [14], []), ([], [3], []), ([2], [16], []), ([], [1], []), ([4], [18], []), ([2, 3, 4, 5], [17, 19], []), ([0, 1, 2, 3, 4, 5, 6], [15, 20], []), ([], [3], []), ([8], [22], []), ([], [1], []), ([0, 1, 2, 3, 4, 5, 6, 7, 8, 9, 10], [23, 24], []), ([0, 1, 2, 3, 4, 5, 6, 7, 8, 9, 10, 11], [25], []), ([0, 1, 2, 3, 4, 5, 6, 7, 8, 9, 10, 11, 12], [21], []), ([0, 1, 2, 3, 4, 5, 6, 7, 8, 9, 10, 11, 12, 13], [26], [])] rfl rfl rfl ?_ | refine call_x (hH) rfl ⟨rfl⟩ ?_ | refine call_x (impl_EndMark _ _) rfl ⟨rfl⟩ ?_ | refine call_x (impl_PlacesOf2 _ _ (by omega) (by omega)) rfl ⟨rfl⟩ ?_ | refine call_x (impl_PlacesText _ (by omega) hp) rfl ⟨rfl⟩ ?_ | refine call_x (impl_TrailerText _ _ _ _ (hm _ (by decide))) rfl ⟨rfl⟩ ?_ | refine call_x (impl_TrailerText _ _ _ _ (hm _ (sumOf_lt _))) rfl ⟨rfl⟩ ?_ | refine call_x (impl_SumOf _ (by simp only [ByteArray.size_append, ByteArray.size_extract]; omega)) rfl ⟨rfl⟩ ?_); (try simp (maxSteps := 1000000) (disch := first | omega | (simp only [LN, numOk, verOk, rfP, rvP, rhP, frP, blH, bytesOf_length, ByteArray.size_extract] <;> omega) | exact Ck.mk rfl) only [VC, T, Nat.reduceMul, Nat.reduceAdd, Nat.reduceSub, Nat.reduceLT, Nat.reduceEqDiff, Nat.reduceLeDiff, Nat.reduceBEq, reduceCtorEq, Int.reduceToNat, ↓reduceIte, rfP, rvP, rhP, frP, blH, bytesOf_length, ByteArray.size_extract])))
    all_goals (rw [← hq]; first | rw [if_pos (by omega)] | rw [if_neg (by omega)])
  · have hH := impl_HeadOk v s b l
    rw [decide_eq_false hk] at hH
    unfold footT at hq
    rw [if_neg hk] at hq
    subst hq
    refine fn_x tok (n := 61) (rs := [.tmp 6]) Try.func77 (by decide) rfl rfl rfl rfl ?_
    (try simp (maxSteps := 1000000) (disch := first | omega | (simp only [LN, numOk, verOk, rfP, rvP, rhP, frP, blH, bytesOf_length] <;> omega) | exact Ck.mk rfl) only [VC, T, Nat.reduceMul, Nat.reduceAdd, Nat.reduceSub, Nat.reduceLT, Nat.reduceEqDiff, Nat.reduceLeDiff, Nat.reduceBEq, reduceCtorEq, Int.reduceToNat, ↓reduceIte, rfP, rvP, rhP, frP, blH, bytesOf_length])
    repeat' (first
      | (refine br_go (fun e f => ?_) (fun e f => ?_) <;> (try simp only [BB] at f) <;> (try simp only [numOk, verOk] at f) <;> (try simp (maxSteps := 1000000) (disch := first | omega | (simp only [LN, numOk, verOk, rfP, rvP, rhP, frP, blH, bytesOf_length] <;> omega) | exact Ck.mk rfl) only [e, VC, T, Nat.reduceMul, Nat.reduceAdd, Nat.reduceSub, Nat.reduceLT, Nat.reduceEqDiff, Nat.reduceLeDiff, Nat.reduceBEq, reduceCtorEq, Int.reduceToNat, ↓reduceIte, rfP, rvP, rhP, frP, blH, bytesOf_length]) <;> (try clear e))
      | (refine pick_go (fun e f => ?_) (fun e f => ?_) <;> (try simp only [BB] at f) <;> (try simp only [numOk, verOk] at f) <;> (try simp (maxSteps := 1000000) (disch := first | omega | (simp only [LN, numOk, verOk, rfP, rvP, rhP, frP, blH, bytesOf_length] <;> omega) | exact Ck.mk rfl) only [e, VC, T, Nat.reduceMul, Nat.reduceAdd, Nat.reduceSub, Nat.reduceLT, Nat.reduceEqDiff, Nat.reduceLeDiff, Nat.reduceBEq, reduceCtorEq, Int.reduceToNat, ↓reduceIte, rfP, rvP, rhP, frP, blH, bytesOf_length]) <;> (try clear e))
      | ((first | refine call_x (hH) rfl ⟨rfl⟩ ?_); (try simp (maxSteps := 1000000) (disch := first | omega | (simp only [LN, numOk, verOk, rfP, rvP, rhP, frP, blH, bytesOf_length] <;> omega) | exact Ck.mk rfl) only [VC, T, Nat.reduceMul, Nat.reduceAdd, Nat.reduceSub, Nat.reduceLT, Nat.reduceEqDiff, Nat.reduceLeDiff, Nat.reduceBEq, reduceCtorEq, Int.reduceToNat, ↓reduceIte, rfP, rvP, rhP, frP, blH, bytesOf_length])))
theorem spec_FootText (v s b l : Int) (os : List Int) (e : Int) (hl : os.length ≤ 1000000000) (ho : ∀ o ∈ os, i64 o) (he : i64 e) : Fn Try.prog 53 [.agg [.int .i64 v, .int .i64 s, .int .i64 b, .int .i64 l], .far (os.map (.int .i64)), .int .i64 e] [] (.str (footT v s b l os e)) [] := by
  have hp : ∀ p ∈ placesP s os, i64 p.1 ∧ i64 p.2 := fun p h => by
    have := placesP_mem s os p h
    exact ⟨⟨by omega, by omega⟩, ho _ this.2⟩
  have hpl : (placesP s os).length ≤ os.length := placesOf_le _ _ _
  have t1 := endMark_le v (b + os.length)
  have t2 := placesT_le (placesP s os)
  have t3 := @trail_20 e os.length s 0
  have t5 := trailT_le e os.length s (sumOf (endMark v (b + os.length) ++ placesT (placesP s os) ++ (trailT e os.length s 0).extract 0 12))
  unfold i64 at he
  generalize hq : footT v s b l os e = q
  by_cases hk : headOk v s b l
  · have hH := spec_HeadOk v s b l
    rw [decide_eq_true hk] at hH
    obtain ⟨_, ⟨hs1, hs2⟩, ⟨hb0, hb1⟩, _⟩ := id hk
    have hm : ∀ z < 9223372036854775808, ∀ x ∈ [e, (os.length : Int), s, z], x < 9223372036854775808 := fun z hz x hx => by
      simp only [List.mem_cons, List.not_mem_nil, or_false] at hx
      omega
    unfold footT at hq
    rw [if_pos hk] at hq
    refine fn_x tok (n := 61) (rs := [.tmp 6]) Try.func53 (by decide) rfl rfl rfl rfl ?_
    (try simp (maxSteps := 1000000) (disch := first | omega | (simp only [LN, numOk, verOk, rfP, rvP, rhP, frP, blH, bytesOf_length, ByteArray.size_extract] <;> omega) | exact Ck.mk rfl) only [VC, T, Nat.reduceMul, Nat.reduceAdd, Nat.reduceSub, Nat.reduceLT, Nat.reduceEqDiff, Nat.reduceLeDiff, Nat.reduceBEq, reduceCtorEq, Int.reduceToNat, ↓reduceIte, rfP, rvP, rhP, frP, blH, bytesOf_length, ByteArray.size_extract])
    repeat' (first
      | (refine br_go (fun e f => ?_) (fun e f => ?_) <;> (try simp only [BB] at f) <;> (try simp only [numOk, verOk] at f) <;> (try simp (maxSteps := 1000000) (disch := first | omega | (simp only [LN, numOk, verOk, rfP, rvP, rhP, frP, blH, bytesOf_length, ByteArray.size_extract] <;> omega) | exact Ck.mk rfl) only [e, VC, T, Nat.reduceMul, Nat.reduceAdd, Nat.reduceSub, Nat.reduceLT, Nat.reduceEqDiff, Nat.reduceLeDiff, Nat.reduceBEq, reduceCtorEq, Int.reduceToNat, ↓reduceIte, rfP, rvP, rhP, frP, blH, bytesOf_length, ByteArray.size_extract]) <;> (try clear e))
      | (refine pick_go (fun e f => ?_) (fun e f => ?_) <;> (try simp only [BB] at f) <;> (try simp only [numOk, verOk] at f) <;> (try simp (maxSteps := 1000000) (disch := first | omega | (simp only [LN, numOk, verOk, rfP, rvP, rhP, frP, blH, bytesOf_length, ByteArray.size_extract] <;> omega) | exact Ck.mk rfl) only [e, VC, T, Nat.reduceMul, Nat.reduceAdd, Nat.reduceSub, Nat.reduceLT, Nat.reduceEqDiff, Nat.reduceLeDiff, Nat.reduceBEq, reduceCtorEq, Int.reduceToNat, ↓reduceIte, rfP, rvP, rhP, frP, blH, bytesOf_length, ByteArray.size_extract]) <;> (try clear e))
      | ((first | refine dr_go mixed (id := 3) [([], [3], []), ([0], [14], []), ([], [3], []), ([2], [16], []), ([], [1], []), ([4], [18], []), ([2, 3, 4, 5], [17, 19], []), ([0, 1, 2, 3, 4, 5, 6], [15, 20], []), ([0, 1, 2, 3, 4, 5, 6, 7], [21], [])] rfl rfl rfl ?_ | refine call_x (hH) rfl ⟨rfl⟩ ?_ | refine call_x (spec_EndMark _ _) rfl ⟨rfl⟩ ?_ | refine call_x (spec_PlacesOf2 _ _ (by omega) (by omega)) rfl ⟨rfl⟩ ?_ | refine call_x (spec_PlacesText _ (by omega) hp) rfl ⟨rfl⟩ ?_ | refine call_x (spec_TrailerText _ _ _ _ (hm _ (by decide))) rfl ⟨rfl⟩ ?_ | refine call_x (spec_TrailerText _ _ _ _ (hm _ (sumOf_lt _))) rfl ⟨rfl⟩ ?_ | refine call_x (spec_SumOf _ (by simp only [ByteArray.size_append, ByteArray.size_extract]; omega)) rfl ⟨rfl⟩ ?_); (try simp (maxSteps := 1000000) (disch := first | omega | (simp only [LN, numOk, verOk, rfP, rvP, rhP, frP, blH, bytesOf_length, ByteArray.size_extract] <;> omega) | exact Ck.mk rfl) only [VC, T, Nat.reduceMul, Nat.reduceAdd, Nat.reduceSub, Nat.reduceLT, Nat.reduceEqDiff, Nat.reduceLeDiff, Nat.reduceBEq, reduceCtorEq, Int.reduceToNat, ↓reduceIte, rfP, rvP, rhP, frP, blH, bytesOf_length, ByteArray.size_extract])))
    all_goals (rw [← hq]; first | rw [if_pos (by omega)] | rw [if_neg (by omega)])
  · have hH := spec_HeadOk v s b l
    rw [decide_eq_false hk] at hH
    unfold footT at hq
    rw [if_neg hk] at hq
    subst hq
    refine fn_x tok (n := 61) (rs := [.tmp 6]) Try.func53 (by decide) rfl rfl rfl rfl ?_
    (try simp (maxSteps := 1000000) (disch := first | omega | (simp only [LN, numOk, verOk, rfP, rvP, rhP, frP, blH, bytesOf_length] <;> omega) | exact Ck.mk rfl) only [VC, T, Nat.reduceMul, Nat.reduceAdd, Nat.reduceSub, Nat.reduceLT, Nat.reduceEqDiff, Nat.reduceLeDiff, Nat.reduceBEq, reduceCtorEq, Int.reduceToNat, ↓reduceIte, rfP, rvP, rhP, frP, blH, bytesOf_length])
    repeat' (first
      | (refine br_go (fun e f => ?_) (fun e f => ?_) <;> (try simp only [BB] at f) <;> (try simp only [numOk, verOk] at f) <;> (try simp (maxSteps := 1000000) (disch := first | omega | (simp only [LN, numOk, verOk, rfP, rvP, rhP, frP, blH, bytesOf_length] <;> omega) | exact Ck.mk rfl) only [e, VC, T, Nat.reduceMul, Nat.reduceAdd, Nat.reduceSub, Nat.reduceLT, Nat.reduceEqDiff, Nat.reduceLeDiff, Nat.reduceBEq, reduceCtorEq, Int.reduceToNat, ↓reduceIte, rfP, rvP, rhP, frP, blH, bytesOf_length]) <;> (try clear e))
      | (refine pick_go (fun e f => ?_) (fun e f => ?_) <;> (try simp only [BB] at f) <;> (try simp only [numOk, verOk] at f) <;> (try simp (maxSteps := 1000000) (disch := first | omega | (simp only [LN, numOk, verOk, rfP, rvP, rhP, frP, blH, bytesOf_length] <;> omega) | exact Ck.mk rfl) only [e, VC, T, Nat.reduceMul, Nat.reduceAdd, Nat.reduceSub, Nat.reduceLT, Nat.reduceEqDiff, Nat.reduceLeDiff, Nat.reduceBEq, reduceCtorEq, Int.reduceToNat, ↓reduceIte, rfP, rvP, rhP, frP, blH, bytesOf_length]) <;> (try clear e))
      | ((first | refine call_x (hH) rfl ⟨rfl⟩ ?_); (try simp (maxSteps := 1000000) (disch := first | omega | (simp only [LN, numOk, verOk, rfP, rvP, rhP, frP, blH, bytesOf_length] <;> omega) | exact Ck.mk rfl) only [VC, T, Nat.reduceMul, Nat.reduceAdd, Nat.reduceSub, Nat.reduceLT, Nat.reduceEqDiff, Nat.reduceLeDiff, Nat.reduceBEq, reduceCtorEq, Int.reduceToNat, ↓reduceIte, rfP, rvP, rhP, frP, blH, bytesOf_length])))
def ixf {α : Type} (p : α → Bool) : List α → Nat → Int
  | [], _ => -1
  | x :: l, i => if p x = true then i else ixf p l (i + 1)
theorem ixf_step {α : Type} [Inhabited α] (p : α → Bool) (l : List α) (i : Nat) (h : i < l.length) : ixf p (l.drop i) i = if p (l.getD i default) = true then (i : Int) else ixf p (l.drop (i + 1)) (i + 1) := by
  rw [List.drop_eq_getElem_cons h, List.getD_eq_getElem?_getD, List.getElem?_eq_getElem h]; rfl
theorem ixf_any {α : Type} (p : α → Bool) : ∀ (l : List α) (i : Nat), (0 ≤ ixf p l i ↔ l.any p = true) ∧ -1 ≤ ixf p l i ∧ ixf p l i < i + l.length
  | [], i => ⟨by simp [ixf], by simp [ixf], by simp only [ixf, List.length_nil]; omega⟩
  | x :: l, i => by
    have ih := ixf_any p l (i + 1)
    unfold ixf
    rw [List.any_cons, List.length_cons]
    by_cases h : p x = true
    · rw [if_pos h, h]; exact ⟨by simp, by omega, by omega⟩
    · have h' : p x = false := by simpa using h
      rw [if_neg h, h', Bool.false_or]
      exact ⟨ih.1, ih.2.1, by omega⟩
theorem IndexFunc_str (g : FuncId) (p : ByteArray → Bool) (rs : List ByteArray) (hl : rs.length ≤ 1073741824) (hg : ∀ s, Fn Try.prog g [.str s] [] (.bool (p s)) []) : Fn Try.prog 101 [.far (rs.map .str), .fn (.func g) []] [] (.int .i64 (ixf p rs 0)) [] := by
  refine fn_x tok (n := 19) (rs := [.tmp 4]) Try.func101 (by decide) rfl rfl rfl rfl ?_
  (try simp (maxSteps := 1000000) (disch := first | omega | (simp only [LN, numOk, verOk, rfP, rvP, rhP, frP, blH, bytesOf_length] <;> omega) | exact Ck.mk rfl) only [VC, T, Nat.reduceMul, Nat.reduceAdd, Nat.reduceSub, Nat.reduceLT, Nat.reduceEqDiff, Nat.reduceLeDiff, Nat.reduceBEq, reduceCtorEq, Int.reduceToNat, ↓reduceIte, rfP, rvP, rhP, frP, blH, bytesOf_length])
  repeat' (first
    | (refine br_go (fun e f => ?_) (fun e f => ?_) <;> (try simp only [BB] at f) <;> (try simp only [numOk, verOk] at f) <;> (try simp (maxSteps := 1000000) (disch := first | omega | (simp only [LN, numOk, verOk, rfP, rvP, rhP, frP, blH, bytesOf_length] <;> omega) | exact Ck.mk rfl) only [e, VC, T, Nat.reduceMul, Nat.reduceAdd, Nat.reduceSub, Nat.reduceLT, Nat.reduceEqDiff, Nat.reduceLeDiff, Nat.reduceBEq, reduceCtorEq, Int.reduceToNat, ↓reduceIte, rfP, rvP, rhP, frP, blH, bytesOf_length]) <;> (try clear e))
    | (refine pick_go (fun e f => ?_) (fun e f => ?_) <;> (try simp only [BB] at f) <;> (try simp only [numOk, verOk] at f) <;> (try simp (maxSteps := 1000000) (disch := first | omega | (simp only [LN, numOk, verOk, rfP, rvP, rhP, frP, blH, bytesOf_length] <;> omega) | exact Ck.mk rfl) only [e, VC, T, Nat.reduceMul, Nat.reduceAdd, Nat.reduceSub, Nat.reduceLT, Nat.reduceEqDiff, Nat.reduceLeDiff, Nat.reduceBEq, reduceCtorEq, Int.reduceToNat, ↓reduceIte, rfP, rvP, rhP, frP, blH, bytesOf_length]) <;> (try clear e)))
  refine lp_go (fun i : Nat => ⟨19, [(0, .far (rs.map .str)), (1, .fn (.func g) []), (7, .int .i64 rs.length), (8, .int .i64 i)], []⟩) (fun i => i ≤ rs.length ∧ ixf p rs 0 = ixf p (rs.drop i) i) (fun i => rs.length - i) 0 ?_ ⟨Nat.zero_le _, rfl⟩ ?_
  · (simp (disch := first | omega | (simp only [LN, numOk, verOk] <;> omega) | exact Ck.mk rfl) only [SB, EQ, Nat.reduceMul, Nat.reduceAdd, Nat.reduceSub, Nat.reduceLT, Nat.reduceEqDiff, Nat.reduceLeDiff, Nat.reduceBEq, reduceCtorEq, Int.reduceToNat, ↓reduceIte]; try omega)
  · rintro i ⟨h1, h2⟩ N hN
    have hs := ixf_step p rs i
    (try simp (maxSteps := 1000000) (disch := first | omega | (simp only [LN, numOk, verOk, rfP, rvP, rhP, frP, blH, bytesOf_length] <;> omega) | exact Ck.mk rfl) only [VC, T, Nat.reduceMul, Nat.reduceAdd, Nat.reduceSub, Nat.reduceLT, Nat.reduceEqDiff, Nat.reduceLeDiff, Nat.reduceBEq, reduceCtorEq, Int.reduceToNat, ↓reduceIte, rfP, rvP, rhP, frP, blH, bytesOf_length])
    repeat' (first
      | (refine br_go (fun e f => ?_) (fun e f => ?_) <;> (try simp only [BB] at f) <;> (try simp only [numOk, verOk] at f) <;> (try simp (maxSteps := 1000000) (disch := first | omega | (simp only [LN, numOk, verOk, rfP, rvP, rhP, frP, blH, bytesOf_length] <;> omega) | exact Ck.mk rfl) only [e, VC, T, Nat.reduceMul, Nat.reduceAdd, Nat.reduceSub, Nat.reduceLT, Nat.reduceEqDiff, Nat.reduceLeDiff, Nat.reduceBEq, reduceCtorEq, Int.reduceToNat, ↓reduceIte, rfP, rvP, rhP, frP, blH, bytesOf_length]) <;> (try clear e))
      | (refine pick_go (fun e f => ?_) (fun e f => ?_) <;> (try simp only [BB] at f) <;> (try simp only [numOk, verOk] at f) <;> (try simp (maxSteps := 1000000) (disch := first | omega | (simp only [LN, numOk, verOk, rfP, rvP, rhP, frP, blH, bytesOf_length] <;> omega) | exact Ck.mk rfl) only [e, VC, T, Nat.reduceMul, Nat.reduceAdd, Nat.reduceSub, Nat.reduceLT, Nat.reduceEqDiff, Nat.reduceLeDiff, Nat.reduceBEq, reduceCtorEq, Int.reduceToNat, ↓reduceIte, rfP, rvP, rhP, frP, blH, bytesOf_length]) <;> (try clear e))
      | ((first | refine call_x (hg _) rfl ⟨rfl⟩ ?_); (try simp (maxSteps := 1000000) (disch := first | omega | (simp only [LN, numOk, verOk, rfP, rvP, rhP, frP, blH, bytesOf_length] <;> omega) | exact Ck.mk rfl) only [VC, T, Nat.reduceMul, Nat.reduceAdd, Nat.reduceSub, Nat.reduceLT, Nat.reduceEqDiff, Nat.reduceLeDiff, Nat.reduceBEq, reduceCtorEq, Int.reduceToNat, ↓reduceIte, rfP, rvP, rhP, frP, blH, bytesOf_length])))
    · rw [h2, hs (by omega), if_pos f]
    · refine hN (i + 1) _ ⟨by omega, by rw [h2, hs (by omega), if_neg (by rw [f]; decide)]⟩ (by omega) ?_
      (simp (disch := first | omega | (simp only [LN, numOk, verOk] <;> omega) | exact Ck.mk rfl) only [SB, EQ, Nat.reduceMul, Nat.reduceAdd, Nat.reduceSub, Nat.reduceLT, Nat.reduceEqDiff, Nat.reduceLeDiff, Nat.reduceBEq, reduceCtorEq, Int.reduceToNat, ↓reduceIte]; try omega)
    · rw [h2, List.drop_eq_nil_of_le (by omega)]; rfl
theorem ContainsFunc_str (g : FuncId) (p : ByteArray → Bool) (rs : List ByteArray) (hl : rs.length ≤ 1073741824) (hg : ∀ s, Fn Try.prog g [.str s] [] (.bool (p s)) []) : Fn Try.prog 70 [.far (rs.map .str), .fn (.func g) []] [] (.bool (rs.any p)) [] := by
  have h := ixf_any p rs 0
  refine fn_x tok (n := 9) (rs := [.tmp 4]) Try.func70 (by decide) rfl rfl rfl rfl ?_
  (try simp (maxSteps := 1000000) (disch := first | omega | (simp only [LN, numOk, verOk, rfP, rvP, rhP, frP, blH, bytesOf_length] <;> omega) | exact Ck.mk rfl) only [VC, T, Nat.reduceMul, Nat.reduceAdd, Nat.reduceSub, Nat.reduceLT, Nat.reduceEqDiff, Nat.reduceLeDiff, Nat.reduceBEq, reduceCtorEq, Int.reduceToNat, ↓reduceIte, rfP, rvP, rhP, frP, blH, bytesOf_length])
  repeat' (first
    | (refine br_go (fun e f => ?_) (fun e f => ?_) <;> (try simp only [BB] at f) <;> (try simp only [numOk, verOk] at f) <;> (try simp (maxSteps := 1000000) (disch := first | omega | (simp only [LN, numOk, verOk, rfP, rvP, rhP, frP, blH, bytesOf_length] <;> omega) | exact Ck.mk rfl) only [e, VC, T, Nat.reduceMul, Nat.reduceAdd, Nat.reduceSub, Nat.reduceLT, Nat.reduceEqDiff, Nat.reduceLeDiff, Nat.reduceBEq, reduceCtorEq, Int.reduceToNat, ↓reduceIte, rfP, rvP, rhP, frP, blH, bytesOf_length]) <;> (try clear e))
    | (refine pick_go (fun e f => ?_) (fun e f => ?_) <;> (try simp only [BB] at f) <;> (try simp only [numOk, verOk] at f) <;> (try simp (maxSteps := 1000000) (disch := first | omega | (simp only [LN, numOk, verOk, rfP, rvP, rhP, frP, blH, bytesOf_length] <;> omega) | exact Ck.mk rfl) only [e, VC, T, Nat.reduceMul, Nat.reduceAdd, Nat.reduceSub, Nat.reduceLT, Nat.reduceEqDiff, Nat.reduceLeDiff, Nat.reduceBEq, reduceCtorEq, Int.reduceToNat, ↓reduceIte, rfP, rvP, rhP, frP, blH, bytesOf_length]) <;> (try clear e))
    | ((first | refine call_x (IndexFunc_str g p rs hl hg) rfl ⟨rfl⟩ ?_); (try simp (maxSteps := 1000000) (disch := first | omega | (simp only [LN, numOk, verOk, rfP, rvP, rhP, frP, blH, bytesOf_length] <;> omega) | exact Ck.mk rfl) only [VC, T, Nat.reduceMul, Nat.reduceAdd, Nat.reduceSub, Nat.reduceLT, Nat.reduceEqDiff, Nat.reduceLeDiff, Nat.reduceBEq, reduceCtorEq, Int.reduceToNat, ↓reduceIte, rfP, rvP, rhP, frP, blH, bytesOf_length])))
  simp only [EQ]
  rw [Bool.eq_iff_iff, ← h.1, decide_eq_true_iff]
theorem SealText_1 (s : ByteArray) : Fn Try.prog 71 [.str s] [] (.bool (decide (60 < s.size))) [] := by
  refine fn_x tok (n := 6) (rs := [.tmp 2]) Try.func71 (by decide) rfl rfl rfl rfl ?_
  (try simp (maxSteps := 1000000) (disch := first | omega | (simp only [LN, numOk, verOk, rfP, rvP, rhP, frP, blH, bytesOf_length] <;> omega) | exact Ck.mk rfl) only [VC, T, Nat.reduceMul, Nat.reduceAdd, Nat.reduceSub, Nat.reduceLT, Nat.reduceEqDiff, Nat.reduceLeDiff, Nat.reduceBEq, reduceCtorEq, Int.reduceToNat, ↓reduceIte, rfP, rvP, rhP, frP, blH, bytesOf_length])
  repeat' (first
    | (refine br_go (fun e f => ?_) (fun e f => ?_) <;> (try simp only [BB] at f) <;> (try simp only [numOk, verOk] at f) <;> (try simp (maxSteps := 1000000) (disch := first | omega | (simp only [LN, numOk, verOk, rfP, rvP, rhP, frP, blH, bytesOf_length] <;> omega) | exact Ck.mk rfl) only [e, VC, T, Nat.reduceMul, Nat.reduceAdd, Nat.reduceSub, Nat.reduceLT, Nat.reduceEqDiff, Nat.reduceLeDiff, Nat.reduceBEq, reduceCtorEq, Int.reduceToNat, ↓reduceIte, rfP, rvP, rhP, frP, blH, bytesOf_length]) <;> (try clear e))
    | (refine pick_go (fun e f => ?_) (fun e f => ?_) <;> (try simp only [BB] at f) <;> (try simp only [numOk, verOk] at f) <;> (try simp (maxSteps := 1000000) (disch := first | omega | (simp only [LN, numOk, verOk, rfP, rvP, rhP, frP, blH, bytesOf_length] <;> omega) | exact Ck.mk rfl) only [e, VC, T, Nat.reduceMul, Nat.reduceAdd, Nat.reduceSub, Nat.reduceLT, Nat.reduceEqDiff, Nat.reduceLeDiff, Nat.reduceBEq, reduceCtorEq, Int.reduceToNat, ↓reduceIte, rfP, rvP, rhP, frP, blH, bytesOf_length]) <;> (try clear e)))
  simp only [EQ]
  exact decide_eq_decide.2 (by omega)
theorem any60 (rs : List ByteArray) : rs.any (fun s => decide (60 < s.size)) = true ↔ ¬ ∀ r ∈ rs, r.size ≤ 60 := by
  rw [List.any_eq_true]
  constructor
  · rintro ⟨r, h1, h2⟩ h3
    have := h3 r h1
    have := of_decide_eq_true h2
    omega
  · intro h
    refine Decidable.byContradiction fun k => h fun r hr => ?_
    refine Decidable.byContradiction fun q => k ⟨r, hr, decide_eq_true (by omega)⟩
theorem impl_SealText (v s b l : Int) (rs : List ByteArray) (hl : rs.length ≤ 1073741824) : Fn Try.prog 37 [.agg [.int .i64 v, .int .i64 s, .int .i64 b, .int .i64 l], .far (rs.map .str)] [] (.str (sealT v s b l rs)) [] := by
  by_cases hk : headOk v s b l
  · have hH := impl_HeadOk v s b l
    rw [decide_eq_true hk] at hH
    obtain ⟨_, ⟨hs1, hs2⟩, ⟨hb0, hb1⟩, _⟩ := id hk
    have ht := headT_size v s b l hk
    generalize hq : sealT v s b l rs = q
    refine fn_x tok (n := 62) (rs := [.tmp 4]) Try.func37 (by decide) rfl rfl rfl rfl ?_
    (try simp (maxSteps := 1000000) (disch := first | omega | (simp only [LN, numOk, verOk, rfP, rvP, rhP, frP, blH, bytesOf_length, ht] <;> omega) | exact Ck.mk rfl) only [VC, T, Nat.reduceMul, Nat.reduceAdd, Nat.reduceSub, Nat.reduceLT, Nat.reduceEqDiff, Nat.reduceLeDiff, Nat.reduceBEq, reduceCtorEq, Int.reduceToNat, ↓reduceIte, rfP, rvP, rhP, frP, blH, bytesOf_length, ht])
    repeat' (first
      | (refine br_go (fun e f => ?_) (fun e f => ?_) <;> (try simp only [BB] at f) <;> (try simp only [numOk, verOk] at f) <;> (try simp (maxSteps := 1000000) (disch := first | omega | (simp only [LN, numOk, verOk, rfP, rvP, rhP, frP, blH, bytesOf_length, ht] <;> omega) | exact Ck.mk rfl) only [e, VC, T, Nat.reduceMul, Nat.reduceAdd, Nat.reduceSub, Nat.reduceLT, Nat.reduceEqDiff, Nat.reduceLeDiff, Nat.reduceBEq, reduceCtorEq, Int.reduceToNat, ↓reduceIte, rfP, rvP, rhP, frP, blH, bytesOf_length, ht]) <;> (try clear e))
      | (refine pick_go (fun e f => ?_) (fun e f => ?_) <;> (try simp only [BB] at f) <;> (try simp only [numOk, verOk] at f) <;> (try simp (maxSteps := 1000000) (disch := first | omega | (simp only [LN, numOk, verOk, rfP, rvP, rhP, frP, blH, bytesOf_length, ht] <;> omega) | exact Ck.mk rfl) only [e, VC, T, Nat.reduceMul, Nat.reduceAdd, Nat.reduceSub, Nat.reduceLT, Nat.reduceEqDiff, Nat.reduceLeDiff, Nat.reduceBEq, reduceCtorEq, Int.reduceToNat, ↓reduceIte, rfP, rvP, rhP, frP, blH, bytesOf_length, ht]) <;> (try clear e))
      | ((first | refine call_x (hH) rfl ⟨rfl⟩ ?_ | refine call_x (impl_isNumber _) rfl ⟨rfl⟩ ?_ | refine call_x (ContainsFunc_str _ _ rs (by omega) SealText_1) rfl ⟨rfl⟩ ?_ | refine call_x (impl_HeadText _ _ _ _) rfl ⟨rfl⟩ ?_ | (refine call_h [384] [] (Builder_Write0 _ (by omega) (by omega)) (by decide) rfl rfl ?_; rintro _ _ ⟨rfl, rfl⟩)); (try simp (maxSteps := 1000000) (disch := first | omega | (simp only [LN, numOk, verOk, rfP, rvP, rhP, frP, blH, bytesOf_length, ht] <;> omega) | exact Ck.mk rfl) only [VC, T, Nat.reduceMul, Nat.reduceAdd, Nat.reduceSub, Nat.reduceLT, Nat.reduceEqDiff, Nat.reduceLeDiff, Nat.reduceBEq, reduceCtorEq, Int.reduceToNat, ↓reduceIte, rfP, rvP, rhP, frP, blH, bytesOf_length, ht])))
    · rw [← hq, seal_no _ _ _ _ _ fun h => by have := h.2.1; omega]
    · rw [← hq, seal_no _ _ _ _ _ fun h => (any60 rs).1 f h.2.2.2]
    · have hr : ∀ r ∈ rs, r.size ≤ 60 := Decidable.byContradiction fun h => by rw [(any60 rs).2 h] at f; cases f
      have hso : sealOk v s b l rs := ⟨hk, by omega, by omega, hr⟩
      have hq2 := hq
      unfold sealT at hq2
      rw [if_pos hso] at hq2
      refine lp_go (fun x : Nat × ByteArray × List Int => ⟨62, [(2, .ref 192 0), (5, .ref 384 0), (6, .row 2240 x.2.2.length), (35, .far (rs.map .str)), (36, .int .i64 rs.length), (37, .int .i64 x.1)], [(384, .box 83 [.ref 384 0, .row 2176 x.2.1.size]), (2176, .row ⟨1, 5⟩ ((bytesOf x.2.1).map (.int .u8))), (2240, .row ⟨1, 0⟩ (x.2.2.map (.int .i64))), (192, .box 25 [.int .i64 v, .int .i64 s, .int .i64 b, .int .i64 l])]⟩) (fun x => x.1 ≤ rs.length ∧ x.2.2.length = x.1 ∧ (24 ≤ x.2.1.size ∧ x.2.1.size ≤ 24 + 84 * x.1) ∧ (∀ o ∈ x.2.2, 0 ≤ o ∧ o ≤ 1000000) ∧ frGo v b (headT v s b l) [] rs = frGo v b x.2.1 x.2.2 (rs.drop x.1)) (fun x => rs.length - x.1) (0, headT v s b l, []) ?_ ?_ ?_
      · (simp (disch := first | omega | (simp only [LN, numOk, verOk, ht] <;> omega) | exact Ck.mk rfl) only [SB, EQ, Nat.reduceMul, Nat.reduceAdd, Nat.reduceSub, Nat.reduceLT, Nat.reduceEqDiff, Nat.reduceLeDiff, Nat.reduceBEq, reduceCtorEq, Int.reduceToNat, ↓reduceIte, ht]; try omega)
      · exact ⟨Nat.zero_le _, rfl, ⟨by simp only; omega, by simp only; omega⟩, fun _ h => absurd h (by simp), rfl⟩
      · rintro ⟨i, t, os⟩ ⟨h1, h2, h3, h4, h5⟩ N hN
        simp only at h1 h2 h3 h4 h5
        have hf := frameT_le v (b + i) (rs.getD i default)
        have hrs : i < rs.length → (rs.getD i default).size ≤ 60 := fun h => hr _ (getD_mem _ _ h)
        have hst : i < rs.length → frGo v b t os (rs.drop i) = frGo v b (t ++ frameT v (b + i) (rs.getD i default)) (os ++ [(t.size : Int)]) (rs.drop (i + 1)) := fun h => by
          rw [List.drop_eq_getElem_cons h, List.getD_eq_getElem?_getD, List.getElem?_eq_getElem h]
          subst h2
          rfl
        have hfl := footT_le v s b l os t.size
        (try simp (maxSteps := 1000000) (disch := first | omega | (simp only [LN, numOk, verOk, rfP, rvP, rhP, frP, blH, bytesOf_length] <;> omega) | exact Ck.mk rfl) only [VC, T, Nat.reduceMul, Nat.reduceAdd, Nat.reduceSub, Nat.reduceLT, Nat.reduceEqDiff, Nat.reduceLeDiff, Nat.reduceBEq, reduceCtorEq, Int.reduceToNat, ↓reduceIte, rfP, rvP, rhP, frP, blH, bytesOf_length])
        repeat' (first
          | (refine br_go (fun e f => ?_) (fun e f => ?_) <;> (try simp only [BB] at f) <;> (try simp only [numOk, verOk] at f) <;> (try simp (maxSteps := 1000000) (disch := first | omega | (simp only [LN, numOk, verOk, rfP, rvP, rhP, frP, blH, bytesOf_length] <;> omega) | exact Ck.mk rfl) only [e, VC, T, Nat.reduceMul, Nat.reduceAdd, Nat.reduceSub, Nat.reduceLT, Nat.reduceEqDiff, Nat.reduceLeDiff, Nat.reduceBEq, reduceCtorEq, Int.reduceToNat, ↓reduceIte, rfP, rvP, rhP, frP, blH, bytesOf_length]) <;> (try clear e))
          | (refine pick_go (fun e f => ?_) (fun e f => ?_) <;> (try simp only [BB] at f) <;> (try simp only [numOk, verOk] at f) <;> (try simp (maxSteps := 1000000) (disch := first | omega | (simp only [LN, numOk, verOk, rfP, rvP, rhP, frP, blH, bytesOf_length] <;> omega) | exact Ck.mk rfl) only [e, VC, T, Nat.reduceMul, Nat.reduceAdd, Nat.reduceSub, Nat.reduceLT, Nat.reduceEqDiff, Nat.reduceLeDiff, Nat.reduceBEq, reduceCtorEq, Int.reduceToNat, ↓reduceIte, rfP, rvP, rhP, frP, blH, bytesOf_length]) <;> (try clear e))
          | ((first | refine dr_go mixed (id := 12) [([], [5], []), ([], [2], [384, 2176]), ([], [6], []), ([0], [5], []), ([0, 1, 2, 3], [57, 58, 59], []), ([0, 1, 2, 3, 4], [56, 60], []), ([0, 1, 2, 3, 4, 5], [61], [])] rfl rfl rfl ?_ | (refine call_h [384, 2176] [] (Builder_Len1 t (by omega)) (by decide) rfl rfl ?_; rintro _ _ ⟨rfl, rfl⟩) | refine call_x (impl_FrameText _ _ _ (by have := hrs (by omega); omega)) rfl ⟨rfl⟩ ?_ | (refine call_h [384, 2176] [] (Builder_Write t _ (by omega) (by omega)) (by decide) rfl rfl ?_; rintro _ _ ⟨rfl, rfl⟩) | refine call_hx [384, 2176] [] (Builder_String t (by omega) (by omega)) (by decide) rfl rfl ?_ | (refine call_h [384] [] (Builder_Len _) (by decide) rfl rfl ?_; rintro _ _ ⟨rfl, rfl⟩) | refine call_hx [] [2240] (impl_FootText v s b l os t.size (by omega) (fun o ho => by have := h4 o ho; unfold i64; omega) (by unfold i64; omega)) (by decide) (by first | rfl | simp (maxSteps := 1000000) (disch := first | omega | (simp only [LN, numOk, verOk, rfP, rvP, rhP, frP, blH, bytesOf_length] <;> omega) | exact Ck.mk rfl) only [VC, T, Nat.reduceMul, Nat.reduceAdd, Nat.reduceSub, Nat.reduceLT, Nat.reduceEqDiff, Nat.reduceLeDiff, Nat.reduceBEq, reduceCtorEq, Int.reduceToNat, ↓reduceIte, rfP, rvP, rhP, frP, blH, bytesOf_length]) rfl ?_); (try simp (maxSteps := 1000000) (disch := first | omega | (simp only [LN, numOk, verOk, rfP, rvP, rhP, frP, blH, bytesOf_length] <;> omega) | exact Ck.mk rfl) only [VC, T, Nat.reduceMul, Nat.reduceAdd, Nat.reduceSub, Nat.reduceLT, Nat.reduceEqDiff, Nat.reduceLeDiff, Nat.reduceBEq, reduceCtorEq, Int.reduceToNat, ↓reduceIte, rfP, rvP, rhP, frP, blH, bytesOf_length])))
        · refine hN (i + 1, t ++ frameT v (b + i) (rs.getD i default), os ++ [(t.size : Int)]) _ ⟨by simp only; omega, by simp [h2], by simp only [ByteArray.size_append]; omega, fun o ho => ?_, by rw [h5, hst (by omega)]⟩ (by simp only; omega) ?_
          · rcases List.mem_append.1 ho with ho | ho
            · exact h4 o ho
            · rw [List.mem_singleton.1 ho]; omega
          · (simp (disch := first | omega | (simp only [LN, numOk, verOk] <;> omega) | exact Ck.mk rfl) only [SB, EQ, Nat.reduceMul, Nat.reduceAdd, Nat.reduceSub, Nat.reduceLT, Nat.reduceEqDiff, Nat.reduceLeDiff, Nat.reduceBEq, reduceCtorEq, Int.reduceToNat, ↓reduceIte]; try omega)
            exact ByteArray.size_append.symm
        · rw [← hq2, h5, List.drop_eq_nil_of_le (by omega)]; rfl
    · rw [← hq, seal_no _ _ _ _ _ fun h => by have := h.2.2.1; omega]
  · have hH := impl_HeadOk v s b l
    rw [decide_eq_false hk] at hH
    rw [seal_no _ _ _ _ _ fun h => hk h.1]
    refine fn_x tok (n := 62) (rs := [.tmp 4]) Try.func37 (by decide) rfl rfl rfl rfl ?_
    (try simp (maxSteps := 1000000) (disch := first | omega | (simp only [LN, numOk, verOk, rfP, rvP, rhP, frP, blH, bytesOf_length] <;> omega) | exact Ck.mk rfl) only [VC, T, Nat.reduceMul, Nat.reduceAdd, Nat.reduceSub, Nat.reduceLT, Nat.reduceEqDiff, Nat.reduceLeDiff, Nat.reduceBEq, reduceCtorEq, Int.reduceToNat, ↓reduceIte, rfP, rvP, rhP, frP, blH, bytesOf_length])
    repeat' (first
      | (refine br_go (fun e f => ?_) (fun e f => ?_) <;> (try simp only [BB] at f) <;> (try simp only [numOk, verOk] at f) <;> (try simp (maxSteps := 1000000) (disch := first | omega | (simp only [LN, numOk, verOk, rfP, rvP, rhP, frP, blH, bytesOf_length] <;> omega) | exact Ck.mk rfl) only [e, VC, T, Nat.reduceMul, Nat.reduceAdd, Nat.reduceSub, Nat.reduceLT, Nat.reduceEqDiff, Nat.reduceLeDiff, Nat.reduceBEq, reduceCtorEq, Int.reduceToNat, ↓reduceIte, rfP, rvP, rhP, frP, blH, bytesOf_length]) <;> (try clear e))
      | (refine pick_go (fun e f => ?_) (fun e f => ?_) <;> (try simp only [BB] at f) <;> (try simp only [numOk, verOk] at f) <;> (try simp (maxSteps := 1000000) (disch := first | omega | (simp only [LN, numOk, verOk, rfP, rvP, rhP, frP, blH, bytesOf_length] <;> omega) | exact Ck.mk rfl) only [e, VC, T, Nat.reduceMul, Nat.reduceAdd, Nat.reduceSub, Nat.reduceLT, Nat.reduceEqDiff, Nat.reduceLeDiff, Nat.reduceBEq, reduceCtorEq, Int.reduceToNat, ↓reduceIte, rfP, rvP, rhP, frP, blH, bytesOf_length]) <;> (try clear e))
      | ((first | refine call_x (hH) rfl ⟨rfl⟩ ?_); (try simp (maxSteps := 1000000) (disch := first | omega | (simp only [LN, numOk, verOk, rfP, rvP, rhP, frP, blH, bytesOf_length] <;> omega) | exact Ck.mk rfl) only [VC, T, Nat.reduceMul, Nat.reduceAdd, Nat.reduceSub, Nat.reduceLT, Nat.reduceEqDiff, Nat.reduceLeDiff, Nat.reduceBEq, reduceCtorEq, Int.reduceToNat, ↓reduceIte, rfP, rvP, rhP, frP, blH, bytesOf_length])))
theorem spec_SealText (v s b l : Int) (rs : List ByteArray) (hl : rs.length ≤ 1073741824) (hz : ∀ r ∈ rs, r.size ≤ 140737488355328) : Fn Try.prog 12 [.agg [.int .i64 v, .int .i64 s, .int .i64 b, .int .i64 l], .far (rs.map .str)] [] (.str (sealT v s b l rs)) [] := by
  by_cases hk : headOk v s b l
  · have hH := spec_HeadOk v s b l
    rw [decide_eq_true hk] at hH
    obtain ⟨_, ⟨hs1, hs2⟩, ⟨hb0, hb1⟩, _⟩ := id hk
    have ht := headT_size v s b l hk
    generalize hq : sealT v s b l rs = q
    refine fn_x tok (n := 66) (rs := [.tmp 4]) Try.func12 (by decide) rfl rfl rfl rfl ?_
    (try simp (maxSteps := 1000000) (disch := first | omega | (simp only [LN, numOk, verOk, rfP, rvP, rhP, frP, blH, bytesOf_length, ht] <;> omega) | exact Ck.mk rfl) only [VC, T, Nat.reduceMul, Nat.reduceAdd, Nat.reduceSub, Nat.reduceLT, Nat.reduceEqDiff, Nat.reduceLeDiff, Nat.reduceBEq, reduceCtorEq, Int.reduceToNat, ↓reduceIte, rfP, rvP, rhP, frP, blH, bytesOf_length, ht])
    repeat' (first
      | (refine br_go (fun e f => ?_) (fun e f => ?_) <;> (try simp only [BB] at f) <;> (try simp only [numOk, verOk] at f) <;> (try simp (maxSteps := 1000000) (disch := first | omega | (simp only [LN, numOk, verOk, rfP, rvP, rhP, frP, blH, bytesOf_length, ht] <;> omega) | exact Ck.mk rfl) only [e, VC, T, Nat.reduceMul, Nat.reduceAdd, Nat.reduceSub, Nat.reduceLT, Nat.reduceEqDiff, Nat.reduceLeDiff, Nat.reduceBEq, reduceCtorEq, Int.reduceToNat, ↓reduceIte, rfP, rvP, rhP, frP, blH, bytesOf_length, ht]) <;> (try clear e))
      | (refine pick_go (fun e f => ?_) (fun e f => ?_) <;> (try simp only [BB] at f) <;> (try simp only [numOk, verOk] at f) <;> (try simp (maxSteps := 1000000) (disch := first | omega | (simp only [LN, numOk, verOk, rfP, rvP, rhP, frP, blH, bytesOf_length, ht] <;> omega) | exact Ck.mk rfl) only [e, VC, T, Nat.reduceMul, Nat.reduceAdd, Nat.reduceSub, Nat.reduceLT, Nat.reduceEqDiff, Nat.reduceLeDiff, Nat.reduceBEq, reduceCtorEq, Int.reduceToNat, ↓reduceIte, rfP, rvP, rhP, frP, blH, bytesOf_length, ht]) <;> (try clear e))
      | ((first | refine call_x (hH) rfl ⟨rfl⟩ ?_ | refine call_x (spec_HeadText _ _ _ _) rfl ⟨rfl⟩ ?_); (try simp (maxSteps := 1000000) (disch := first | omega | (simp only [LN, numOk, verOk, rfP, rvP, rhP, frP, blH, bytesOf_length, ht] <;> omega) | exact Ck.mk rfl) only [VC, T, Nat.reduceMul, Nat.reduceAdd, Nat.reduceSub, Nat.reduceLT, Nat.reduceEqDiff, Nat.reduceLeDiff, Nat.reduceBEq, reduceCtorEq, Int.reduceToNat, ↓reduceIte, rfP, rvP, rhP, frP, blH, bytesOf_length, ht])))
    · rw [← hq, seal_no _ _ _ _ _ fun h => by have := h.2.1; omega]
    · rw [← hq, seal_no _ _ _ _ _ fun h => by have := h.2.2.1; omega]
    · refine lp_go (fun x : Nat × ByteArray × List Int => ⟨66, [(1, .far (rs.map .str)), (2, .ref 192 0), (5, .row 1728 x.2.1.size), (6, .row 1792 x.2.2.length), (7, .int .i64 x.1)], [(1728, .row ⟨1, 0⟩ ((bytesOf x.2.1).map (.int .u8))), (1792, .row ⟨1, 0⟩ (x.2.2.map (.int .i64))), (192, .box 25 [.int .i64 v, .int .i64 s, .int .i64 b, .int .i64 l])]⟩) (fun x => x.1 ≤ rs.length ∧ x.2.2.length = x.1 ∧ (24 ≤ x.2.1.size ∧ x.2.1.size ≤ 24 + 84 * x.1) ∧ (∀ o ∈ x.2.2, 0 ≤ o ∧ o ≤ 1000000) ∧ frGo v b (headT v s b l) [] rs = frGo v b x.2.1 x.2.2 (rs.drop x.1) ∧ (∀ (j : Nat) (h : j < rs.length), j < x.1 → rs[j].size ≤ 60)) (fun x => rs.length - x.1) (0, headT v s b l, []) ?_ ?_ ?_
      · (simp (disch := first | omega | (simp only [LN, numOk, verOk, ht] <;> omega) | exact Ck.mk rfl) only [SB, EQ, Nat.reduceMul, Nat.reduceAdd, Nat.reduceSub, Nat.reduceLT, Nat.reduceEqDiff, Nat.reduceLeDiff, Nat.reduceBEq, reduceCtorEq, Int.reduceToNat, ↓reduceIte, ht]; try omega)
      · exact ⟨Nat.zero_le _, rfl, ⟨by simp only; omega, by simp only; omega⟩, fun _ h => absurd h (by simp), rfl, fun j _ h => absurd h (Nat.not_lt_zero _)⟩
      · rintro ⟨i, t, os⟩ ⟨h1, h2, h3, h4, h5, h6⟩ N hN
        simp only at h1 h2 h3 h4 h5 h6
        have hf := frameT_le v (b + i) (rs.getD i default)
        have hgd : ∀ h : i < rs.length, rs[i] = rs.getD i default := fun h => by rw [List.getD_eq_getElem?_getD, List.getElem?_eq_getElem h]; rfl
        have hrs : i < rs.length → (rs.getD i default).size ≤ 140737488355328 := fun h => hz _ (getD_mem _ _ h)
        have hst : i < rs.length → frGo v b t os (rs.drop i) = frGo v b (t ++ frameT v (b + i) (rs.getD i default)) (os ++ [(t.size : Int)]) (rs.drop (i + 1)) := fun h => by
          rw [List.drop_eq_getElem_cons h, List.getD_eq_getElem?_getD, List.getElem?_eq_getElem h]
          subst h2
          rfl
        have hfl := footT_le v s b l os t.size
        have hap : ∀ u : ByteArray, (bytesOf t).map (PV.int .u8) ++ (bytesOf u).map (PV.int .u8) = (bytesOf (t ++ u)).map (.int .u8) := fun u => by rw [bytesOf_append, List.map_append]
        (try simp (maxSteps := 1000000) (disch := first | omega | (simp only [LN, numOk, verOk, rfP, rvP, rhP, frP, blH, bytesOf_length, hap, ByteArray.size_append] <;> omega) | exact Ck.mk rfl) only [VC, T, Nat.reduceMul, Nat.reduceAdd, Nat.reduceSub, Nat.reduceLT, Nat.reduceEqDiff, Nat.reduceLeDiff, Nat.reduceBEq, reduceCtorEq, Int.reduceToNat, ↓reduceIte, rfP, rvP, rhP, frP, blH, bytesOf_length, hap, ByteArray.size_append])
        repeat' (first
          | (refine br_go (fun e f => ?_) (fun e f => ?_) <;> (try simp only [BB] at f) <;> (try simp only [numOk, verOk] at f) <;> (try simp (maxSteps := 1000000) (disch := first | omega | (simp only [LN, numOk, verOk, rfP, rvP, rhP, frP, blH, bytesOf_length, hap, ByteArray.size_append] <;> omega) | exact Ck.mk rfl) only [e, VC, T, Nat.reduceMul, Nat.reduceAdd, Nat.reduceSub, Nat.reduceLT, Nat.reduceEqDiff, Nat.reduceLeDiff, Nat.reduceBEq, reduceCtorEq, Int.reduceToNat, ↓reduceIte, rfP, rvP, rhP, frP, blH, bytesOf_length, hap, ByteArray.size_append]) <;> (try clear e))
          | (refine pick_go (fun e f => ?_) (fun e f => ?_) <;> (try simp only [BB] at f) <;> (try simp only [numOk, verOk] at f) <;> (try simp (maxSteps := 1000000) (disch := first | omega | (simp only [LN, numOk, verOk, rfP, rvP, rhP, frP, blH, bytesOf_length, hap, ByteArray.size_append] <;> omega) | exact Ck.mk rfl) only [e, VC, T, Nat.reduceMul, Nat.reduceAdd, Nat.reduceSub, Nat.reduceLT, Nat.reduceEqDiff, Nat.reduceLeDiff, Nat.reduceBEq, reduceCtorEq, Int.reduceToNat, ↓reduceIte, rfP, rvP, rhP, frP, blH, bytesOf_length, hap, ByteArray.size_append]) <;> (try clear e))
          | ((first | refine dr_go mixed (id := 11) [([], [5], []), ([], [2], []), ([1], [46], []), ([], [2], []), ([3], [48], []), ([], [7], []), ([3, 4, 5], [49, 50], []), ([], [1], []), ([], [7], []), ([7, 8], [52, 53], []), ([7, 8, 9], [54], []), ([1, 2, 3, 4, 5, 6, 7, 8, 9, 10], [47, 51, 55], []), ([0, 1, 2, 3, 4, 5, 6, 7, 8, 9, 10, 11], [45, 56], []), ([0, 1, 2, 3, 4, 5, 6, 7, 8, 9, 10, 11, 12], [57], [])] rfl rfl rfl ?_ | refine call_x (spec_FrameText _ _ _ (hrs (by omega))) rfl ⟨rfl⟩ ?_ | refine call_hx [] [1792] (spec_FootText v s b l os t.size (by omega) (fun o ho => by have := h4 o ho; unfold i64; omega) (by unfold i64; omega)) (by decide) (by first | rfl | simp (maxSteps := 1000000) (disch := first | omega | (simp only [LN, numOk, verOk, rfP, rvP, rhP, frP, blH, bytesOf_length, hap, ByteArray.size_append] <;> omega) | exact Ck.mk rfl) only [VC, T, Nat.reduceMul, Nat.reduceAdd, Nat.reduceSub, Nat.reduceLT, Nat.reduceEqDiff, Nat.reduceLeDiff, Nat.reduceBEq, reduceCtorEq, Int.reduceToNat, ↓reduceIte, rfP, rvP, rhP, frP, blH, bytesOf_length, hap, ByteArray.size_append]) rfl ?_); (try simp (maxSteps := 1000000) (disch := first | omega | (simp only [LN, numOk, verOk, rfP, rvP, rhP, frP, blH, bytesOf_length, hap, ByteArray.size_append] <;> omega) | exact Ck.mk rfl) only [VC, T, Nat.reduceMul, Nat.reduceAdd, Nat.reduceSub, Nat.reduceLT, Nat.reduceEqDiff, Nat.reduceLeDiff, Nat.reduceBEq, reduceCtorEq, Int.reduceToNat, ↓reduceIte, rfP, rvP, rhP, frP, blH, bytesOf_length, hap, ByteArray.size_append])))
        · rw [← hq, seal_no _ _ _ _ _ fun h => by have := h.2.2.2 _ (getD_mem rs i (by omega)); omega]
        · refine hN (i + 1, t ++ frameT v (b + i) (rs.getD i default), os ++ [(t.size : Int)]) _ ⟨by simp only; omega, by simp [h2], by simp only [ByteArray.size_append]; omega, fun o ho => ?_, by rw [h5, hst (by omega)], fun j hj hji => ?_⟩ (by simp only; omega) ?_
          · rcases List.mem_append.1 ho with ho | ho
            · exact h4 o ho
            · rw [List.mem_singleton.1 ho]; omega
          · by_cases e : j = i
            · subst e; rw [hgd hj]; omega
            · exact h6 j hj (by simp only at hji; omega)
          · (simp (disch := first | omega | (simp only [LN, numOk, verOk] <;> omega) | exact Ck.mk rfl) only [SB, EQ, Nat.reduceMul, Nat.reduceAdd, Nat.reduceSub, Nat.reduceLT, Nat.reduceEqDiff, Nat.reduceLeDiff, Nat.reduceBEq, reduceCtorEq, Int.reduceToNat, ↓reduceIte]; try omega)
            exact ByteArray.size_append.symm
        · have hall : ∀ r ∈ rs, r.size ≤ 60 := fun r hr => by
            obtain ⟨j, hj, rfl⟩ := List.getElem_of_mem hr
            exact h6 j hj (by omega)
          refine ⟨fun x hx => by have := bytesOf_range _ x hx; omega, ?_⟩
          rw [strOf_bytesOf, ← hq]
          unfold sealT
          rw [if_pos ⟨hk, by omega, by omega, hall⟩, h5, List.drop_eq_nil_of_le (by omega)]; rfl
  · have hH := spec_HeadOk v s b l
    rw [decide_eq_false hk] at hH
    rw [seal_no _ _ _ _ _ fun h => hk h.1]
    refine fn_x tok (n := 66) (rs := [.tmp 4]) Try.func12 (by decide) rfl rfl rfl rfl ?_
    (try simp (maxSteps := 1000000) (disch := first | omega | (simp only [LN, numOk, verOk, rfP, rvP, rhP, frP, blH, bytesOf_length] <;> omega) | exact Ck.mk rfl) only [VC, T, Nat.reduceMul, Nat.reduceAdd, Nat.reduceSub, Nat.reduceLT, Nat.reduceEqDiff, Nat.reduceLeDiff, Nat.reduceBEq, reduceCtorEq, Int.reduceToNat, ↓reduceIte, rfP, rvP, rhP, frP, blH, bytesOf_length])
    repeat' (first
      | (refine br_go (fun e f => ?_) (fun e f => ?_) <;> (try simp only [BB] at f) <;> (try simp only [numOk, verOk] at f) <;> (try simp (maxSteps := 1000000) (disch := first | omega | (simp only [LN, numOk, verOk, rfP, rvP, rhP, frP, blH, bytesOf_length] <;> omega) | exact Ck.mk rfl) only [e, VC, T, Nat.reduceMul, Nat.reduceAdd, Nat.reduceSub, Nat.reduceLT, Nat.reduceEqDiff, Nat.reduceLeDiff, Nat.reduceBEq, reduceCtorEq, Int.reduceToNat, ↓reduceIte, rfP, rvP, rhP, frP, blH, bytesOf_length]) <;> (try clear e))
      | (refine pick_go (fun e f => ?_) (fun e f => ?_) <;> (try simp only [BB] at f) <;> (try simp only [numOk, verOk] at f) <;> (try simp (maxSteps := 1000000) (disch := first | omega | (simp only [LN, numOk, verOk, rfP, rvP, rhP, frP, blH, bytesOf_length] <;> omega) | exact Ck.mk rfl) only [e, VC, T, Nat.reduceMul, Nat.reduceAdd, Nat.reduceSub, Nat.reduceLT, Nat.reduceEqDiff, Nat.reduceLeDiff, Nat.reduceBEq, reduceCtorEq, Int.reduceToNat, ↓reduceIte, rfP, rvP, rhP, frP, blH, bytesOf_length]) <;> (try clear e))
      | ((first | refine call_x (hH) rfl ⟨rfl⟩ ?_); (try simp (maxSteps := 1000000) (disch := first | omega | (simp only [LN, numOk, verOk, rfP, rvP, rhP, frP, blH, bytesOf_length] <;> omega) | exact Ck.mk rfl) only [VC, T, Nat.reduceMul, Nat.reduceAdd, Nat.reduceSub, Nat.reduceLT, Nat.reduceEqDiff, Nat.reduceLeDiff, Nat.reduceBEq, reduceCtorEq, Int.reduceToNat, ↓reduceIte, rfP, rvP, rhP, frP, blH, bytesOf_length])))
theorem impl_SealText2 (v s b l : Int) (rs : List ByteArray) (hl : rs.length ≤ 1073741824) (hz : ∀ r ∈ rs, r.size ≤ 140737488355328) : Fn Try.prog 37 [.agg [.int .i64 v, .int .i64 s, .int .i64 b, .int .i64 l], .far (rs.map .str)] [] (.str (sealT v s b l rs)) [] := by
  first | exact impl_SealText v s b l rs hl | exact impl_SealText v s b l rs hl hz
theorem spec_SealText2 (v s b l : Int) (rs : List ByteArray) (hl : rs.length ≤ 1073741824) (hz : ∀ r ∈ rs, r.size ≤ 140737488355328) : Fn Try.prog 12 [.agg [.int .i64 v, .int .i64 s, .int .i64 b, .int .i64 l], .far (rs.map .str)] [] (.str (sealT v s b l rs)) [] := by
  first | exact spec_SealText v s b l rs hl | exact spec_SealText v s b l rs hl hz
end Go.Pv

/- What functions of the program and of the reference do, in plain values. -/
namespace Go.Pv
open Go.Proofs Go.Mth
set_option linter.unusedSimpArgs false
set_option linter.unusedVariables false
set_option maxHeartbeats 4000000

/-! ### scans -/
def slN (K n : Nat) : PV := if n = 0 then .nils else .row K n
def hpN (K : Nat) (xs : List PV) : Hp := if xs.length = 0 then [] else [(K, .row ⟨1, 0⟩ xs)]
abbrev Sc := Bool × Int × Int × Int × Int × List ByteArray × List Int × Int × Bool
/-- A scan as it is handed back: its slices as one's own. -/
def scanR (t : Sc) : PV := .agg [.bool t.1, .int .i64 t.2.1, .int .i64 t.2.2.1, .int .i64 t.2.2.2.1, .int .i64 t.2.2.2.2.1, .row 64 t.2.2.2.2.2.1.length, .row 65 t.2.2.2.2.2.2.1.length, .int .i64 t.2.2.2.2.2.2.2.1, .bool t.2.2.2.2.2.2.2.2]
def scanH (t : Sc) : Hp := [(64, .row ⟨1, 0⟩ (t.2.2.2.2.2.1.map .str)), (65, .row ⟨1, 0⟩ (t.2.2.2.2.2.2.1.map (.int .i64)))]
def scanP (t : Sc) : PV := .agg [.bool t.1, .int .i64 t.2.1, .int .i64 t.2.2.1, .int .i64 t.2.2.2.1, .int .i64 t.2.2.2.2.1, .far (t.2.2.2.2.2.1.map .str), .far (t.2.2.2.2.2.2.1.map (.int .i64)), .int .i64 t.2.2.2.2.2.2.2.1, .bool t.2.2.2.2.2.2.2.2]
theorem impl_ScanR (b : ByteArray) (hb : b.size ≤ 1073741824) : FnE Try.prog 56 [.str b] [] (fun r m => r = scanR (scan b) ∧ m = scanH (scan b)) := by
  refine fn_e tok (n := 64) (rs := [.cell 2 70]) Try.func56 (by decide) rfl rfl rfl rfl (low_of rfl) ?_
  (try simp (maxSteps := 1000000) (disch := first | omega | (simp only [LN, numOk, verOk, rfP, rvP, rhP, frP] <;> omega) | exact Ck.mk rfl) only [VC, T, Nat.reduceMul, Nat.reduceAdd, Nat.reduceSub, Nat.reduceLT, Nat.reduceEqDiff, Nat.reduceLeDiff, Nat.reduceBEq, reduceCtorEq, Int.reduceToNat, ↓reduceIte, rfP, rvP, rhP, frP])
  repeat' (first
    | (refine br_go (fun e f => ?_) (fun e f => ?_) <;> (try simp only [BB] at f) <;> (try simp only [numOk, verOk] at f) <;> (try simp (maxSteps := 1000000) (disch := first | omega | (simp only [LN, numOk, verOk, rfP, rvP, rhP, frP] <;> omega) | exact Ck.mk rfl) only [e, VC, T, Nat.reduceMul, Nat.reduceAdd, Nat.reduceSub, Nat.reduceLT, Nat.reduceEqDiff, Nat.reduceLeDiff, Nat.reduceBEq, reduceCtorEq, Int.reduceToNat, ↓reduceIte, rfP, rvP, rhP, frP]) <;> (try clear e))
    | (refine pick_go (fun e f => ?_) (fun e f => ?_) <;> (try simp only [BB] at f) <;> (try simp only [numOk, verOk] at f) <;> (try simp (maxSteps := 1000000) (disch := first | omega | (simp only [LN, numOk, verOk, rfP, rvP, rhP, frP] <;> omega) | exact Ck.mk rfl) only [e, VC, T, Nat.reduceMul, Nat.reduceAdd, Nat.reduceSub, Nat.reduceLT, Nat.reduceEqDiff, Nat.reduceLeDiff, Nat.reduceBEq, reduceCtorEq, Int.reduceToNat, ↓reduceIte, rfP, rvP, rhP, frP]) <;> (try clear e))
    | ((first | refine call_x (impl_ReadHead b (by omega)) rfl ⟨rfl⟩ ?_); (try simp (maxSteps := 1000000) (disch := first | omega | (simp only [LN, numOk, verOk, rfP, rvP, rhP, frP] <;> omega) | exact Ck.mk rfl) only [VC, T, Nat.reduceMul, Nat.reduceAdd, Nat.reduceSub, Nat.reduceLT, Nat.reduceEqDiff, Nat.reduceLeDiff, Nat.reduceBEq, reduceCtorEq, Int.reduceToNat, ↓reduceIte, rfP, rvP, rhP, frP])))
  · have hk := rHead_ok b f
    obtain ⟨k1, k2, _⟩ := hk
    unfold headOk verOk numOk at k2
    have ht : scan b = (true, (rHead b).1, (rHead b).2.1, (rHead b).2.2.1, (rHead b).2.2.2.1, scanGo (rHead b).1 (rHead b).2.2.1 b (b.size + 1) [] [] 24) := by unfold scan; rw [if_pos f]
    generalize (rHead b).1 = v, (rHead b).2.1 = s, (rHead b).2.2.1 = base, (rHead b).2.2.2.1 = l at *
    refine lp_go (fun x : List ByteArray × List Int × Int × Nat => ⟨64, [(0, .str b), (2, .ref 192 0), (3, .ref 256 0), (5, .ref 384 0)], [(384, .box 70 [.bool true, .int .i64 v, .int .i64 s, .int .i64 base, .int .i64 l, slN 3456 x.1.length, slN 3904 x.2.1.length, .int .i64 x.2.2.1, .bool false]), (256, .box 25 [.int .i64 v, .int .i64 s, .int .i64 base, .int .i64 l]), (192, .box 70 [.bool false, .int .i64 0, .int .i64 0, .int .i64 0, .int .i64 0, .nils, .nils, .int .i64 0, .bool false])] ++ hpN 3456 (x.1.map .str) ++ hpN 3904 (x.2.1.map (.int .i64))⟩)
      (fun x => ScInv b x.1 x.2.1 x.2.2.1 ∧ (b.size : Int) < x.2.2.1 + x.2.2.2 ∧ scanGo v base b (b.size + 1) [] [] 24 = scanGo v base b x.2.2.2 x.1 x.2.1 x.2.2.1) (fun x => x.2.2.2) ([], [], 24, b.size + 1) ?_ ?_ ?_
    · (simp (disch := first | omega | (simp only [LN, numOk, verOk, slN, hpN] <;> omega) | exact Ck.mk rfl) only [SB, EQ, Nat.reduceMul, Nat.reduceAdd, Nat.reduceSub, Nat.reduceLT, Nat.reduceEqDiff, Nat.reduceLeDiff, Nat.reduceBEq, reduceCtorEq, Int.reduceToNat, ↓reduceIte, slN, hpN]; try omega)
    · exact ⟨⟨rfl, by simp, by simp only; omega, by simp, by simp, by simp⟩, by simp only; omega, rfl⟩
    · rintro ⟨rs, os, e, d⟩ ⟨hi, hd, hg⟩ N hN
      simp only at hi hd hg
      obtain ⟨i1, i2, i3, i4, i5, i6⟩ := id hi
      obtain ⟨d, rfl⟩ : ∃ d', d = d' + 1 := ⟨d - 1, by omega⟩
      have hst : scanGo v base b (d + 1) rs os e = if markAt v (base + rs.length) b e = true then (rs, os, e, true) else if (rFrame v (base + rs.length) b e).2.2 = true then scanGo v base b d (rs ++ [(rFrame v (base + rs.length) b e).1]) (os ++ [e]) (rFrame v (base + rs.length) b e).2.1 else (rs, os, e, false) := rfl
      have hok := rFrame_ok v (base + rs.length) b e
      have hsc := scInv_step v base b rs os e hi
      have next : (rFrame v (base + rs.length) b e).2.2 = true → markAt v (base + rs.length) b e = false → _ := fun h1 h2 => hN (rs ++ [(rFrame v (base + rs.length) b e).1], os ++ [e], (rFrame v (base + rs.length) b e).2.1, d)
      rw [ht, hg, hst]
      cases rs with
      | nil =>
        obtain rfl : os = [] := List.eq_nil_of_length_eq_zero (by simpa using i1.symm)
        simp only [List.length_nil, List.nil_append, show ((0 : Nat) : Int) = 0 from rfl, Int.add_zero] at *
        (try simp (maxSteps := 1000000) (disch := first | omega | (simp only [LN, numOk, verOk, rfP, rvP, rhP, frP, slN, hpN, wsmall, Int.add_zero] <;> omega) | exact Ck.mk rfl) only [VC, T, Nat.reduceMul, Nat.reduceAdd, Nat.reduceSub, Nat.reduceLT, Nat.reduceEqDiff, Nat.reduceLeDiff, Nat.reduceBEq, reduceCtorEq, Int.reduceToNat, ↓reduceIte, rfP, rvP, rhP, frP, slN, hpN, wsmall, Int.add_zero])
        repeat' (first
          | (refine br_go (fun e f => ?_) (fun e f => ?_) <;> (try simp only [BB] at f) <;> (try simp only [numOk, verOk] at f) <;> (try simp (maxSteps := 1000000) (disch := first | omega | (simp only [LN, numOk, verOk, rfP, rvP, rhP, frP, slN, hpN, wsmall, Int.add_zero] <;> omega) | exact Ck.mk rfl) only [e, VC, T, Nat.reduceMul, Nat.reduceAdd, Nat.reduceSub, Nat.reduceLT, Nat.reduceEqDiff, Nat.reduceLeDiff, Nat.reduceBEq, reduceCtorEq, Int.reduceToNat, ↓reduceIte, rfP, rvP, rhP, frP, slN, hpN, wsmall, Int.add_zero]) <;> (try clear e))
          | (refine pick_go (fun e f => ?_) (fun e f => ?_) <;> (try simp only [BB] at f) <;> (try simp only [numOk, verOk] at f) <;> (try simp (maxSteps := 1000000) (disch := first | omega | (simp only [LN, numOk, verOk, rfP, rvP, rhP, frP, slN, hpN, wsmall, Int.add_zero] <;> omega) | exact Ck.mk rfl) only [e, VC, T, Nat.reduceMul, Nat.reduceAdd, Nat.reduceSub, Nat.reduceLT, Nat.reduceEqDiff, Nat.reduceLeDiff, Nat.reduceBEq, reduceCtorEq, Int.reduceToNat, ↓reduceIte, rfP, rvP, rhP, frP, slN, hpN, wsmall, Int.add_zero]) <;> (try clear e))
          | ((first | refine call_x (impl_MarkAt _ _ _ (by omega) _ (by omega) (by omega)) rfl ⟨rfl⟩ ?_ | refine call_x (impl_ReadFrame _ _ _ (by omega) _ (by omega) (by omega)) rfl ⟨rfl⟩ ?_); (try simp (maxSteps := 1000000) (disch := first | omega | (simp only [LN, numOk, verOk, rfP, rvP, rhP, frP, slN, hpN, wsmall, Int.add_zero] <;> omega) | exact Ck.mk rfl) only [VC, T, Nat.reduceMul, Nat.reduceAdd, Nat.reduceSub, Nat.reduceLT, Nat.reduceEqDiff, Nat.reduceLeDiff, Nat.reduceBEq, reduceCtorEq, Int.reduceToNat, ↓reduceIte, rfP, rvP, rhP, frP, slN, hpN, wsmall, Int.add_zero])))
        · exact fin_t [none, none] ⟨rfl, rfl⟩ rfl (by simp [RV, RV2, RVl, RV1, tau, scanR, scanH, hget, data1, oneOf]) (by simp [RH, tau, scanH, hget]) (by simp [Taus, scanH, hget])
        · refine hN ([(rFrame v base b e).1], [e], (rFrame v base b e).2.1, d) _ ⟨hsc f, by have := hok f; simp only; omega, ?_⟩ (by simp) ?_
          · rw [hg, hst]; simp_all
          · (simp (disch := first | omega | (simp only [LN, numOk, verOk, slN, hpN] <;> omega) | exact Ck.mk rfl) only [SB, EQ, Nat.reduceMul, Nat.reduceAdd, Nat.reduceSub, Nat.reduceLT, Nat.reduceEqDiff, Nat.reduceLeDiff, Nat.reduceBEq, reduceCtorEq, Int.reduceToNat, ↓reduceIte, slN, hpN]; try omega); exact ⟨rfl, rfl⟩
        · exact fin_t [none, none] ⟨rfl, rfl⟩ rfl (by simp [RV, RV2, RVl, RV1, tau, scanR, scanH, hget, data1, oneOf]) (by simp [RH, tau, scanH, hget]) (by simp [Taus, scanH, hget])
      | cons r rs =>
        obtain ⟨o, os, rfl⟩ : ∃ o os', os = o :: os' := by
          cases os with
          | nil => simp at i1
          | cons o os => exact ⟨o, os, rfl⟩
        simp only [List.length_cons, show ((rs.length + 1 : Nat) : Int) = (rs.length : Int) + 1 from rfl] at *
        (try simp (maxSteps := 1000000) (disch := first | omega | (simp only [LN, numOk, verOk, rfP, rvP, rhP, frP, slN, hpN, wsmall] <;> omega) | exact Ck.mk rfl) only [VC, T, Nat.reduceMul, Nat.reduceAdd, Nat.reduceSub, Nat.reduceLT, Nat.reduceEqDiff, Nat.reduceLeDiff, Nat.reduceBEq, reduceCtorEq, Int.reduceToNat, ↓reduceIte, rfP, rvP, rhP, frP, slN, hpN, wsmall])
        repeat' (first
          | (refine br_go (fun e f => ?_) (fun e f => ?_) <;> (try simp only [BB] at f) <;> (try simp only [numOk, verOk] at f) <;> (try simp (maxSteps := 1000000) (disch := first | omega | (simp only [LN, numOk, verOk, rfP, rvP, rhP, frP, slN, hpN, wsmall] <;> omega) | exact Ck.mk rfl) only [e, VC, T, Nat.reduceMul, Nat.reduceAdd, Nat.reduceSub, Nat.reduceLT, Nat.reduceEqDiff, Nat.reduceLeDiff, Nat.reduceBEq, reduceCtorEq, Int.reduceToNat, ↓reduceIte, rfP, rvP, rhP, frP, slN, hpN, wsmall]) <;> (try clear e))
          | (refine pick_go (fun e f => ?_) (fun e f => ?_) <;> (try simp only [BB] at f) <;> (try simp only [numOk, verOk] at f) <;> (try simp (maxSteps := 1000000) (disch := first | omega | (simp only [LN, numOk, verOk, rfP, rvP, rhP, frP, slN, hpN, wsmall] <;> omega) | exact Ck.mk rfl) only [e, VC, T, Nat.reduceMul, Nat.reduceAdd, Nat.reduceSub, Nat.reduceLT, Nat.reduceEqDiff, Nat.reduceLeDiff, Nat.reduceBEq, reduceCtorEq, Int.reduceToNat, ↓reduceIte, rfP, rvP, rhP, frP, slN, hpN, wsmall]) <;> (try clear e))
          | ((first | refine call_x (impl_MarkAt _ _ _ (by omega) _ (by omega) (by omega)) rfl ⟨rfl⟩ ?_ | refine call_x (impl_ReadFrame _ _ _ (by omega) _ (by omega) (by omega)) rfl ⟨rfl⟩ ?_); (try simp (maxSteps := 1000000) (disch := first | omega | (simp only [LN, numOk, verOk, rfP, rvP, rhP, frP, slN, hpN, wsmall] <;> omega) | exact Ck.mk rfl) only [VC, T, Nat.reduceMul, Nat.reduceAdd, Nat.reduceSub, Nat.reduceLT, Nat.reduceEqDiff, Nat.reduceLeDiff, Nat.reduceBEq, reduceCtorEq, Int.reduceToNat, ↓reduceIte, rfP, rvP, rhP, frP, slN, hpN, wsmall])))
        · exact fin_t [some 3456, some 3904] ⟨rfl, rfl⟩ rfl (by simp [RV, RV2, RVl, RV1, tau, scanR, scanH, hget, data1, oneOf]) (by simp [RH, tau, scanH, hget]) (by simp [Taus, scanH, hget])
        · refine hN (r :: rs ++ [(rFrame v (base + (rs.length + 1)) b e).1], o :: os ++ [e], (rFrame v (base + (rs.length + 1)) b e).2.1, d) _ ⟨?_, ?_, ?_⟩ (by simp) ?_
          · exact hsc f
          · have := hok f; simp only; omega
          · rw [hg, hst]; simp_all
          · (simp (disch := first | omega | (simp only [LN, numOk, verOk, slN, hpN] <;> omega) | exact Ck.mk rfl) only [SB, EQ, Nat.reduceMul, Nat.reduceAdd, Nat.reduceSub, Nat.reduceLT, Nat.reduceEqDiff, Nat.reduceLeDiff, Nat.reduceBEq, reduceCtorEq, Int.reduceToNat, ↓reduceIte, slN, hpN]; try omega); exact ⟨rfl, rfl⟩
        · exact fin_t [some 3456, some 3904] ⟨rfl, rfl⟩ rfl (by simp [RV, RV2, RVl, RV1, tau, scanR, scanH, hget, data1, oneOf]) (by simp [RH, tau, scanH, hget]) (by simp [Taus, scanH, hget])
  · rw [show scan b = (false, 0, 0, 0, 0, [], [], 0, false) by unfold scan; rw [f]; rfl]
    exact fin_t [none, none] ⟨rfl, rfl⟩ rfl (by simp [RV, RV2, RVl, RV1, tau, scanR, scanH, hget, data1, oneOf]) (by simp [RH, tau, scanH, hget]) (by simp [Taus, scanH, hget])
theorem spec_ScanR (b : ByteArray) (hb : b.size ≤ 1073741824) : FnE Try.prog 57 [.str b] [] (fun r m => r = scanR (scan b) ∧ m = scanH (scan b)) := by
  refine fn_e tok (n := 64) (rs := [.cell 2 70]) Try.func57 (by decide) rfl rfl rfl rfl (low_of rfl) ?_
  (try simp (maxSteps := 1000000) (disch := first | omega | (simp only [LN, numOk, verOk, rfP, rvP, rhP, frP] <;> omega) | exact Ck.mk rfl) only [VC, T, Nat.reduceMul, Nat.reduceAdd, Nat.reduceSub, Nat.reduceLT, Nat.reduceEqDiff, Nat.reduceLeDiff, Nat.reduceBEq, reduceCtorEq, Int.reduceToNat, ↓reduceIte, rfP, rvP, rhP, frP])
  repeat' (first
    | (refine br_go (fun e f => ?_) (fun e f => ?_) <;> (try simp only [BB] at f) <;> (try simp only [numOk, verOk] at f) <;> (try simp (maxSteps := 1000000) (disch := first | omega | (simp only [LN, numOk, verOk, rfP, rvP, rhP, frP] <;> omega) | exact Ck.mk rfl) only [e, VC, T, Nat.reduceMul, Nat.reduceAdd, Nat.reduceSub, Nat.reduceLT, Nat.reduceEqDiff, Nat.reduceLeDiff, Nat.reduceBEq, reduceCtorEq, Int.reduceToNat, ↓reduceIte, rfP, rvP, rhP, frP]) <;> (try clear e))
    | (refine pick_go (fun e f => ?_) (fun e f => ?_) <;> (try simp only [BB] at f) <;> (try simp only [numOk, verOk] at f) <;> (try simp (maxSteps := 1000000) (disch := first | omega | (simp only [LN, numOk, verOk, rfP, rvP, rhP, frP] <;> omega) | exact Ck.mk rfl) only [e, VC, T, Nat.reduceMul, Nat.reduceAdd, Nat.reduceSub, Nat.reduceLT, Nat.reduceEqDiff, Nat.reduceLeDiff, Nat.reduceBEq, reduceCtorEq, Int.reduceToNat, ↓reduceIte, rfP, rvP, rhP, frP]) <;> (try clear e))
    | ((first | refine call_x (spec_ReadHead b (by omega)) rfl ⟨rfl⟩ ?_); (try simp (maxSteps := 1000000) (disch := first | omega | (simp only [LN, numOk, verOk, rfP, rvP, rhP, frP] <;> omega) | exact Ck.mk rfl) only [VC, T, Nat.reduceMul, Nat.reduceAdd, Nat.reduceSub, Nat.reduceLT, Nat.reduceEqDiff, Nat.reduceLeDiff, Nat.reduceBEq, reduceCtorEq, Int.reduceToNat, ↓reduceIte, rfP, rvP, rhP, frP])))
  · have hk := rHead_ok b f
    obtain ⟨k1, k2, _⟩ := hk
    unfold headOk verOk numOk at k2
    have ht : scan b = (true, (rHead b).1, (rHead b).2.1, (rHead b).2.2.1, (rHead b).2.2.2.1, scanGo (rHead b).1 (rHead b).2.2.1 b (b.size + 1) [] [] 24) := by unfold scan; rw [if_pos f]
    generalize (rHead b).1 = v, (rHead b).2.1 = s, (rHead b).2.2.1 = base, (rHead b).2.2.2.1 = l at *
    refine lp_go (fun x : List ByteArray × List Int × Int × Nat => ⟨64, [(0, .str b), (2, .ref 192 0), (3, .ref 256 0), (5, .ref 384 0)], [(384, .box 70 [.bool true, .int .i64 v, .int .i64 s, .int .i64 base, .int .i64 l, slN 3456 x.1.length, slN 3904 x.2.1.length, .int .i64 x.2.2.1, .bool false]), (256, .box 25 [.int .i64 v, .int .i64 s, .int .i64 base, .int .i64 l]), (192, .box 70 [.bool false, .int .i64 0, .int .i64 0, .int .i64 0, .int .i64 0, .nils, .nils, .int .i64 0, .bool false])] ++ hpN 3456 (x.1.map .str) ++ hpN 3904 (x.2.1.map (.int .i64))⟩)
      (fun x => ScInv b x.1 x.2.1 x.2.2.1 ∧ (b.size : Int) < x.2.2.1 + x.2.2.2 ∧ scanGo v base b (b.size + 1) [] [] 24 = scanGo v base b x.2.2.2 x.1 x.2.1 x.2.2.1) (fun x => x.2.2.2) ([], [], 24, b.size + 1) ?_ ?_ ?_
    · (simp (disch := first | omega | (simp only [LN, numOk, verOk, slN, hpN] <;> omega) | exact Ck.mk rfl) only [SB, EQ, Nat.reduceMul, Nat.reduceAdd, Nat.reduceSub, Nat.reduceLT, Nat.reduceEqDiff, Nat.reduceLeDiff, Nat.reduceBEq, reduceCtorEq, Int.reduceToNat, ↓reduceIte, slN, hpN]; try omega)
    · exact ⟨⟨rfl, by simp, by simp only; omega, by simp, by simp, by simp⟩, by simp only; omega, rfl⟩
    · rintro ⟨rs, os, e, d⟩ ⟨hi, hd, hg⟩ N hN
      simp only at hi hd hg
      obtain ⟨i1, i2, i3, i4, i5, i6⟩ := id hi
      obtain ⟨d, rfl⟩ : ∃ d', d = d' + 1 := ⟨d - 1, by omega⟩
      have hst : scanGo v base b (d + 1) rs os e = if markAt v (base + rs.length) b e = true then (rs, os, e, true) else if (rFrame v (base + rs.length) b e).2.2 = true then scanGo v base b d (rs ++ [(rFrame v (base + rs.length) b e).1]) (os ++ [e]) (rFrame v (base + rs.length) b e).2.1 else (rs, os, e, false) := rfl
      have hok := rFrame_ok v (base + rs.length) b e
      have hsc := scInv_step v base b rs os e hi
      have next : (rFrame v (base + rs.length) b e).2.2 = true → markAt v (base + rs.length) b e = false → _ := fun h1 h2 => hN (rs ++ [(rFrame v (base + rs.length) b e).1], os ++ [e], (rFrame v (base + rs.length) b e).2.1, d)
      rw [ht, hg, hst]
      cases rs with
      | nil =>
        obtain rfl : os = [] := List.eq_nil_of_length_eq_zero (by simpa using i1.symm)
        simp only [List.length_nil, List.nil_append, show ((0 : Nat) : Int) = 0 from rfl, Int.add_zero] at *
        (try simp (maxSteps := 1000000) (disch := first | omega | (simp only [LN, numOk, verOk, rfP, rvP, rhP, frP, slN, hpN, wsmall, Int.add_zero] <;> omega) | exact Ck.mk rfl) only [VC, T, Nat.reduceMul, Nat.reduceAdd, Nat.reduceSub, Nat.reduceLT, Nat.reduceEqDiff, Nat.reduceLeDiff, Nat.reduceBEq, reduceCtorEq, Int.reduceToNat, ↓reduceIte, rfP, rvP, rhP, frP, slN, hpN, wsmall, Int.add_zero])
        repeat' (first
          | (refine br_go (fun e f => ?_) (fun e f => ?_) <;> (try simp only [BB] at f) <;> (try simp only [numOk, verOk] at f) <;> (try simp (maxSteps := 1000000) (disch := first | omega | (simp only [LN, numOk, verOk, rfP, rvP, rhP, frP, slN, hpN, wsmall, Int.add_zero] <;> omega) | exact Ck.mk rfl) only [e, VC, T, Nat.reduceMul, Nat.reduceAdd, Nat.reduceSub, Nat.reduceLT, Nat.reduceEqDiff, Nat.reduceLeDiff, Nat.reduceBEq, reduceCtorEq, Int.reduceToNat, ↓reduceIte, rfP, rvP, rhP, frP, slN, hpN, wsmall, Int.add_zero]) <;> (try clear e))
          | (refine pick_go (fun e f => ?_) (fun e f => ?_) <;> (try simp only [BB] at f) <;> (try simp only [numOk, verOk] at f) <;> (try simp (maxSteps := 1000000) (disch := first | omega | (simp only [LN, numOk, verOk, rfP, rvP, rhP, frP, slN, hpN, wsmall, Int.add_zero] <;> omega) | exact Ck.mk rfl) only [e, VC, T, Nat.reduceMul, Nat.reduceAdd, Nat.reduceSub, Nat.reduceLT, Nat.reduceEqDiff, Nat.reduceLeDiff, Nat.reduceBEq, reduceCtorEq, Int.reduceToNat, ↓reduceIte, rfP, rvP, rhP, frP, slN, hpN, wsmall, Int.add_zero]) <;> (try clear e))
          | ((first | refine call_x (spec_MarkAt _ _ _ (by omega) _ (by omega) (by omega)) rfl ⟨rfl⟩ ?_ | refine call_x (spec_ReadFrame _ _ _ (by omega) _ (by omega) (by omega)) rfl ⟨rfl⟩ ?_); (try simp (maxSteps := 1000000) (disch := first | omega | (simp only [LN, numOk, verOk, rfP, rvP, rhP, frP, slN, hpN, wsmall, Int.add_zero] <;> omega) | exact Ck.mk rfl) only [VC, T, Nat.reduceMul, Nat.reduceAdd, Nat.reduceSub, Nat.reduceLT, Nat.reduceEqDiff, Nat.reduceLeDiff, Nat.reduceBEq, reduceCtorEq, Int.reduceToNat, ↓reduceIte, rfP, rvP, rhP, frP, slN, hpN, wsmall, Int.add_zero])))
        · exact fin_t [none, none] ⟨rfl, rfl⟩ rfl (by simp [RV, RV2, RVl, RV1, tau, scanR, scanH, hget, data1, oneOf]) (by simp [RH, tau, scanH, hget]) (by simp [Taus, scanH, hget])
        · refine hN ([(rFrame v base b e).1], [e], (rFrame v base b e).2.1, d) _ ⟨hsc f, by have := hok f; simp only; omega, ?_⟩ (by simp) ?_
          · rw [hg, hst]; simp_all
          · (simp (disch := first | omega | (simp only [LN, numOk, verOk, slN, hpN] <;> omega) | exact Ck.mk rfl) only [SB, EQ, Nat.reduceMul, Nat.reduceAdd, Nat.reduceSub, Nat.reduceLT, Nat.reduceEqDiff, Nat.reduceLeDiff, Nat.reduceBEq, reduceCtorEq, Int.reduceToNat, ↓reduceIte, slN, hpN]; try omega); exact ⟨rfl, rfl⟩
        · exact fin_t [none, none] ⟨rfl, rfl⟩ rfl (by simp [RV, RV2, RVl, RV1, tau, scanR, scanH, hget, data1, oneOf]) (by simp [RH, tau, scanH, hget]) (by simp [Taus, scanH, hget])
      | cons r rs =>
        obtain ⟨o, os, rfl⟩ : ∃ o os', os = o :: os' := by
          cases os with
          | nil => simp at i1
          | cons o os => exact ⟨o, os, rfl⟩
        simp only [List.length_cons, show ((rs.length + 1 : Nat) : Int) = (rs.length : Int) + 1 from rfl] at *
        (try simp (maxSteps := 1000000) (disch := first | omega | (simp only [LN, numOk, verOk, rfP, rvP, rhP, frP, slN, hpN, wsmall] <;> omega) | exact Ck.mk rfl) only [VC, T, Nat.reduceMul, Nat.reduceAdd, Nat.reduceSub, Nat.reduceLT, Nat.reduceEqDiff, Nat.reduceLeDiff, Nat.reduceBEq, reduceCtorEq, Int.reduceToNat, ↓reduceIte, rfP, rvP, rhP, frP, slN, hpN, wsmall])
        repeat' (first
          | (refine br_go (fun e f => ?_) (fun e f => ?_) <;> (try simp only [BB] at f) <;> (try simp only [numOk, verOk] at f) <;> (try simp (maxSteps := 1000000) (disch := first | omega | (simp only [LN, numOk, verOk, rfP, rvP, rhP, frP, slN, hpN, wsmall] <;> omega) | exact Ck.mk rfl) only [e, VC, T, Nat.reduceMul, Nat.reduceAdd, Nat.reduceSub, Nat.reduceLT, Nat.reduceEqDiff, Nat.reduceLeDiff, Nat.reduceBEq, reduceCtorEq, Int.reduceToNat, ↓reduceIte, rfP, rvP, rhP, frP, slN, hpN, wsmall]) <;> (try clear e))
          | (refine pick_go (fun e f => ?_) (fun e f => ?_) <;> (try simp only [BB] at f) <;> (try simp only [numOk, verOk] at f) <;> (try simp (maxSteps := 1000000) (disch := first | omega | (simp only [LN, numOk, verOk, rfP, rvP, rhP, frP, slN, hpN, wsmall] <;> omega) | exact Ck.mk rfl) only [e, VC, T, Nat.reduceMul, Nat.reduceAdd, Nat.reduceSub, Nat.reduceLT, Nat.reduceEqDiff, Nat.reduceLeDiff, Nat.reduceBEq, reduceCtorEq, Int.reduceToNat, ↓reduceIte, rfP, rvP, rhP, frP, slN, hpN, wsmall]) <;> (try clear e))
          | ((first | refine call_x (spec_MarkAt _ _ _ (by omega) _ (by omega) (by omega)) rfl ⟨rfl⟩ ?_ | refine call_x (spec_ReadFrame _ _ _ (by omega) _ (by omega) (by omega)) rfl ⟨rfl⟩ ?_); (try simp (maxSteps := 1000000) (disch := first | omega | (simp only [LN, numOk, verOk, rfP, rvP, rhP, frP, slN, hpN, wsmall] <;> omega) | exact Ck.mk rfl) only [VC, T, Nat.reduceMul, Nat.reduceAdd, Nat.reduceSub, Nat.reduceLT, Nat.reduceEqDiff, Nat.reduceLeDiff, Nat.reduceBEq, reduceCtorEq, Int.reduceToNat, ↓reduceIte, rfP, rvP, rhP, frP, slN, hpN, wsmall])))
        · exact fin_t [some 3456, some 3904] ⟨rfl, rfl⟩ rfl (by simp [RV, RV2, RVl, RV1, tau, scanR, scanH, hget, data1, oneOf]) (by simp [RH, tau, scanH, hget]) (by simp [Taus, scanH, hget])
        · refine hN (r :: rs ++ [(rFrame v (base + (rs.length + 1)) b e).1], o :: os ++ [e], (rFrame v (base + (rs.length + 1)) b e).2.1, d) _ ⟨?_, ?_, ?_⟩ (by simp) ?_
          · exact hsc f
          · have := hok f; simp only; omega
          · rw [hg, hst]; simp_all
          · (simp (disch := first | omega | (simp only [LN, numOk, verOk, slN, hpN] <;> omega) | exact Ck.mk rfl) only [SB, EQ, Nat.reduceMul, Nat.reduceAdd, Nat.reduceSub, Nat.reduceLT, Nat.reduceEqDiff, Nat.reduceLeDiff, Nat.reduceBEq, reduceCtorEq, Int.reduceToNat, ↓reduceIte, slN, hpN]; try omega); exact ⟨rfl, rfl⟩
        · exact fin_t [some 3456, some 3904] ⟨rfl, rfl⟩ rfl (by simp [RV, RV2, RVl, RV1, tau, scanR, scanH, hget, data1, oneOf]) (by simp [RH, tau, scanH, hget]) (by simp [Taus, scanH, hget])
  · rw [show scan b = (false, 0, 0, 0, 0, [], [], 0, false) by unfold scan; rw [f]; rfl]
    exact fin_t [none, none] ⟨rfl, rfl⟩ rfl (by simp [RV, RV2, RVl, RV1, tau, scanR, scanH, hget, data1, oneOf]) (by simp [RH, tau, scanH, hget]) (by simp [Taus, scanH, hget])
theorem impl_Scan (b : ByteArray) (hb : b.size ≤ 1073741824) : Fn Try.prog 56 [.str b] [] (scanP (scan b)) [] := by
  obtain ⟨_, _, ⟨rfl, rfl⟩, h⟩ := impl_ScanR b hb
  refine h.far ?_
  simp [fz, fz2, fz1, cvtl, elems, scanR, scanH, scanP, hget, data1]
theorem spec_Scan (b : ByteArray) (hb : b.size ≤ 1073741824) : Fn Try.prog 57 [.str b] [] (scanP (scan b)) [] := by
  obtain ⟨_, _, ⟨rfl, rfl⟩, h⟩ := spec_ScanR b hb
  refine h.far ?_
  simp [fz, fz2, fz1, cvtl, elems, scanR, scanH, scanP, hget, data1]
end Go.Pv

/- What functions of the program and of the reference do, in plain values. -/
namespace Go.Pv
open Go.Proofs Go.Mth
set_option linter.unusedSimpArgs false
set_option linter.unusedVariables false
set_option maxHeartbeats 4000000

/-! ### what is told of scans -/
def scEnd (b : ByteArray) : Int := (scan b).2.2.2.2.2.2.2.1
theorem scEnd_ok (b : ByteArray) : 0 ≤ scEnd b ∧ scEnd b ≤ b.size := by
  by_cases h : (scan b).1 = true
  · obtain ⟨_, h2, h3, _⟩ := scan_inv b h
    exact ⟨by unfold scEnd; omega, h3⟩
  · unfold scEnd; rw [scan_no b h]; simp
theorem spec_RecordsIn (b : ByteArray) (hb : b.size ≤ 1073741824) : Fn Try.prog 35 [.str b] [] (.far ((scan b).2.2.2.2.2.1.map .str)) [] := by
  refine fn_x tok (n := 6) (rs := [.tmp 2]) Try.func35 (by decide) rfl rfl rfl rfl ?_
  (try simp (maxSteps := 1000000) (disch := first | omega | (simp only [LN, numOk, verOk, rfP, rvP, rhP, frP, scanP] <;> omega) | exact Ck.mk rfl) only [VC, T, Nat.reduceMul, Nat.reduceAdd, Nat.reduceSub, Nat.reduceLT, Nat.reduceEqDiff, Nat.reduceLeDiff, Nat.reduceBEq, reduceCtorEq, Int.reduceToNat, ↓reduceIte, rfP, rvP, rhP, frP, scanP])
  repeat' (first
    | (refine br_go (fun e f => ?_) (fun e f => ?_) <;> (try simp only [BB] at f) <;> (try simp only [numOk, verOk] at f) <;> (try simp (maxSteps := 1000000) (disch := first | omega | (simp only [LN, numOk, verOk, rfP, rvP, rhP, frP, scanP] <;> omega) | exact Ck.mk rfl) only [e, VC, T, Nat.reduceMul, Nat.reduceAdd, Nat.reduceSub, Nat.reduceLT, Nat.reduceEqDiff, Nat.reduceLeDiff, Nat.reduceBEq, reduceCtorEq, Int.reduceToNat, ↓reduceIte, rfP, rvP, rhP, frP, scanP]) <;> (try clear e))
    | (refine pick_go (fun e f => ?_) (fun e f => ?_) <;> (try simp only [BB] at f) <;> (try simp only [numOk, verOk] at f) <;> (try simp (maxSteps := 1000000) (disch := first | omega | (simp only [LN, numOk, verOk, rfP, rvP, rhP, frP, scanP] <;> omega) | exact Ck.mk rfl) only [e, VC, T, Nat.reduceMul, Nat.reduceAdd, Nat.reduceSub, Nat.reduceLT, Nat.reduceEqDiff, Nat.reduceLeDiff, Nat.reduceBEq, reduceCtorEq, Int.reduceToNat, ↓reduceIte, rfP, rvP, rhP, frP, scanP]) <;> (try clear e))
    | ((first | refine call_x (spec_Scan _ (by omega)) rfl ⟨rfl⟩ ?_); (try simp (maxSteps := 1000000) (disch := first | omega | (simp only [LN, numOk, verOk, rfP, rvP, rhP, frP, scanP] <;> omega) | exact Ck.mk rfl) only [VC, T, Nat.reduceMul, Nat.reduceAdd, Nat.reduceSub, Nat.reduceLT, Nat.reduceEqDiff, Nat.reduceLeDiff, Nat.reduceBEq, reduceCtorEq, Int.reduceToNat, ↓reduceIte, rfP, rvP, rhP, frP, scanP])))
theorem impl_at (o : Bool) (v s base l : Int) (rs : List ByteArray) (os : List Int) (e : Int) (m : Bool) (n : Int) (hb : 0 ≤ base ∧ base ≤ 1000000000) (hr : rs.length ≤ 1073741824) : Fn Try.prog 62 [scanP (o, v, s, base, l, rs, os, e, m), .int .i64 n] [] (.int .i64 (if base ≤ n ∧ n ≤ base + rs.length - 1 then n - base else -1)) [] := by
  refine fn_x tok (n := 24) (rs := [.tmp 4]) Try.func62 (by decide) rfl rfl rfl rfl ?_
  generalize hq : (if base ≤ n ∧ n ≤ base + rs.length - 1 then n - base else -1) = q
  (try simp (maxSteps := 1000000) (disch := first | omega | (simp only [LN, numOk, verOk, rfP, rvP, rhP, frP, scanP] <;> omega) | exact Ck.mk rfl) only [VC, T, Nat.reduceMul, Nat.reduceAdd, Nat.reduceSub, Nat.reduceLT, Nat.reduceEqDiff, Nat.reduceLeDiff, Nat.reduceBEq, reduceCtorEq, Int.reduceToNat, ↓reduceIte, rfP, rvP, rhP, frP, scanP])
  repeat' (first
    | (refine br_go (fun e f => ?_) (fun e f => ?_) <;> (try simp only [BB] at f) <;> (try simp only [numOk, verOk] at f) <;> (try simp (maxSteps := 1000000) (disch := first | omega | (simp only [LN, numOk, verOk, rfP, rvP, rhP, frP, scanP] <;> omega) | exact Ck.mk rfl) only [e, VC, T, Nat.reduceMul, Nat.reduceAdd, Nat.reduceSub, Nat.reduceLT, Nat.reduceEqDiff, Nat.reduceLeDiff, Nat.reduceBEq, reduceCtorEq, Int.reduceToNat, ↓reduceIte, rfP, rvP, rhP, frP, scanP]) <;> (try clear e))
    | (refine pick_go (fun e f => ?_) (fun e f => ?_) <;> (try simp only [BB] at f) <;> (try simp only [numOk, verOk] at f) <;> (try simp (maxSteps := 1000000) (disch := first | omega | (simp only [LN, numOk, verOk, rfP, rvP, rhP, frP, scanP] <;> omega) | exact Ck.mk rfl) only [e, VC, T, Nat.reduceMul, Nat.reduceAdd, Nat.reduceSub, Nat.reduceLT, Nat.reduceEqDiff, Nat.reduceLeDiff, Nat.reduceBEq, reduceCtorEq, Int.reduceToNat, ↓reduceIte, rfP, rvP, rhP, frP, scanP]) <;> (try clear e))
    | ((first | refine call_x (impl_within _ _ _) rfl ⟨rfl⟩ ?_); (try simp (maxSteps := 1000000) (disch := first | omega | (simp only [LN, numOk, verOk, rfP, rvP, rhP, frP, scanP] <;> omega) | exact Ck.mk rfl) only [VC, T, Nat.reduceMul, Nat.reduceAdd, Nat.reduceSub, Nat.reduceLT, Nat.reduceEqDiff, Nat.reduceLeDiff, Nat.reduceBEq, reduceCtorEq, Int.reduceToNat, ↓reduceIte, rfP, rvP, rhP, frP, scanP])))
  · rw [← hq, if_pos f]
  · rw [← hq, if_neg f]
end Go.Pv

/- What functions of the program and of the reference do, in plain values. -/
namespace Go.Pv
open Go.Proofs Go.Mth
set_option linter.unusedSimpArgs false
set_option linter.unusedVariables false
set_option maxHeartbeats 4000000

/-! ### sealed files, read -/
def rsP (x : (Int × Int × Int × Int) × List ByteArray × Bool) : PV := .tup [.agg [.int .i64 x.1.1, .int .i64 x.1.2.1, .int .i64 x.1.2.2.1, .int .i64 x.1.2.2.2], .far (x.2.1.map .str), .bool x.2.2]
def rsR (x : (Int × Int × Int × Int) × List ByteArray × Bool) : PV := .tup [.agg [.int .i64 x.1.1, .int .i64 x.1.2.1, .int .i64 x.1.2.2.1, .int .i64 x.1.2.2.2], .row 64 x.2.1.length, .bool x.2.2]
def rsH (x : (Int × Int × Int × Int) × List ByteArray × Bool) : Hp := [(64, .row ⟨1, 0⟩ (x.2.1.map .str))]
theorem impl_SealedSize (v s b l : Int) (rs : List ByteArray) (hl : rs.length ≤ 1073741824) (hz : ∀ r ∈ rs, r.size ≤ 140737488355328) : Fn Try.prog 38 [.agg [.int .i64 v, .int .i64 s, .int .i64 b, .int .i64 l], .far (rs.map .str)] [] (.int .i64 (sealT v s b l rs).size) [] := by
  have h := impl_SealText2 v s b l rs hl hz
  refine fn_x tok (n := 9) (rs := [.tmp 4]) Try.func38 (by decide) rfl rfl rfl rfl ?_
  (try simp (maxSteps := 1000000) (disch := first | omega | (simp only [LN, numOk, verOk, rfP, rvP, rhP, frP, blH, bytesOf_length, scanR, scanH, scanP, rsP, rsR, rsH] <;> omega) | exact Ck.mk rfl) only [VC, T, Nat.reduceMul, Nat.reduceAdd, Nat.reduceSub, Nat.reduceLT, Nat.reduceEqDiff, Nat.reduceLeDiff, Nat.reduceBEq, reduceCtorEq, Int.reduceToNat, ↓reduceIte, rfP, rvP, rhP, frP, blH, bytesOf_length, scanR, scanH, scanP, rsP, rsR, rsH])
  repeat' (first
    | (refine br_go (fun e f => ?_) (fun e f => ?_) <;> (try simp only [BB] at f) <;> (try simp only [numOk, verOk] at f) <;> (try simp (maxSteps := 1000000) (disch := first | omega | (simp only [LN, numOk, verOk, rfP, rvP, rhP, frP, blH, bytesOf_length, scanR, scanH, scanP, rsP, rsR, rsH] <;> omega) | exact Ck.mk rfl) only [e, VC, T, Nat.reduceMul, Nat.reduceAdd, Nat.reduceSub, Nat.reduceLT, Nat.reduceEqDiff, Nat.reduceLeDiff, Nat.reduceBEq, reduceCtorEq, Int.reduceToNat, ↓reduceIte, rfP, rvP, rhP, frP, blH, bytesOf_length, scanR, scanH, scanP, rsP, rsR, rsH]) <;> (try clear e))
    | (refine pick_go (fun e f => ?_) (fun e f => ?_) <;> (try simp only [BB] at f) <;> (try simp only [numOk, verOk] at f) <;> (try simp (maxSteps := 1000000) (disch := first | omega | (simp only [LN, numOk, verOk, rfP, rvP, rhP, frP, blH, bytesOf_length, scanR, scanH, scanP, rsP, rsR, rsH] <;> omega) | exact Ck.mk rfl) only [e, VC, T, Nat.reduceMul, Nat.reduceAdd, Nat.reduceSub, Nat.reduceLT, Nat.reduceEqDiff, Nat.reduceLeDiff, Nat.reduceBEq, reduceCtorEq, Int.reduceToNat, ↓reduceIte, rfP, rvP, rhP, frP, blH, bytesOf_length, scanR, scanH, scanP, rsP, rsR, rsH]) <;> (try clear e))
    | ((first | refine call_x (h) rfl ⟨rfl⟩ ?_); (try simp (maxSteps := 1000000) (disch := first | omega | (simp only [LN, numOk, verOk, rfP, rvP, rhP, frP, blH, bytesOf_length, scanR, scanH, scanP, rsP, rsR, rsH] <;> omega) | exact Ck.mk rfl) only [VC, T, Nat.reduceMul, Nat.reduceAdd, Nat.reduceSub, Nat.reduceLT, Nat.reduceEqDiff, Nat.reduceLeDiff, Nat.reduceBEq, reduceCtorEq, Int.reduceToNat, ↓reduceIte, rfP, rvP, rhP, frP, blH, bytesOf_length, scanR, scanH, scanP, rsP, rsR, rsH])))
theorem impl_ReadSealedR (b : ByteArray) (hb : b.size ≤ 1073741824) : FnE Try.prog 16 [.str b] [] (fun r m => r = rsR (rSealed b) ∧ m = rsH (rSealed b)) := by
  have hS := impl_ScanR b hb
  have hF := scan_f b
  unfold rSealed sealedB scSeal
  generalize scan b = t at *
  obtain ⟨ok, v, s, base, l, rs, os, e, m⟩ := t
  obtain ⟨f1, f2, f3, f4, f5, f6, f7, f8, f9⟩ := hF
  simp only at f1 f2 f3 f4 f5 f6 f7 f8 f9 hS ⊢
  have hT := impl_SealText v s base l rs (by omega)
  refine fn_e tok (n := 25) (rs := [.cell 2 25, .tmp 3, .tmp 4]) Try.func16 (by decide) rfl rfl rfl rfl (low_of rfl) ?_
  (try simp (maxSteps := 1000000) (disch := first | omega | (simp only [LN, numOk, verOk, rfP, rvP, rhP, frP, blH, bytesOf_length, scanR, scanH, scanP, rsP, rsR, rsH] <;> omega) | exact Ck.mk rfl) only [VC, T, Nat.reduceMul, Nat.reduceAdd, Nat.reduceSub, Nat.reduceLT, Nat.reduceEqDiff, Nat.reduceLeDiff, Nat.reduceBEq, reduceCtorEq, Int.reduceToNat, ↓reduceIte, rfP, rvP, rhP, frP, blH, bytesOf_length, scanR, scanH, scanP, rsP, rsR, rsH])
  repeat' (first
    | (refine br_go (fun e f => ?_) (fun e f => ?_) <;> (try simp only [BB] at f) <;> (try simp only [numOk, verOk] at f) <;> (try simp (maxSteps := 1000000) (disch := first | omega | (simp only [LN, numOk, verOk, rfP, rvP, rhP, frP, blH, bytesOf_length, scanR, scanH, scanP, rsP, rsR, rsH] <;> omega) | exact Ck.mk rfl) only [e, VC, T, Nat.reduceMul, Nat.reduceAdd, Nat.reduceSub, Nat.reduceLT, Nat.reduceEqDiff, Nat.reduceLeDiff, Nat.reduceBEq, reduceCtorEq, Int.reduceToNat, ↓reduceIte, rfP, rvP, rhP, frP, blH, bytesOf_length, scanR, scanH, scanP, rsP, rsR, rsH]) <;> (try clear e))
    | (refine pick_go (fun e f => ?_) (fun e f => ?_) <;> (try simp only [BB] at f) <;> (try simp only [numOk, verOk] at f) <;> (try simp (maxSteps := 1000000) (disch := first | omega | (simp only [LN, numOk, verOk, rfP, rvP, rhP, frP, blH, bytesOf_length, scanR, scanH, scanP, rsP, rsR, rsH] <;> omega) | exact Ck.mk rfl) only [e, VC, T, Nat.reduceMul, Nat.reduceAdd, Nat.reduceSub, Nat.reduceLT, Nat.reduceEqDiff, Nat.reduceLeDiff, Nat.reduceBEq, reduceCtorEq, Int.reduceToNat, ↓reduceIte, rfP, rvP, rhP, frP, blH, bytesOf_length, scanR, scanH, scanP, rsP, rsR, rsH]) <;> (try clear e))
    | ((first | refine dr_go mixed (id := 4) [([], [5], []), ([0], [21], []), ([], [5], [192]), ([2], [23], [192]), ([0, 1], [2, 22], []), ([0, 1, 2, 3, 4], [24], []), ([0, 1, 2, 3, 4, 5], [], [])] rfl rfl rfl ?_ | (refine call_h [] [] (hS) (by decide) rfl rfl ?_; rintro _ _ ⟨rfl, rfl⟩) | refine call_hx [] [512] (hT) (by decide) (by first | rfl | simp (maxSteps := 1000000) (disch := first | omega | (simp only [LN, numOk, verOk, rfP, rvP, rhP, frP, blH, bytesOf_length, scanR, scanH, scanP, rsP, rsR, rsH] <;> omega) | exact Ck.mk rfl) only [VC, T, Nat.reduceMul, Nat.reduceAdd, Nat.reduceSub, Nat.reduceLT, Nat.reduceEqDiff, Nat.reduceLeDiff, Nat.reduceBEq, reduceCtorEq, Int.reduceToNat, ↓reduceIte, rfP, rvP, rhP, frP, blH, bytesOf_length, scanR, scanH, scanP, rsP, rsR, rsH]) rfl ?_); (try simp (maxSteps := 1000000) (disch := first | omega | (simp only [LN, numOk, verOk, rfP, rvP, rhP, frP, blH, bytesOf_length, scanR, scanH, scanP, rsP, rsR, rsH] <;> omega) | exact Ck.mk rfl) only [VC, T, Nat.reduceMul, Nat.reduceAdd, Nat.reduceSub, Nat.reduceLT, Nat.reduceEqDiff, Nat.reduceLeDiff, Nat.reduceBEq, reduceCtorEq, Int.reduceToNat, ↓reduceIte, rfP, rvP, rhP, frP, blH, bytesOf_length, scanR, scanH, scanP, rsP, rsR, rsH])))
  · exact fin_t [some 512] (⟨rfl, rfl⟩) rfl (by simp [RV, RV2, RVl, RV1, tau, tget, hget, data1, oneOf, rsR, rsH]) (by simp [RH, RVl, RV1, tau, hget, data1, rsR, rsH]) (by simp [Taus, hget, rsR, rsH])
  · exact fin_t [none] (⟨rfl, rfl⟩) rfl (by simp [RV, RV2, RVl, RV1, tau, tget, hget, data1, oneOf, rsR, rsH]) (by simp [RH, RVl, RV1, tau, hget, data1, rsR, rsH]) (by simp [Taus, hget, rsR, rsH])
  · exact fin_t [none] (⟨rfl, rfl⟩) rfl (by simp [RV, RV2, RVl, RV1, tau, tget, hget, data1, oneOf, rsR, rsH]) (by simp [RH, RVl, RV1, tau, hget, data1, rsR, rsH]) (by simp [Taus, hget, rsR, rsH])
theorem impl_ReadSealed (b : ByteArray) (hb : b.size ≤ 1073741824) : Fn Try.prog 16 [.str b] [] (rsP (rSealed b)) [] := by
  obtain ⟨_, _, ⟨rfl, rfl⟩, h⟩ := impl_ReadSealedR b hb
  refine h.far ?_
  simp [fz, fz2, fz1, cvtl, elems, rsR, rsH, rsP, hget, data1]
theorem spec_ReadSealed (b : ByteArray) (hb : b.size ≤ 1073741824) : Fn Try.prog 19 [.str b] [] (rsP (rSealed b)) [] := by
  have hS := spec_Scan b hb
  have hF := scan_f b
  have hM := sealed_ok b
  unfold rSealed
  unfold sealedB scSeal at hM ⊢
  generalize scan b = t at *
  obtain ⟨ok, v, s, base, l, rs, os, e, m⟩ := t
  obtain ⟨f1, f2, f3, f4, f5, f6, f7, f8, f9⟩ := hF
  simp only at f1 f2 f3 f4 f5 f6 f7 f8 f9 hS hM ⊢
  have hT := spec_SealText v s base l rs (by omega) (fun r hr => by have := f6 r hr; omega)
  refine fn_x tok (n := 31) (rs := [.cell 2 25, .tmp 3, .tmp 4]) Try.func19 (by decide) rfl rfl rfl rfl ?_
  (try simp (maxSteps := 1000000) (disch := first | omega | (simp only [LN, numOk, verOk, rfP, rvP, rhP, frP, blH, bytesOf_length, scanR, scanH, scanP, rsP, rsR, rsH] <;> omega) | exact Ck.mk rfl) only [VC, T, Nat.reduceMul, Nat.reduceAdd, Nat.reduceSub, Nat.reduceLT, Nat.reduceEqDiff, Nat.reduceLeDiff, Nat.reduceBEq, reduceCtorEq, Int.reduceToNat, ↓reduceIte, rfP, rvP, rhP, frP, blH, bytesOf_length, scanR, scanH, scanP, rsP, rsR, rsH])
  repeat' (first
    | (refine br_go (fun e f => ?_) (fun e f => ?_) <;> (try simp only [BB] at f) <;> (try simp only [numOk, verOk] at f) <;> (try simp (maxSteps := 1000000) (disch := first | omega | (simp only [LN, numOk, verOk, rfP, rvP, rhP, frP, blH, bytesOf_length, scanR, scanH, scanP, rsP, rsR, rsH] <;> omega) | exact Ck.mk rfl) only [e, VC, T, Nat.reduceMul, Nat.reduceAdd, Nat.reduceSub, Nat.reduceLT, Nat.reduceEqDiff, Nat.reduceLeDiff, Nat.reduceBEq, reduceCtorEq, Int.reduceToNat, ↓reduceIte, rfP, rvP, rhP, frP, blH, bytesOf_length, scanR, scanH, scanP, rsP, rsR, rsH]) <;> (try clear e))
    | (refine pick_go (fun e f => ?_) (fun e f => ?_) <;> (try simp only [BB] at f) <;> (try simp only [numOk, verOk] at f) <;> (try simp (maxSteps := 1000000) (disch := first | omega | (simp only [LN, numOk, verOk, rfP, rvP, rhP, frP, blH, bytesOf_length, scanR, scanH, scanP, rsP, rsR, rsH] <;> omega) | exact Ck.mk rfl) only [e, VC, T, Nat.reduceMul, Nat.reduceAdd, Nat.reduceSub, Nat.reduceLT, Nat.reduceEqDiff, Nat.reduceLeDiff, Nat.reduceBEq, reduceCtorEq, Int.reduceToNat, ↓reduceIte, rfP, rvP, rhP, frP, blH, bytesOf_length, scanR, scanH, scanP, rsP, rsR, rsH]) <;> (try clear e))
    | ((first | refine dr_go mixed (id := 4) [([], [5], []), ([0], [27], []), ([], [5], [192]), ([2], [29], [192]), ([0, 1], [2, 28], []), ([0, 1, 2, 3, 4], [30], []), ([0, 1, 2, 3, 4, 5], [], [])] rfl rfl rfl ?_ | refine call_x (hS) rfl ⟨rfl⟩ ?_ | refine call_x (hT) rfl ⟨rfl⟩ ?_); (try simp (maxSteps := 1000000) (disch := first | omega | (simp only [LN, numOk, verOk, rfP, rvP, rhP, frP, blH, bytesOf_length, scanR, scanH, scanP, rsP, rsR, rsH] <;> omega) | exact Ck.mk rfl) only [VC, T, Nat.reduceMul, Nat.reduceAdd, Nat.reduceSub, Nat.reduceLT, Nat.reduceEqDiff, Nat.reduceLeDiff, Nat.reduceBEq, reduceCtorEq, Int.reduceToNat, ↓reduceIte, rfP, rvP, rhP, frP, blH, bytesOf_length, scanR, scanH, scanP, rsP, rsR, rsH])))
  have hx : ¬ sealT v s base l rs = b := fun hx => by
    have := (hM (by simp_all)).2.2.2
    rw [f] at this; cases this
  rw [decide_eq_false hx]; rfl
theorem impl_SealedOk (b : ByteArray) (hb : b.size ≤ 1073741824) : Fn Try.prog 18 [.str b] [] (.bool (rSealed b).2.2) [] := by
  have h := impl_ReadSealed b hb
  refine fn_x tok (n := 13) (rs := [.tmp 2]) Try.func18 (by decide) rfl rfl rfl rfl ?_
  (try simp (maxSteps := 1000000) (disch := first | omega | (simp only [LN, numOk, verOk, rfP, rvP, rhP, frP, blH, bytesOf_length, scanR, scanH, scanP, rsP, rsR, rsH] <;> omega) | exact Ck.mk rfl) only [VC, T, Nat.reduceMul, Nat.reduceAdd, Nat.reduceSub, Nat.reduceLT, Nat.reduceEqDiff, Nat.reduceLeDiff, Nat.reduceBEq, reduceCtorEq, Int.reduceToNat, ↓reduceIte, rfP, rvP, rhP, frP, blH, bytesOf_length, scanR, scanH, scanP, rsP, rsR, rsH])
  repeat' (first
    | (refine br_go (fun e f => ?_) (fun e f => ?_) <;> (try simp only [BB] at f) <;> (try simp only [numOk, verOk] at f) <;> (try simp (maxSteps := 1000000) (disch := first | omega | (simp only [LN, numOk, verOk, rfP, rvP, rhP, frP, blH, bytesOf_length, scanR, scanH, scanP, rsP, rsR, rsH] <;> omega) | exact Ck.mk rfl) only [e, VC, T, Nat.reduceMul, Nat.reduceAdd, Nat.reduceSub, Nat.reduceLT, Nat.reduceEqDiff, Nat.reduceLeDiff, Nat.reduceBEq, reduceCtorEq, Int.reduceToNat, ↓reduceIte, rfP, rvP, rhP, frP, blH, bytesOf_length, scanR, scanH, scanP, rsP, rsR, rsH]) <;> (try clear e))
    | (refine pick_go (fun e f => ?_) (fun e f => ?_) <;> (try simp only [BB] at f) <;> (try simp only [numOk, verOk] at f) <;> (try simp (maxSteps := 1000000) (disch := first | omega | (simp only [LN, numOk, verOk, rfP, rvP, rhP, frP, blH, bytesOf_length, scanR, scanH, scanP, rsP, rsR, rsH] <;> omega) | exact Ck.mk rfl) only [e, VC, T, Nat.reduceMul, Nat.reduceAdd, Nat.reduceSub, Nat.reduceLT, Nat.reduceEqDiff, Nat.reduceLeDiff, Nat.reduceBEq, reduceCtorEq, Int.reduceToNat, ↓reduceIte, rfP, rvP, rhP, frP, blH, bytesOf_length, scanR, scanH, scanP, rsP, rsR, rsH]) <;> (try clear e))
    | ((first | refine call_x (h) rfl ⟨rfl⟩ ?_); (try simp (maxSteps := 1000000) (disch := first | omega | (simp only [LN, numOk, verOk, rfP, rvP, rhP, frP, blH, bytesOf_length, scanR, scanH, scanP, rsP, rsR, rsH] <;> omega) | exact Ck.mk rfl) only [VC, T, Nat.reduceMul, Nat.reduceAdd, Nat.reduceSub, Nat.reduceLT, Nat.reduceEqDiff, Nat.reduceLeDiff, Nat.reduceBEq, reduceCtorEq, Int.reduceToNat, ↓reduceIte, rfP, rvP, rhP, frP, blH, bytesOf_length, scanR, scanH, scanP, rsP, rsR, rsH])))
theorem spec_SealedOk (b : ByteArray) (hb : b.size ≤ 1073741824) : Fn Try.prog 34 [.str b] [] (.bool (rSealed b).2.2) [] := by
  have h := spec_ReadSealed b hb
  refine fn_x tok (n := 13) (rs := [.tmp 2]) Try.func34 (by decide) rfl rfl rfl rfl ?_
  (try simp (maxSteps := 1000000) (disch := first | omega | (simp only [LN, numOk, verOk, rfP, rvP, rhP, frP, blH, bytesOf_length, scanR, scanH, scanP, rsP, rsR, rsH] <;> omega) | exact Ck.mk rfl) only [VC, T, Nat.reduceMul, Nat.reduceAdd, Nat.reduceSub, Nat.reduceLT, Nat.reduceEqDiff, Nat.reduceLeDiff, Nat.reduceBEq, reduceCtorEq, Int.reduceToNat, ↓reduceIte, rfP, rvP, rhP, frP, blH, bytesOf_length, scanR, scanH, scanP, rsP, rsR, rsH])
  repeat' (first
    | (refine br_go (fun e f => ?_) (fun e f => ?_) <;> (try simp only [BB] at f) <;> (try simp only [numOk, verOk] at f) <;> (try simp (maxSteps := 1000000) (disch := first | omega | (simp only [LN, numOk, verOk, rfP, rvP, rhP, frP, blH, bytesOf_length, scanR, scanH, scanP, rsP, rsR, rsH] <;> omega) | exact Ck.mk rfl) only [e, VC, T, Nat.reduceMul, Nat.reduceAdd, Nat.reduceSub, Nat.reduceLT, Nat.reduceEqDiff, Nat.reduceLeDiff, Nat.reduceBEq, reduceCtorEq, Int.reduceToNat, ↓reduceIte, rfP, rvP, rhP, frP, blH, bytesOf_length, scanR, scanH, scanP, rsP, rsR, rsH]) <;> (try clear e))
    | (refine pick_go (fun e f => ?_) (fun e f => ?_) <;> (try simp only [BB] at f) <;> (try simp only [numOk, verOk] at f) <;> (try simp (maxSteps := 1000000) (disch := first | omega | (simp only [LN, numOk, verOk, rfP, rvP, rhP, frP, blH, bytesOf_length, scanR, scanH, scanP, rsP, rsR, rsH] <;> omega) | exact Ck.mk rfl) only [e, VC, T, Nat.reduceMul, Nat.reduceAdd, Nat.reduceSub, Nat.reduceLT, Nat.reduceEqDiff, Nat.reduceLeDiff, Nat.reduceBEq, reduceCtorEq, Int.reduceToNat, ↓reduceIte, rfP, rvP, rhP, frP, blH, bytesOf_length, scanR, scanH, scanP, rsP, rsR, rsH]) <;> (try clear e))
    | ((first | refine call_x (h) rfl ⟨rfl⟩ ?_); (try simp (maxSteps := 1000000) (disch := first | omega | (simp only [LN, numOk, verOk, rfP, rvP, rhP, frP, blH, bytesOf_length, scanR, scanH, scanP, rsP, rsR, rsH] <;> omega) | exact Ck.mk rfl) only [VC, T, Nat.reduceMul, Nat.reduceAdd, Nat.reduceSub, Nat.reduceLT, Nat.reduceEqDiff, Nat.reduceLeDiff, Nat.reduceBEq, reduceCtorEq, Int.reduceToNat, ↓reduceIte, rfP, rvP, rhP, frP, blH, bytesOf_length, scanR, scanH, scanP, rsP, rsR, rsH])))
def hiP (x : (Int × Int × Int × Int) × List ByteArray × Bool) : PV := .tup [.agg [.int .i64 x.1.1, .int .i64 x.1.2.1, .int .i64 x.1.2.2.1, .int .i64 x.1.2.2.2], .bool x.2.2]
theorem impl_HeadIn (b : ByteArray) (hb : b.size ≤ 1073741824) : Fn Try.prog 13 [.str b] [] (hiP (rSealed b)) [] := by
  have h := impl_ReadSealed b hb
  refine fn_x tok (n := 15) (rs := [.cell 2 25, .tmp 3]) Try.func13 (by decide) rfl rfl rfl rfl ?_
  (try simp (maxSteps := 1000000) (disch := first | omega | (simp only [LN, numOk, verOk, rfP, rvP, rhP, frP, blH, bytesOf_length, scanR, scanH, scanP, rsP, rsR, rsH] <;> omega) | exact Ck.mk rfl) only [VC, T, Nat.reduceMul, Nat.reduceAdd, Nat.reduceSub, Nat.reduceLT, Nat.reduceEqDiff, Nat.reduceLeDiff, Nat.reduceBEq, reduceCtorEq, Int.reduceToNat, ↓reduceIte, rfP, rvP, rhP, frP, blH, bytesOf_length, scanR, scanH, scanP, rsP, rsR, rsH])
  repeat' (first
    | (refine br_go (fun e f => ?_) (fun e f => ?_) <;> (try simp only [BB] at f) <;> (try simp only [numOk, verOk] at f) <;> (try simp (maxSteps := 1000000) (disch := first | omega | (simp only [LN, numOk, verOk, rfP, rvP, rhP, frP, blH, bytesOf_length, scanR, scanH, scanP, rsP, rsR, rsH] <;> omega) | exact Ck.mk rfl) only [e, VC, T, Nat.reduceMul, Nat.reduceAdd, Nat.reduceSub, Nat.reduceLT, Nat.reduceEqDiff, Nat.reduceLeDiff, Nat.reduceBEq, reduceCtorEq, Int.reduceToNat, ↓reduceIte, rfP, rvP, rhP, frP, blH, bytesOf_length, scanR, scanH, scanP, rsP, rsR, rsH]) <;> (try clear e))
    | (refine pick_go (fun e f => ?_) (fun e f => ?_) <;> (try simp only [BB] at f) <;> (try simp only [numOk, verOk] at f) <;> (try simp (maxSteps := 1000000) (disch := first | omega | (simp only [LN, numOk, verOk, rfP, rvP, rhP, frP, blH, bytesOf_length, scanR, scanH, scanP, rsP, rsR, rsH] <;> omega) | exact Ck.mk rfl) only [e, VC, T, Nat.reduceMul, Nat.reduceAdd, Nat.reduceSub, Nat.reduceLT, Nat.reduceEqDiff, Nat.reduceLeDiff, Nat.reduceBEq, reduceCtorEq, Int.reduceToNat, ↓reduceIte, rfP, rvP, rhP, frP, blH, bytesOf_length, scanR, scanH, scanP, rsP, rsR, rsH]) <;> (try clear e))
    | ((first | refine call_x (h) rfl ⟨rfl⟩ ?_); (try simp (maxSteps := 1000000) (disch := first | omega | (simp only [LN, numOk, verOk, rfP, rvP, rhP, frP, blH, bytesOf_length, scanR, scanH, scanP, rsP, rsR, rsH] <;> omega) | exact Ck.mk rfl) only [VC, T, Nat.reduceMul, Nat.reduceAdd, Nat.reduceSub, Nat.reduceLT, Nat.reduceEqDiff, Nat.reduceLeDiff, Nat.reduceBEq, reduceCtorEq, Int.reduceToNat, ↓reduceIte, rfP, rvP, rhP, frP, blH, bytesOf_length, scanR, scanH, scanP, rsP, rsR, rsH])))
  rfl
theorem impl_SealedAs (b : ByteArray) (n : Int) (hb : b.size ≤ 1073741824) : Fn Try.prog 14 [.str b, .int .i64 n] [] (.bool ((rSealed b).2.2 && decide ((rSealed b).1.1 = n))) [] := by
  have h := impl_HeadIn b hb
  unfold hiP at h
  refine fn_x tok (n := 19) (rs := [.tmp 4]) Try.func14 (by decide) rfl rfl rfl rfl ?_
  (try simp (maxSteps := 1000000) (disch := first | omega | (simp only [LN, numOk, verOk, rfP, rvP, rhP, frP, blH, bytesOf_length, scanR, scanH, scanP, rsP, rsR, rsH] <;> omega) | exact Ck.mk rfl) only [VC, T, Nat.reduceMul, Nat.reduceAdd, Nat.reduceSub, Nat.reduceLT, Nat.reduceEqDiff, Nat.reduceLeDiff, Nat.reduceBEq, reduceCtorEq, Int.reduceToNat, ↓reduceIte, rfP, rvP, rhP, frP, blH, bytesOf_length, scanR, scanH, scanP, rsP, rsR, rsH])
  repeat' (first
    | (refine br_go (fun e f => ?_) (fun e f => ?_) <;> (try simp only [BB] at f) <;> (try simp only [numOk, verOk] at f) <;> (try simp (maxSteps := 1000000) (disch := first | omega | (simp only [LN, numOk, verOk, rfP, rvP, rhP, frP, blH, bytesOf_length, scanR, scanH, scanP, rsP, rsR, rsH] <;> omega) | exact Ck.mk rfl) only [e, VC, T, Nat.reduceMul, Nat.reduceAdd, Nat.reduceSub, Nat.reduceLT, Nat.reduceEqDiff, Nat.reduceLeDiff, Nat.reduceBEq, reduceCtorEq, Int.reduceToNat, ↓reduceIte, rfP, rvP, rhP, frP, blH, bytesOf_length, scanR, scanH, scanP, rsP, rsR, rsH]) <;> (try clear e))
    | (refine pick_go (fun e f => ?_) (fun e f => ?_) <;> (try simp only [BB] at f) <;> (try simp only [numOk, verOk] at f) <;> (try simp (maxSteps := 1000000) (disch := first | omega | (simp only [LN, numOk, verOk, rfP, rvP, rhP, frP, blH, bytesOf_length, scanR, scanH, scanP, rsP, rsR, rsH] <;> omega) | exact Ck.mk rfl) only [e, VC, T, Nat.reduceMul, Nat.reduceAdd, Nat.reduceSub, Nat.reduceLT, Nat.reduceEqDiff, Nat.reduceLeDiff, Nat.reduceBEq, reduceCtorEq, Int.reduceToNat, ↓reduceIte, rfP, rvP, rhP, frP, blH, bytesOf_length, scanR, scanH, scanP, rsP, rsR, rsH]) <;> (try clear e))
    | ((first | refine call_x (h) rfl ⟨rfl⟩ ?_); (try simp (maxSteps := 1000000) (disch := first | omega | (simp only [LN, numOk, verOk, rfP, rvP, rhP, frP, blH, bytesOf_length, scanR, scanH, scanP, rsP, rsR, rsH] <;> omega) | exact Ck.mk rfl) only [VC, T, Nat.reduceMul, Nat.reduceAdd, Nat.reduceSub, Nat.reduceLT, Nat.reduceEqDiff, Nat.reduceLeDiff, Nat.reduceBEq, reduceCtorEq, Int.reduceToNat, ↓reduceIte, rfP, rvP, rhP, frP, blH, bytesOf_length, scanR, scanH, scanP, rsP, rsR, rsH])))
def resealT (b : ByteArray) (n : Int) : ByteArray := if (scan b).1 = true ∧ (n = 0 ∨ verOk n) then sealT (if n = 0 then (scan b).2.1 else n) (scan b).2.2.1 (scan b).2.2.2.1 (scan b).2.2.2.2.1 (scan b).2.2.2.2.2.1 else ⟨#[]⟩
theorem impl_Resealed (b : ByteArray) (n : Int) (hb : b.size ≤ 1073741824) : Fn Try.prog 32 [.str b, .int .i64 n] [] (.str (resealT b n)) [] := by
  have hS := impl_Scan b hb
  have hF := scan_f b
  unfold resealT
  generalize scan b = t at *
  obtain ⟨ok, v, s, base, l, rs, os, e, m⟩ := t
  obtain ⟨f1, f2, f3, f4, f5, f6, f7, f8, f9⟩ := hF
  simp only at f1 f2 f3 f4 f5 f6 f7 f8 f9 hS ⊢
  generalize hq : (if ok = true ∧ (n = 0 ∨ verOk n) then sealT (if n = 0 then v else n) s base l rs else ⟨#[]⟩) = q
  have hT := fun v => impl_SealText v s base l rs (by omega)
  refine fn_x tok (n := 30) (rs := [.tmp 4]) Try.func32 (by decide) rfl rfl rfl rfl ?_
  (try simp (maxSteps := 1000000) (disch := first | omega | (simp only [LN, numOk, verOk, rfP, rvP, rhP, frP, blH, bytesOf_length, scanR, scanH, scanP, rsP, rsR, rsH] <;> omega) | exact Ck.mk rfl) only [VC, T, Nat.reduceMul, Nat.reduceAdd, Nat.reduceSub, Nat.reduceLT, Nat.reduceEqDiff, Nat.reduceLeDiff, Nat.reduceBEq, reduceCtorEq, Int.reduceToNat, ↓reduceIte, rfP, rvP, rhP, frP, blH, bytesOf_length, scanR, scanH, scanP, rsP, rsR, rsH])
  repeat' (first
    | (refine br_go (fun e f => ?_) (fun e f => ?_) <;> (try simp only [BB] at f) <;> (try simp only [numOk, verOk] at f) <;> (try simp (maxSteps := 1000000) (disch := first | omega | (simp only [LN, numOk, verOk, rfP, rvP, rhP, frP, blH, bytesOf_length, scanR, scanH, scanP, rsP, rsR, rsH] <;> omega) | exact Ck.mk rfl) only [e, VC, T, Nat.reduceMul, Nat.reduceAdd, Nat.reduceSub, Nat.reduceLT, Nat.reduceEqDiff, Nat.reduceLeDiff, Nat.reduceBEq, reduceCtorEq, Int.reduceToNat, ↓reduceIte, rfP, rvP, rhP, frP, blH, bytesOf_length, scanR, scanH, scanP, rsP, rsR, rsH]) <;> (try clear e))
    | (refine pick_go (fun e f => ?_) (fun e f => ?_) <;> (try simp only [BB] at f) <;> (try simp only [numOk, verOk] at f) <;> (try simp (maxSteps := 1000000) (disch := first | omega | (simp only [LN, numOk, verOk, rfP, rvP, rhP, frP, blH, bytesOf_length, scanR, scanH, scanP, rsP, rsR, rsH] <;> omega) | exact Ck.mk rfl) only [e, VC, T, Nat.reduceMul, Nat.reduceAdd, Nat.reduceSub, Nat.reduceLT, Nat.reduceEqDiff, Nat.reduceLeDiff, Nat.reduceBEq, reduceCtorEq, Int.reduceToNat, ↓reduceIte, rfP, rvP, rhP, frP, blH, bytesOf_length, scanR, scanH, scanP, rsP, rsR, rsH]) <;> (try clear e))
    | ((first | refine call_x (hS) rfl ⟨rfl⟩ ?_ | refine call_x (hT _) rfl ⟨rfl⟩ ?_ | refine call_x (impl_isVersion _) rfl ⟨rfl⟩ ?_); (try simp (maxSteps := 1000000) (disch := first | omega | (simp only [LN, numOk, verOk, rfP, rvP, rhP, frP, blH, bytesOf_length, scanR, scanH, scanP, rsP, rsR, rsH] <;> omega) | exact Ck.mk rfl) only [VC, T, Nat.reduceMul, Nat.reduceAdd, Nat.reduceSub, Nat.reduceLT, Nat.reduceEqDiff, Nat.reduceLeDiff, Nat.reduceBEq, reduceCtorEq, Int.reduceToNat, ↓reduceIte, rfP, rvP, rhP, frP, blH, bytesOf_length, scanR, scanH, scanP, rsP, rsR, rsH])))
  · rw [← hq, if_pos ⟨by assumption, .inl f⟩, if_pos f]
  · rw [← hq, if_pos ⟨by assumption, .inr f⟩, if_neg (by assumption)]
  · rw [← hq, if_neg (by rintro ⟨_, h | h⟩; contradiction; exact f h)]
  · rw [← hq, if_neg (by rintro ⟨h, _⟩; rw [f] at h; cases h)]
theorem spec_Resealed (b : ByteArray) (n : Int) (hb : b.size ≤ 1073741824) : Fn Try.prog 33 [.str b, .int .i64 n] [] (.str (resealT b n)) [] := by
  have hS := spec_Scan b hb
  have hF := scan_f b
  unfold resealT
  generalize scan b = t at *
  obtain ⟨ok, v, s, base, l, rs, os, e, m⟩ := t
  obtain ⟨f1, f2, f3, f4, f5, f6, f7, f8, f9⟩ := hF
  simp only at f1 f2 f3 f4 f5 f6 f7 f8 f9 hS ⊢
  generalize hq : (if ok = true ∧ (n = 0 ∨ verOk n) then sealT (if n = 0 then v else n) s base l rs else ⟨#[]⟩) = q
  have hT := fun v => spec_SealText v s base l rs (by omega) (fun r hr => by have := f6 r hr; omega)
  refine fn_x tok (n := 26) (rs := [.tmp 4]) Try.func33 (by decide) rfl rfl rfl rfl ?_
  (try simp (maxSteps := 1000000) (disch := first | omega | (simp only [LN, numOk, verOk, rfP, rvP, rhP, frP, blH, bytesOf_length, scanR, scanH, scanP, rsP, rsR, rsH] <;> omega) | exact Ck.mk rfl) only [VC, T, Nat.reduceMul, Nat.reduceAdd, Nat.reduceSub, Nat.reduceLT, Nat.reduceEqDiff, Nat.reduceLeDiff, Nat.reduceBEq, reduceCtorEq, Int.reduceToNat, ↓reduceIte, rfP, rvP, rhP, frP, blH, bytesOf_length, scanR, scanH, scanP, rsP, rsR, rsH])
  repeat' (first
    | (refine br_go (fun e f => ?_) (fun e f => ?_) <;> (try simp only [BB] at f) <;> (try simp only [numOk, verOk] at f) <;> (try simp (maxSteps := 1000000) (disch := first | omega | (simp only [LN, numOk, verOk, rfP, rvP, rhP, frP, blH, bytesOf_length, scanR, scanH, scanP, rsP, rsR, rsH] <;> omega) | exact Ck.mk rfl) only [e, VC, T, Nat.reduceMul, Nat.reduceAdd, Nat.reduceSub, Nat.reduceLT, Nat.reduceEqDiff, Nat.reduceLeDiff, Nat.reduceBEq, reduceCtorEq, Int.reduceToNat, ↓reduceIte, rfP, rvP, rhP, frP, blH, bytesOf_length, scanR, scanH, scanP, rsP, rsR, rsH]) <;> (try clear e))
    | (refine pick_go (fun e f => ?_) (fun e f => ?_) <;> (try simp only [BB] at f) <;> (try simp only [numOk, verOk] at f) <;> (try simp (maxSteps := 1000000) (disch := first | omega | (simp only [LN, numOk, verOk, rfP, rvP, rhP, frP, blH, bytesOf_length, scanR, scanH, scanP, rsP, rsR, rsH] <;> omega) | exact Ck.mk rfl) only [e, VC, T, Nat.reduceMul, Nat.reduceAdd, Nat.reduceSub, Nat.reduceLT, Nat.reduceEqDiff, Nat.reduceLeDiff, Nat.reduceBEq, reduceCtorEq, Int.reduceToNat, ↓reduceIte, rfP, rvP, rhP, frP, blH, bytesOf_length, scanR, scanH, scanP, rsP, rsR, rsH]) <;> (try clear e))
    | ((first | refine call_x (hS) rfl ⟨rfl⟩ ?_ | refine call_x (hT _) rfl ⟨rfl⟩ ?_ | refine call_x (spec_l01In _ _ _) rfl ⟨rfl⟩ ?_); (try simp (maxSteps := 1000000) (disch := first | omega | (simp only [LN, numOk, verOk, rfP, rvP, rhP, frP, blH, bytesOf_length, scanR, scanH, scanP, rsP, rsR, rsH] <;> omega) | exact Ck.mk rfl) only [VC, T, Nat.reduceMul, Nat.reduceAdd, Nat.reduceSub, Nat.reduceLT, Nat.reduceEqDiff, Nat.reduceLeDiff, Nat.reduceBEq, reduceCtorEq, Int.reduceToNat, ↓reduceIte, rfP, rvP, rhP, frP, blH, bytesOf_length, scanR, scanH, scanP, rsP, rsR, rsH])))
  · rw [← hq, if_pos ⟨by assumption, by simp only [verOk]; omega⟩, if_neg (by omega)]
  · rw [← hq, if_pos ⟨by assumption, by simp only [verOk]; omega⟩, if_pos (by omega)]
  · rw [← hq, if_neg (by rintro ⟨_, h⟩; simp only [verOk] at h; omega)]
  · rw [← hq, if_neg (by rintro ⟨h, _⟩; rw [f] at h; cases h)]
def seekT (b : ByteArray) (i : Int) : ByteArray × Bool := if (rSealed b).2.2 = true ∧ (rSealed b).1.2.2.1 ≤ i ∧ i < (rSealed b).1.2.2.1 + (rSealed b).2.1.length then ((rSealed b).2.1.getD (i - (rSealed b).1.2.2.1).toNat default, true) else (⟨#[]⟩, false)
def skP (x : ByteArray × Bool) : PV := .tup [.str x.1, .bool x.2]
theorem rSealed_f (b : ByteArray) : (0 ≤ (rSealed b).1.2.2.1 ∧ (rSealed b).1.2.2.1 ≤ 1000000000) ∧ (rSealed b).2.1.length ≤ b.size ∧ (∀ r ∈ (rSealed b).2.1, r.size ≤ 60) := by
  obtain ⟨f1, f2, f3, f4, f5, f6, _⟩ := scan_f b
  unfold rSealed
  split
  · exact ⟨f3, f5, f6⟩
  · exact ⟨⟨by decide, by decide⟩, Nat.zero_le _, fun _ h => absurd h (by simp)⟩
theorem spec_SeekRecord (b : ByteArray) (i : Int) (hb : b.size ≤ 1073741824) (hi : i64 i) : Fn Try.prog 41 [.str b, .int .i64 i] [] (skP (seekT b i)) [] := by
  have hS := spec_ReadSealed b hb
  have hF := rSealed_f b
  unfold i64 at hi
  unfold seekT
  generalize rSealed b = t at *
  obtain ⟨⟨v, s, base, l⟩, rs, ok⟩ := t
  obtain ⟨⟨f1, f2⟩, f3, f4⟩ := hF
  simp only at f1 f2 f3 f4 hS ⊢
  generalize hq : (if ok = true ∧ base ≤ i ∧ i < base + rs.length then (rs.getD (i - base).toNat default, true) else (⟨#[]⟩, false)) = q
  refine fn_x tok (n := 39) (rs := [.tmp 4, .tmp 5]) Try.func41 (by decide) rfl rfl rfl rfl ?_
  (try simp (maxSteps := 1000000) (disch := first | omega | (simp only [LN, numOk, verOk, rfP, rvP, rhP, frP, blH, bytesOf_length, scanR, scanH, scanP, rsP, rsR, rsH] <;> omega) | exact Ck.mk rfl) only [VC, T, Nat.reduceMul, Nat.reduceAdd, Nat.reduceSub, Nat.reduceLT, Nat.reduceEqDiff, Nat.reduceLeDiff, Nat.reduceBEq, reduceCtorEq, Int.reduceToNat, ↓reduceIte, rfP, rvP, rhP, frP, blH, bytesOf_length, scanR, scanH, scanP, rsP, rsR, rsH])
  repeat' (first
    | (refine br_go (fun e f => ?_) (fun e f => ?_) <;> (try simp only [BB] at f) <;> (try simp only [numOk, verOk] at f) <;> (try simp (maxSteps := 1000000) (disch := first | omega | (simp only [LN, numOk, verOk, rfP, rvP, rhP, frP, blH, bytesOf_length, scanR, scanH, scanP, rsP, rsR, rsH] <;> omega) | exact Ck.mk rfl) only [e, VC, T, Nat.reduceMul, Nat.reduceAdd, Nat.reduceSub, Nat.reduceLT, Nat.reduceEqDiff, Nat.reduceLeDiff, Nat.reduceBEq, reduceCtorEq, Int.reduceToNat, ↓reduceIte, rfP, rvP, rhP, frP, blH, bytesOf_length, scanR, scanH, scanP, rsP, rsR, rsH]) <;> (try clear e))
    | (refine pick_go (fun e f => ?_) (fun e f => ?_) <;> (try simp only [BB] at f) <;> (try simp only [numOk, verOk] at f) <;> (try simp (maxSteps := 1000000) (disch := first | omega | (simp only [LN, numOk, verOk, rfP, rvP, rhP, frP, blH, bytesOf_length, scanR, scanH, scanP, rsP, rsR, rsH] <;> omega) | exact Ck.mk rfl) only [e, VC, T, Nat.reduceMul, Nat.reduceAdd, Nat.reduceSub, Nat.reduceLT, Nat.reduceEqDiff, Nat.reduceLeDiff, Nat.reduceBEq, reduceCtorEq, Int.reduceToNat, ↓reduceIte, rfP, rvP, rhP, frP, blH, bytesOf_length, scanR, scanH, scanP, rsP, rsR, rsH]) <;> (try clear e))
    | ((first | refine call_x (hS) rfl ⟨rfl⟩ ?_); (try simp (maxSteps := 1000000) (disch := first | omega | (simp only [LN, numOk, verOk, rfP, rvP, rhP, frP, blH, bytesOf_length, scanR, scanH, scanP, rsP, rsR, rsH] <;> omega) | exact Ck.mk rfl) only [VC, T, Nat.reduceMul, Nat.reduceAdd, Nat.reduceSub, Nat.reduceLT, Nat.reduceEqDiff, Nat.reduceLeDiff, Nat.reduceBEq, reduceCtorEq, Int.reduceToNat, ↓reduceIte, rfP, rvP, rhP, frP, blH, bytesOf_length, scanR, scanH, scanP, rsP, rsR, rsH])))
  · rw [← hq, if_neg (by omega)]; rfl
  · rw [← hq, if_neg (by omega)]; rfl
  · rw [← hq, if_pos ⟨by assumption, by omega, by omega⟩]; rfl
  · rw [← hq, if_neg (by rintro ⟨h, _⟩; rw [f] at h; cases h)]; rfl
theorem impl_SeekRecord (b : ByteArray) (i : Int) (hb : b.size ≤ 1073741824) (hi : i64 i) : Fn Try.prog 40 [.str b, .int .i64 i] [] (skP (seekT b i)) [] := by
  have hS := impl_Scan b hb
  have hO := impl_SealedOk b hb
  have hF := scan_f b
  unfold i64 at hi
  unfold seekT
  unfold rSealed at hO ⊢
  generalize sealedB b = sb at *
  generalize scan b = t at *
  obtain ⟨ok, v, s, base, l, rs, os, e, m⟩ := t
  obtain ⟨f1, f2, f3, f4, f5, f6, f7, f8, f9⟩ := hF
  simp only at f1 f2 f3 f4 f5 f6 f7 f8 f9 hS ⊢
  have hA := impl_at ok v s base l rs os e m i f3 (by omega)
  cases sb
  · simp only [Bool.false_eq_true, if_false, false_and] at hO ⊢
    refine fn_x tok (n := 25) (rs := [.tmp 4, .tmp 5]) Try.func40 (by decide) rfl rfl rfl rfl ?_
    (try simp (maxSteps := 1000000) (disch := first | omega | (simp only [LN, numOk, verOk, rfP, rvP, rhP, frP, blH, bytesOf_length, scanR, scanH, scanP, rsP, rsR, rsH] <;> omega) | exact Ck.mk rfl) only [VC, T, Nat.reduceMul, Nat.reduceAdd, Nat.reduceSub, Nat.reduceLT, Nat.reduceEqDiff, Nat.reduceLeDiff, Nat.reduceBEq, reduceCtorEq, Int.reduceToNat, ↓reduceIte, rfP, rvP, rhP, frP, blH, bytesOf_length, scanR, scanH, scanP, rsP, rsR, rsH])
    repeat' (first
      | (refine br_go (fun e f => ?_) (fun e f => ?_) <;> (try simp only [BB] at f) <;> (try simp only [numOk, verOk] at f) <;> (try simp (maxSteps := 1000000) (disch := first | omega | (simp only [LN, numOk, verOk, rfP, rvP, rhP, frP, blH, bytesOf_length, scanR, scanH, scanP, rsP, rsR, rsH] <;> omega) | exact Ck.mk rfl) only [e, VC, T, Nat.reduceMul, Nat.reduceAdd, Nat.reduceSub, Nat.reduceLT, Nat.reduceEqDiff, Nat.reduceLeDiff, Nat.reduceBEq, reduceCtorEq, Int.reduceToNat, ↓reduceIte, rfP, rvP, rhP, frP, blH, bytesOf_length, scanR, scanH, scanP, rsP, rsR, rsH]) <;> (try clear e))
      | (refine pick_go (fun e f => ?_) (fun e f => ?_) <;> (try simp only [BB] at f) <;> (try simp only [numOk, verOk] at f) <;> (try simp (maxSteps := 1000000) (disch := first | omega | (simp only [LN, numOk, verOk, rfP, rvP, rhP, frP, blH, bytesOf_length, scanR, scanH, scanP, rsP, rsR, rsH] <;> omega) | exact Ck.mk rfl) only [e, VC, T, Nat.reduceMul, Nat.reduceAdd, Nat.reduceSub, Nat.reduceLT, Nat.reduceEqDiff, Nat.reduceLeDiff, Nat.reduceBEq, reduceCtorEq, Int.reduceToNat, ↓reduceIte, rfP, rvP, rhP, frP, blH, bytesOf_length, scanR, scanH, scanP, rsP, rsR, rsH]) <;> (try clear e))
      | ((first | refine call_x (hS) rfl ⟨rfl⟩ ?_ | refine call_x (hA) rfl ⟨rfl⟩ ?_ | refine call_x (hO) rfl ⟨rfl⟩ ?_); (try simp (maxSteps := 1000000) (disch := first | omega | (simp only [LN, numOk, verOk, rfP, rvP, rhP, frP, blH, bytesOf_length, scanR, scanH, scanP, rsP, rsR, rsH] <;> omega) | exact Ck.mk rfl) only [VC, T, Nat.reduceMul, Nat.reduceAdd, Nat.reduceSub, Nat.reduceLT, Nat.reduceEqDiff, Nat.reduceLeDiff, Nat.reduceBEq, reduceCtorEq, Int.reduceToNat, ↓reduceIte, rfP, rvP, rhP, frP, blH, bytesOf_length, scanR, scanH, scanP, rsP, rsR, rsH])))
    all_goals rfl
  · simp only [if_true, true_and] at hO ⊢
    generalize hq : (if base ≤ i ∧ i < base + rs.length then (rs.getD (i - base).toNat default, true) else (⟨#[]⟩, false)) = q
    refine fn_x tok (n := 25) (rs := [.tmp 4, .tmp 5]) Try.func40 (by decide) rfl rfl rfl rfl ?_
    (try simp (maxSteps := 1000000) (disch := first | omega | (simp only [LN, numOk, verOk, rfP, rvP, rhP, frP, blH, bytesOf_length, scanR, scanH, scanP, rsP, rsR, rsH] <;> omega) | exact Ck.mk rfl) only [VC, T, Nat.reduceMul, Nat.reduceAdd, Nat.reduceSub, Nat.reduceLT, Nat.reduceEqDiff, Nat.reduceLeDiff, Nat.reduceBEq, reduceCtorEq, Int.reduceToNat, ↓reduceIte, rfP, rvP, rhP, frP, blH, bytesOf_length, scanR, scanH, scanP, rsP, rsR, rsH])
    repeat' (first
      | (refine br_go (fun e f => ?_) (fun e f => ?_) <;> (try simp only [BB] at f) <;> (try simp only [numOk, verOk] at f) <;> (try simp (maxSteps := 1000000) (disch := first | omega | (simp only [LN, numOk, verOk, rfP, rvP, rhP, frP, blH, bytesOf_length, scanR, scanH, scanP, rsP, rsR, rsH] <;> omega) | exact Ck.mk rfl) only [e, VC, T, Nat.reduceMul, Nat.reduceAdd, Nat.reduceSub, Nat.reduceLT, Nat.reduceEqDiff, Nat.reduceLeDiff, Nat.reduceBEq, reduceCtorEq, Int.reduceToNat, ↓reduceIte, rfP, rvP, rhP, frP, blH, bytesOf_length, scanR, scanH, scanP, rsP, rsR, rsH]) <;> (try clear e))
      | (refine pick_go (fun e f => ?_) (fun e f => ?_) <;> (try simp only [BB] at f) <;> (try simp only [numOk, verOk] at f) <;> (try simp (maxSteps := 1000000) (disch := first | omega | (simp only [LN, numOk, verOk, rfP, rvP, rhP, frP, blH, bytesOf_length, scanR, scanH, scanP, rsP, rsR, rsH] <;> omega) | exact Ck.mk rfl) only [e, VC, T, Nat.reduceMul, Nat.reduceAdd, Nat.reduceSub, Nat.reduceLT, Nat.reduceEqDiff, Nat.reduceLeDiff, Nat.reduceBEq, reduceCtorEq, Int.reduceToNat, ↓reduceIte, rfP, rvP, rhP, frP, blH, bytesOf_length, scanR, scanH, scanP, rsP, rsR, rsH]) <;> (try clear e))
      | ((first | refine call_x (hS) rfl ⟨rfl⟩ ?_ | refine call_x (hA) rfl ⟨rfl⟩ ?_ | refine call_x (hO) rfl ⟨rfl⟩ ?_); (try simp (maxSteps := 1000000) (disch := first | omega | (simp only [LN, numOk, verOk, rfP, rvP, rhP, frP, blH, bytesOf_length, scanR, scanH, scanP, rsP, rsR, rsH] <;> omega) | exact Ck.mk rfl) only [VC, T, Nat.reduceMul, Nat.reduceAdd, Nat.reduceSub, Nat.reduceLT, Nat.reduceEqDiff, Nat.reduceLeDiff, Nat.reduceBEq, reduceCtorEq, Int.reduceToNat, ↓reduceIte, rfP, rvP, rhP, frP, blH, bytesOf_length, scanR, scanH, scanP, rsP, rsR, rsH])))
    · split at f
      · exfalso; omega
      · rw [← hq, if_neg (by omega)]; rfl
    · split at f
      · rw [← hq, if_pos (by omega), if_pos (by omega)]; rfl
      · exfalso; omega
end Go.Pv

/- What functions of the program and of the reference do, in plain values. -/
namespace Go.Pv
open Go.Proofs Go.Mth
set_option linter.unusedSimpArgs false
set_option linter.unusedVariables false
set_option maxHeartbeats 4000000

/-! ### draws: a cursor over bytes -/
def bkd (κ R : List Nat) (key : Nat) (hp ha : Hp) (K : PV → Hp → Prop) (res : PV) (hr : Hp) : Prop :=
  Ck (resOk res && hpB hr) ∧ KeysOk hp (ln κ) key hr ∧ Mn ha hr (ln κ) ∧ K (rk (sg κ key) res) (rkH (sg κ key) hr ++ gone hr κ 0 ++ R.map fun k => (k, HC.dead))
/-- A call that reads memory of the caller's, which then is gone. -/
theorem call_hd {P : Program} {hp : Hp} {key : Nat} (κ R : List Nat) {xs ys : List PV} {f : FuncId} {ha : Hp} {Q K : PV → Hp → Prop} (h : FnE P f ys ha Q) (hn : κ.Nodup ∧ (∀ k ∈ κ, k ∉ R) ∧ κ.length ≤ 64) (hc : cvtl (cvt hp R κ) xs = some ys) (hh : hand hp R κ κ 0 = some ha)
    (hk : ∀ res hr, Q res hr → bkd κ R key hp ha K res hr) : Call P hp key xs f K := by
  obtain ⟨res, hr, hq, hf⟩ := h
  obtain ⟨⟨h1⟩, h3, h4, h5⟩ := hk res hr hq
  simp only [Bool.and_eq_true] at h1
  rw [ln_eq] at h3 h4
  exact ⟨κ, R, false, ys, ha, res, hr, hc, hh, hf, hn, h3, Mn_mono h4, ⟨h1.1, hpB_ok h1.2⟩, fun e => Bool.noConfusion e, h5⟩
section
variable {hp hr : Hp}
theorem frz1_rv' {x y : PV} (h : frz1 hp x = some y) : RV1 hp hr [] y x ∧ RV2 hp hr [] y x ∧ RV hp hr [] y x := by
  unfold frz1 at h
  split at h
  · cases h; exact ⟨.inr (.inl ⟨rfl, rfl⟩), .inr (.inl ⟨rfl, rfl⟩), .inr (.inl ⟨rfl, rfl⟩)⟩
  · cases h; exact ⟨trivial, trivial, trivial⟩
  · rename_i g n
    split at h
    · rename_i hg
      rw [Option.map_eq_some_iff] at h
      obtain ⟨xs, h1, rfl⟩ := h
      have k : RV1 hp hr [] (.far xs) (.row g n) := .inr (.inr ⟨g, n, rfl, h1, by simp, Nat.le_of_ble_eq_true hg⟩)
      exact ⟨k, k, k⟩
    · cases h
  · split at h
    · rename_i hd
      cases h
      cases x <;> first
        | exact ⟨⟨hd, rfl⟩, ⟨hd, rfl⟩, ⟨hd, rfl⟩⟩
        | exact ⟨.inl rfl, .inl rfl, .inl rfl⟩
        | cases hd
    · cases h
theorem frz2_rv' {x y : PV} (h : frz2 hp x = some y) : RV2 hp hr [] y x ∧ RV hp hr [] y x := by
  cases x
  case agg xs =>
    simp only [frz2, Option.map_eq_some_iff] at h
    obtain ⟨ys, h1, rfl⟩ := h
    have k : RV2 hp hr [] (.agg ys) (.agg xs) := ⟨xs, rfl, cvtl_rvl (fun _ _ h => (frz1_rv' h).1) h1⟩
    exact ⟨k, k⟩
  all_goals (simp only [frz2] at h; exact (frz1_rv' h).2)
theorem frz_rv' {x y : PV} (h : frz hp x = some y) : RV hp hr [] y x := by
  cases x
  case tup xs =>
    simp only [frz, Option.map_eq_some_iff] at h
    obtain ⟨ys, h1, rfl⟩ := h
    exact ⟨xs, rfl, cvtl_rvl (fun _ _ h => (frz2_rv' h).1) h1⟩
  all_goals (simp only [frz] at h; exact (frz2_rv' h).2)
theorem rvl_self : ∀ {cs : List PV}, cs.all data1 = true → RVl (RV1 hp hr []) cs cs
  | [], _ => trivial
  | x :: cs, h => by
    simp only [List.all_cons, Bool.and_eq_true] at h
    refine ⟨?_, rvl_self h.2⟩
    cases x <;> first
      | exact ⟨h.1, rfl⟩
      | exact .inl rfl
      | exact trivial
      | cases h.1
theorem fin_c {T : Tab} {rs : List ResultVar} {ha : Hp} {Q : PV → Hp → Prop} {s : St} {xs cs : List PV} {y : PV} {q : TypeId} (h1 : resv T s rs = some xs) (h2 : frz s.hp (oneOf xs) = some y) (hc : hget s.hp 0 = some (.box q cs)) (hcs : cs.all data1 = true) (hq : Q y [(0, .box q cs)]) : Fin T rs ha Q s :=
  fin_t [] hq h1 (frz_rv' h2) ⟨⟨cs, hc, rvl_self hcs⟩, trivial⟩ trivial
end
def curB (code : List Int) (i h : Int) : HC := .box 102 [.far (code.map (.int .u8)), .int .i64 i, .int .i64 h]
def CurOk (code : List Int) (i h : Int) : Prop := (0 ≤ i ∧ i ≤ code.length) ∧ i64 h
def Bytes (code : List Int) : Prop := code.length ≤ 1048576 ∧ ∀ x ∈ code, 0 ≤ x ∧ x ≤ 255
/-- What a draw brings: a value of which A holds, and a cursor. -/
def CQ (code : List Int) (A : PV → Prop) (r : PV) (m : Hp) : Prop := A r ∧ ∃ i h, m = [(0, curB code i h)] ∧ CurOk code i h
/-- 0 .. n-1; 0 where n is not above 0. -/
def Bel (n x : Int) : Prop := (n ≤ 0 → x = 0) ∧ (0 < n → 0 ≤ x ∧ x < n)
def Mem (xs : List Int) (x : Int) : Prop := x ∈ xs
def MemT (xs : List ByteArray) (x : ByteArray) : Prop := x ∈ xs
def isBool (r : PV) : Prop := ∃ x, r = .bool x
def isInt (A : Int → Prop) (r : PV) : Prop := ∃ x, r = .int .i64 x ∧ A x
def isStr' (A : ByteArray → Prop) (r : PV) : Prop := ∃ x, r = .str x ∧ A x
theorem wrap_i64r (n : Int) : i64 (IntKind.i64.wrap n) := by rw [IntKind.wrap_i64]; unfold i64; omega
theorem and_mask30 (s : Int) : Go.bits .and .i64 s 1073741823 = s % 1073741824 := and_mask64 s 30 (by decide)
theorem l01New (code : List Int) (hb : Bytes code) : FnE Try.prog 54 [.far (code.map (.int .u8))] [] (fun r m => r = .ref 64 0 ∧ ∃ h, m = [(64, curB code 0 h)] ∧ CurOk code 0 h) := by
  obtain ⟨hl, hx⟩ := hb
  refine fn_e tok (n := 32) (rs := [.tmp 2]) Try.func54 (by decide) rfl rfl rfl rfl (low_of rfl) ?_
  (try simp (maxSteps := 1000000) (disch := first | omega | (simp only [LN, numOk, verOk, rfP, rvP, rhP, frP, curB, bkd] <;> omega) | exact Ck.mk rfl) only [VC, T, Nat.reduceMul, Nat.reduceAdd, Nat.reduceSub, Nat.reduceLT, Nat.reduceEqDiff, Nat.reduceLeDiff, Nat.reduceBEq, reduceCtorEq, Int.reduceToNat, ↓reduceIte, rfP, rvP, rhP, frP, curB, bkd])
  repeat' (first
    | (refine br_go (fun e f => ?_) (fun e f => ?_) <;> (try simp only [BB] at f) <;> (try simp only [numOk, verOk] at f) <;> (try simp (maxSteps := 1000000) (disch := first | omega | (simp only [LN, numOk, verOk, rfP, rvP, rhP, frP, curB, bkd] <;> omega) | exact Ck.mk rfl) only [e, VC, T, Nat.reduceMul, Nat.reduceAdd, Nat.reduceSub, Nat.reduceLT, Nat.reduceEqDiff, Nat.reduceLeDiff, Nat.reduceBEq, reduceCtorEq, Int.reduceToNat, ↓reduceIte, rfP, rvP, rhP, frP, curB, bkd]) <;> (try clear e))
    | (refine pick_go (fun e f => ?_) (fun e f => ?_) <;> (try simp only [BB] at f) <;> (try simp only [numOk, verOk] at f) <;> (try simp (maxSteps := 1000000) (disch := first | omega | (simp only [LN, numOk, verOk, rfP, rvP, rhP, frP, curB, bkd] <;> omega) | exact Ck.mk rfl) only [e, VC, T, Nat.reduceMul, Nat.reduceAdd, Nat.reduceSub, Nat.reduceLT, Nat.reduceEqDiff, Nat.reduceLeDiff, Nat.reduceBEq, reduceCtorEq, Int.reduceToNat, ↓reduceIte, rfP, rvP, rhP, frP, curB, bkd]) <;> (try clear e)))
  refine lp_go (fun x : Nat × Int => ⟨32, [(0, .far (code.map (.int .u8))), (3, .int .i64 x.2), (4, .int .i64 x.1)], []⟩) (fun x => x.1 ≤ code.length ∧ 0 ≤ x.2 ∧ x.2 ≤ 1073741824) (fun x => code.length - x.1) (0, 94701 + code.length) ?_ ⟨Nat.zero_le _, by simp only; omega, by simp only; omega⟩ ?_
  · (simp (disch := first | omega | (simp only [LN, numOk, verOk] <;> omega) | exact Ck.mk rfl) only [SB, EQ, Nat.reduceMul, Nat.reduceAdd, Nat.reduceSub, Nat.reduceLT, Nat.reduceEqDiff, Nat.reduceLeDiff, Nat.reduceBEq, reduceCtorEq, Int.reduceToNat, ↓reduceIte]; try omega)
  · rintro ⟨i, h⟩ ⟨h1, h2, h3⟩ N hN
    simp only at h1 h2 h3
    have hg : i < code.length → 0 ≤ code.getD i default ∧ code.getD i default ≤ 255 := fun h => hx _ (getD_mem _ _ h)
    (try simp (maxSteps := 1000000) (disch := first | omega | (simp only [LN, numOk, verOk, rfP, rvP, rhP, frP, curB, bkd, and_mask30] <;> omega) | exact Ck.mk rfl) only [VC, T, Nat.reduceMul, Nat.reduceAdd, Nat.reduceSub, Nat.reduceLT, Nat.reduceEqDiff, Nat.reduceLeDiff, Nat.reduceBEq, reduceCtorEq, Int.reduceToNat, ↓reduceIte, rfP, rvP, rhP, frP, curB, bkd, and_mask30])
    repeat' (first
      | (refine br_go (fun e f => ?_) (fun e f => ?_) <;> (try simp only [BB] at f) <;> (try simp only [numOk, verOk] at f) <;> (try simp (maxSteps := 1000000) (disch := first | omega | (simp only [LN, numOk, verOk, rfP, rvP, rhP, frP, curB, bkd, and_mask30] <;> omega) | exact Ck.mk rfl) only [e, VC, T, Nat.reduceMul, Nat.reduceAdd, Nat.reduceSub, Nat.reduceLT, Nat.reduceEqDiff, Nat.reduceLeDiff, Nat.reduceBEq, reduceCtorEq, Int.reduceToNat, ↓reduceIte, rfP, rvP, rhP, frP, curB, bkd, and_mask30]) <;> (try clear e))
      | (refine pick_go (fun e f => ?_) (fun e f => ?_) <;> (try simp only [BB] at f) <;> (try simp only [numOk, verOk] at f) <;> (try simp (maxSteps := 1000000) (disch := first | omega | (simp only [LN, numOk, verOk, rfP, rvP, rhP, frP, curB, bkd, and_mask30] <;> omega) | exact Ck.mk rfl) only [e, VC, T, Nat.reduceMul, Nat.reduceAdd, Nat.reduceSub, Nat.reduceLT, Nat.reduceEqDiff, Nat.reduceLeDiff, Nat.reduceBEq, reduceCtorEq, Int.reduceToNat, ↓reduceIte, rfP, rvP, rhP, frP, curB, bkd, and_mask30]) <;> (try clear e)))
    · refine hN (i + 1, (h * 131 + code.getD i default + 7) % 1073741824) _ ⟨by simp only; omega, by simp only; omega, by simp only; omega⟩ (by simp only; omega) ?_
      (simp (disch := first | omega | (simp only [LN, numOk, verOk] <;> omega) | exact Ck.mk rfl) only [SB, EQ, Nat.reduceMul, Nat.reduceAdd, Nat.reduceSub, Nat.reduceLT, Nat.reduceEqDiff, Nat.reduceLeDiff, Nat.reduceBEq, reduceCtorEq, Int.reduceToNat, ↓reduceIte]; try omega)
    · exact fin_t [some 2048] (⟨rfl, h, rfl, ⟨by omega, by omega⟩, by unfold i64; omega⟩) rfl (by simp [RV, RV2, RVl, RV1, tau, tget, hget, data1, oneOf, curB]) (by simp [RH, RVl, RV1, tau, hget, data1, curB]) (by simp [Taus, hget, curB])
    · exact fin_t [some 2048] (⟨rfl, h, rfl, ⟨by omega, by omega⟩, by unfold i64; omega⟩) rfl (by simp [RV, RV2, RVl, RV1, tau, tget, hget, data1, oneOf, curB]) (by simp [RH, RVl, RV1, tau, hget, data1, curB]) (by simp [Taus, hget, curB])
theorem l01Byte (code : List Int) (hb : Bytes code) (i h : Int) (hc : CurOk code i h) : FnE Try.prog 91 [.ref 0 0] [(0, curB code i h)] (CQ code (isInt (Bel 256))) := by
  obtain ⟨⟨h1, h2⟩, h3⟩ := hc
  obtain ⟨hl, hx⟩ := hb
  have hw := wrap_i64r (IntKind.i64.wrap (h * 6364136223846793005) + 1442695040888963407)
  have hg : ∀ n : Nat, n < code.length → 0 ≤ code.getD n default ∧ code.getD n default ≤ 255 := fun n h => hx _ (getD_mem _ _ h)
  refine fn_e tok (n := 58) (rs := [.tmp 2]) Try.func91 (by decide) rfl rfl rfl rfl (low_of rfl) ?_
  (try simp (maxSteps := 1000000) (disch := first | omega | (simp only [LN, numOk, verOk, rfP, rvP, rhP, frP, curB, bkd, and_255] <;> omega) | exact Ck.mk rfl) only [VC, T, Nat.reduceMul, Nat.reduceAdd, Nat.reduceSub, Nat.reduceLT, Nat.reduceEqDiff, Nat.reduceLeDiff, Nat.reduceBEq, reduceCtorEq, Int.reduceToNat, ↓reduceIte, rfP, rvP, rhP, frP, curB, bkd, and_255])
  repeat' (first
    | (refine br_go (fun e f => ?_) (fun e f => ?_) <;> (try simp only [BB] at f) <;> (try simp only [numOk, verOk] at f) <;> (try simp (maxSteps := 1000000) (disch := first | omega | (simp only [LN, numOk, verOk, rfP, rvP, rhP, frP, curB, bkd, and_255] <;> omega) | exact Ck.mk rfl) only [e, VC, T, Nat.reduceMul, Nat.reduceAdd, Nat.reduceSub, Nat.reduceLT, Nat.reduceEqDiff, Nat.reduceLeDiff, Nat.reduceBEq, reduceCtorEq, Int.reduceToNat, ↓reduceIte, rfP, rvP, rhP, frP, curB, bkd, and_255]) <;> (try clear e))
    | (refine pick_go (fun e f => ?_) (fun e f => ?_) <;> (try simp only [BB] at f) <;> (try simp only [numOk, verOk] at f) <;> (try simp (maxSteps := 1000000) (disch := first | omega | (simp only [LN, numOk, verOk, rfP, rvP, rhP, frP, curB, bkd, and_255] <;> omega) | exact Ck.mk rfl) only [e, VC, T, Nat.reduceMul, Nat.reduceAdd, Nat.reduceSub, Nat.reduceLT, Nat.reduceEqDiff, Nat.reduceLeDiff, Nat.reduceBEq, reduceCtorEq, Int.reduceToNat, ↓reduceIte, rfP, rvP, rhP, frP, curB, bkd, and_255]) <;> (try clear e))
    | ((first | refine dr_go mixed (id := 2) [([], [0], []), ([0], [13], []), ([0, 1], [14], []), ([0, 1, 2], [15], []), ([0, 1, 2, 3], [16], []), ([], [0], []), ([5], [18], []), ([5, 6], [19], []), ([5, 6, 7], [20], []), ([5, 6, 7, 8], [21], []), ([0, 1, 2, 3, 4, 5, 6, 7, 8, 9], [17, 22], []), ([0, 1, 2, 3, 4, 5, 6, 7, 8, 9, 10], [23], []), ([0, 1, 2, 3, 4, 5, 6, 7, 8, 9, 10, 11], [24], [])] rfl rfl rfl ?_ | refine dr_go mixed (id := 3) [([], [0], []), ([0], [25], []), ([0, 1], [26], []), ([0, 1, 2], [27], []), ([], [0], []), ([4], [29], []), ([4, 5], [30], []), ([4, 5, 6], [31], []), ([4, 5, 6, 7], [32], []), ([0, 1, 2, 3, 4, 5, 6, 7, 8], [28, 33], [])] rfl rfl rfl ?_ | refine dr_go mixed (id := 4) [([], [3], []), ([], [0], []), ([1], [36], []), ([1, 2], [37], []), ([1, 2, 3], [38], []), ([], [0], []), ([5], [40], []), ([5, 6], [41], []), ([5, 6, 7], [42], []), ([1, 2, 3, 4, 5, 6, 7, 8], [39, 43], []), ([1, 2, 3, 4, 5, 6, 7, 8, 9], [44], []), ([1, 2, 3, 4, 5, 6, 7, 8, 9, 10], [45], []), ([0, 1, 2, 3, 4, 5, 6, 7, 8, 9, 10, 11], [35, 46], []), ([0, 1, 2, 3, 4, 5, 6, 7, 8, 9, 10, 11, 12], [47], []), ([0, 1, 2, 3, 4, 5, 6, 7, 8, 9, 10, 11, 12, 13], [48], [])] rfl rfl rfl ?_); (try simp (maxSteps := 1000000) (disch := first | omega | (simp only [LN, numOk, verOk, rfP, rvP, rhP, frP, curB, bkd, and_255] <;> omega) | exact Ck.mk rfl) only [VC, T, Nat.reduceMul, Nat.reduceAdd, Nat.reduceSub, Nat.reduceLT, Nat.reduceEqDiff, Nat.reduceLeDiff, Nat.reduceBEq, reduceCtorEq, Int.reduceToNat, ↓reduceIte, rfP, rvP, rhP, frP, curB, bkd, and_255])))
  · refine fin_c rfl (by first | rfl | (simp (maxSteps := 1000000) (disch := first | omega | (simp only [LN, numOk, verOk, rfP, rvP, rhP, frP, curB, bkd] <;> omega) | exact Ck.mk rfl) only [VC, T, Nat.reduceMul, Nat.reduceAdd, Nat.reduceSub, Nat.reduceLT, Nat.reduceEqDiff, Nat.reduceLeDiff, Nat.reduceBEq, reduceCtorEq, Int.reduceToNat, ↓reduceIte, rfP, rvP, rhP, frP, curB, bkd]; done)) rfl rfl ?_
    exact ⟨⟨_, rfl, fun h => by omega, fun _ => by omega⟩, _, _, rfl, ⟨by omega, by omega⟩, hw⟩
  · refine fin_c rfl (by first | rfl | (simp (maxSteps := 1000000) (disch := first | omega | (simp only [LN, numOk, verOk, rfP, rvP, rhP, frP, curB, bkd] <;> omega) | exact Ck.mk rfl) only [VC, T, Nat.reduceMul, Nat.reduceAdd, Nat.reduceSub, Nat.reduceLT, Nat.reduceEqDiff, Nat.reduceLeDiff, Nat.reduceBEq, reduceCtorEq, Int.reduceToNat, ↓reduceIte, rfP, rvP, rhP, frP, curB, bkd]; done)) rfl rfl ?_
    exact ⟨⟨_, rfl, fun h => by omega, fun _ => by omega⟩, _, _, rfl, ⟨by omega, by omega⟩, hw⟩
theorem l01Below (code : List Int) (hb : Bytes code) (n : Int) (hn : n ≤ 1000000000) (i h : Int) (hc : CurOk code i h) : FnE Try.prog 55 [.ref 0 0, .int .i64 n] [(0, curB code i h)] (CQ code (isInt (Bel n))) := by
  have ht : ∀ x : Int, 0 ≤ x → x.tmod n = x % n := fun x h => Int.tmod_eq_emod_of_nonneg h
  have hm : ∀ x : Int, 0 < n → 0 ≤ x % n ∧ x % n < n := fun x h => ⟨Int.emod_nonneg _ (by omega), Int.emod_lt_of_pos _ h⟩
  refine fn_e tok (n := 37) (rs := [.tmp 4]) Try.func55 (by decide) rfl rfl rfl rfl (low_of rfl) ?_
  (try simp (maxSteps := 1000000) (disch := first | omega | (simp only [LN, numOk, verOk, rfP, rvP, rhP, frP, curB, bkd, ht] <;> omega) | exact Ck.mk rfl) only [VC, T, Nat.reduceMul, Nat.reduceAdd, Nat.reduceSub, Nat.reduceLT, Nat.reduceEqDiff, Nat.reduceLeDiff, Nat.reduceBEq, reduceCtorEq, Int.reduceToNat, ↓reduceIte, rfP, rvP, rhP, frP, curB, bkd, ht])
  repeat' (first
    | (refine br_go (fun e f => ?_) (fun e f => ?_) <;> (try simp only [BB] at f) <;> (try simp only [numOk, verOk] at f) <;> (try simp (maxSteps := 1000000) (disch := first | omega | (simp only [LN, numOk, verOk, rfP, rvP, rhP, frP, curB, bkd, ht] <;> omega) | exact Ck.mk rfl) only [e, VC, T, Nat.reduceMul, Nat.reduceAdd, Nat.reduceSub, Nat.reduceLT, Nat.reduceEqDiff, Nat.reduceLeDiff, Nat.reduceBEq, reduceCtorEq, Int.reduceToNat, ↓reduceIte, rfP, rvP, rhP, frP, curB, bkd, ht]) <;> (try clear e))
    | (refine pick_go (fun e f => ?_) (fun e f => ?_) <;> (try simp only [BB] at f) <;> (try simp only [numOk, verOk] at f) <;> (try simp (maxSteps := 1000000) (disch := first | omega | (simp only [LN, numOk, verOk, rfP, rvP, rhP, frP, curB, bkd, ht] <;> omega) | exact Ck.mk rfl) only [e, VC, T, Nat.reduceMul, Nat.reduceAdd, Nat.reduceSub, Nat.reduceLT, Nat.reduceEqDiff, Nat.reduceLeDiff, Nat.reduceBEq, reduceCtorEq, Int.reduceToNat, ↓reduceIte, rfP, rvP, rhP, frP, curB, bkd, ht]) <;> (try clear e))
    | ((first | (refine call_h [0] [] (l01Byte code hb _ _ (by assumption)) (by decide) rfl rfl ?_; rintro _ _ ⟨⟨x, rfl, hx1, hx2⟩, i', h', rfl, hc'⟩)); (try simp (maxSteps := 1000000) (disch := first | omega | (simp only [LN, numOk, verOk, rfP, rvP, rhP, frP, curB, bkd, ht] <;> omega) | exact Ck.mk rfl) only [VC, T, Nat.reduceMul, Nat.reduceAdd, Nat.reduceSub, Nat.reduceLT, Nat.reduceEqDiff, Nat.reduceLeDiff, Nat.reduceBEq, reduceCtorEq, Int.reduceToNat, ↓reduceIte, rfP, rvP, rhP, frP, curB, bkd, ht])))
  · refine fin_c rfl (by first | rfl | (simp (maxSteps := 1000000) (disch := first | omega | (simp only [LN, numOk, verOk, rfP, rvP, rhP, frP, curB, bkd] <;> omega) | exact Ck.mk rfl) only [VC, T, Nat.reduceMul, Nat.reduceAdd, Nat.reduceSub, Nat.reduceLT, Nat.reduceEqDiff, Nat.reduceLeDiff, Nat.reduceBEq, reduceCtorEq, Int.reduceToNat, ↓reduceIte, rfP, rvP, rhP, frP, curB, bkd]; done)) rfl rfl ?_
    exact ⟨⟨_, rfl, fun _ => rfl, fun _ => by omega⟩, _, _, rfl, by assumption⟩
  · refine fin_c rfl (by first | rfl | (simp (maxSteps := 1000000) (disch := first | omega | (simp only [LN, numOk, verOk, rfP, rvP, rhP, frP, curB, bkd] <;> omega) | exact Ck.mk rfl) only [VC, T, Nat.reduceMul, Nat.reduceAdd, Nat.reduceSub, Nat.reduceLT, Nat.reduceEqDiff, Nat.reduceLeDiff, Nat.reduceBEq, reduceCtorEq, Int.reduceToNat, ↓reduceIte, rfP, rvP, rhP, frP, curB, bkd]; done)) rfl rfl ?_
    refine ⟨⟨_, rfl, ?_, ?_⟩, _, _, rfl, by assumption⟩
    · intro h; omega
    · intro h; exact hm _ h
  · refine fin_c rfl (by first | rfl | (simp (maxSteps := 1000000) (disch := first | omega | (simp only [LN, numOk, verOk, rfP, rvP, rhP, frP, curB, bkd] <;> omega) | exact Ck.mk rfl) only [VC, T, Nat.reduceMul, Nat.reduceAdd, Nat.reduceSub, Nat.reduceLT, Nat.reduceEqDiff, Nat.reduceLeDiff, Nat.reduceBEq, reduceCtorEq, Int.reduceToNat, ↓reduceIte, rfP, rvP, rhP, frP, curB, bkd]; done)) rfl rfl ?_
    refine ⟨⟨_, rfl, ?_, ?_⟩, _, _, rfl, by assumption⟩
    · intro h; omega
    · intro h; exact hm _ h
theorem l01Once (code : List Int) (hb : Bytes code) (n : Int) (hn : n ≤ 1000000000) (i h : Int) (hc : CurOk code i h) : FnE Try.prog 83 [.ref 0 0, .int .i64 n] [(0, curB code i h)] (CQ code isBool) := by
  refine fn_e tok (n := 9) (rs := [.tmp 4]) Try.func83 (by decide) rfl rfl rfl rfl (low_of rfl) ?_
  (try simp (maxSteps := 1000000) (disch := first | omega | (simp only [LN, numOk, verOk, rfP, rvP, rhP, frP, curB, bkd] <;> omega) | exact Ck.mk rfl) only [VC, T, Nat.reduceMul, Nat.reduceAdd, Nat.reduceSub, Nat.reduceLT, Nat.reduceEqDiff, Nat.reduceLeDiff, Nat.reduceBEq, reduceCtorEq, Int.reduceToNat, ↓reduceIte, rfP, rvP, rhP, frP, curB, bkd])
  repeat' (first
    | (refine br_go (fun e f => ?_) (fun e f => ?_) <;> (try simp only [BB] at f) <;> (try simp only [numOk, verOk] at f) <;> (try simp (maxSteps := 1000000) (disch := first | omega | (simp only [LN, numOk, verOk, rfP, rvP, rhP, frP, curB, bkd] <;> omega) | exact Ck.mk rfl) only [e, VC, T, Nat.reduceMul, Nat.reduceAdd, Nat.reduceSub, Nat.reduceLT, Nat.reduceEqDiff, Nat.reduceLeDiff, Nat.reduceBEq, reduceCtorEq, Int.reduceToNat, ↓reduceIte, rfP, rvP, rhP, frP, curB, bkd]) <;> (try clear e))
    | (refine pick_go (fun e f => ?_) (fun e f => ?_) <;> (try simp only [BB] at f) <;> (try simp only [numOk, verOk] at f) <;> (try simp (maxSteps := 1000000) (disch := first | omega | (simp only [LN, numOk, verOk, rfP, rvP, rhP, frP, curB, bkd] <;> omega) | exact Ck.mk rfl) only [e, VC, T, Nat.reduceMul, Nat.reduceAdd, Nat.reduceSub, Nat.reduceLT, Nat.reduceEqDiff, Nat.reduceLeDiff, Nat.reduceBEq, reduceCtorEq, Int.reduceToNat, ↓reduceIte, rfP, rvP, rhP, frP, curB, bkd]) <;> (try clear e))
    | ((first | (refine call_h [0] [] (l01Below code hb _ (by omega) _ _ (by assumption)) (by decide) rfl rfl ?_; rintro _ _ ⟨⟨x, rfl, hx1, hx2⟩, i', h', rfl, hc'⟩)); (try simp (maxSteps := 1000000) (disch := first | omega | (simp only [LN, numOk, verOk, rfP, rvP, rhP, frP, curB, bkd] <;> omega) | exact Ck.mk rfl) only [VC, T, Nat.reduceMul, Nat.reduceAdd, Nat.reduceSub, Nat.reduceLT, Nat.reduceEqDiff, Nat.reduceLeDiff, Nat.reduceBEq, reduceCtorEq, Int.reduceToNat, ↓reduceIte, rfP, rvP, rhP, frP, curB, bkd])))
  refine fin_c rfl (by first | rfl | (simp (maxSteps := 1000000) (disch := first | omega | (simp only [LN, numOk, verOk, rfP, rvP, rhP, frP, curB, bkd] <;> omega) | exact Ck.mk rfl) only [VC, T, Nat.reduceMul, Nat.reduceAdd, Nat.reduceSub, Nat.reduceLT, Nat.reduceEqDiff, Nat.reduceLeDiff, Nat.reduceBEq, reduceCtorEq, Int.reduceToNat, ↓reduceIte, rfP, rvP, rhP, frP, curB, bkd]; done)) rfl rfl ?_
  exact ⟨⟨_, rfl⟩, _, _, rfl, by assumption⟩
theorem l01PickInt (code : List Int) (hb : Bytes code) (xs : List Int) (h0 : xs ≠ []) (hl : xs.length ≤ 1000) (i h : Int) (hc : CurOk code i h) : FnE Try.prog 64 [.ref 0 0, .far (xs.map (.int .i64))] [(0, curB code i h)] (CQ code (isInt (Mem xs))) := by
  have hl0 : 0 < xs.length := List.length_pos_iff.2 h0
  refine fn_e tok (n := 12) (rs := [.tmp 4]) Try.func64 (by decide) rfl rfl rfl rfl (low_of rfl) ?_
  (try simp (maxSteps := 1000000) (disch := first | omega | (simp only [LN, numOk, verOk, rfP, rvP, rhP, frP, curB, bkd] <;> omega) | exact Ck.mk rfl) only [VC, T, Nat.reduceMul, Nat.reduceAdd, Nat.reduceSub, Nat.reduceLT, Nat.reduceEqDiff, Nat.reduceLeDiff, Nat.reduceBEq, reduceCtorEq, Int.reduceToNat, ↓reduceIte, rfP, rvP, rhP, frP, curB, bkd])
  repeat' (first
    | (refine br_go (fun e f => ?_) (fun e f => ?_) <;> (try simp only [BB] at f) <;> (try simp only [numOk, verOk] at f) <;> (try simp (maxSteps := 1000000) (disch := first | omega | (simp only [LN, numOk, verOk, rfP, rvP, rhP, frP, curB, bkd] <;> omega) | exact Ck.mk rfl) only [e, VC, T, Nat.reduceMul, Nat.reduceAdd, Nat.reduceSub, Nat.reduceLT, Nat.reduceEqDiff, Nat.reduceLeDiff, Nat.reduceBEq, reduceCtorEq, Int.reduceToNat, ↓reduceIte, rfP, rvP, rhP, frP, curB, bkd]) <;> (try clear e))
    | (refine pick_go (fun e f => ?_) (fun e f => ?_) <;> (try simp only [BB] at f) <;> (try simp only [numOk, verOk] at f) <;> (try simp (maxSteps := 1000000) (disch := first | omega | (simp only [LN, numOk, verOk, rfP, rvP, rhP, frP, curB, bkd] <;> omega) | exact Ck.mk rfl) only [e, VC, T, Nat.reduceMul, Nat.reduceAdd, Nat.reduceSub, Nat.reduceLT, Nat.reduceEqDiff, Nat.reduceLeDiff, Nat.reduceBEq, reduceCtorEq, Int.reduceToNat, ↓reduceIte, rfP, rvP, rhP, frP, curB, bkd]) <;> (try clear e))
    | ((first | (refine call_h [0] [] (l01Below code hb _ (by omega) _ _ (by assumption)) (by decide) rfl rfl ?_; rintro _ _ ⟨⟨x, rfl, hx1, hx2⟩, i', h', rfl, hc'⟩)); (try simp (maxSteps := 1000000) (disch := first | omega | (simp only [LN, numOk, verOk, rfP, rvP, rhP, frP, curB, bkd] <;> omega) | exact Ck.mk rfl) only [VC, T, Nat.reduceMul, Nat.reduceAdd, Nat.reduceSub, Nat.reduceLT, Nat.reduceEqDiff, Nat.reduceLeDiff, Nat.reduceBEq, reduceCtorEq, Int.reduceToNat, ↓reduceIte, rfP, rvP, rhP, frP, curB, bkd])))
  (try simp (maxSteps := 1000000) (disch := first | omega | (simp only [LN, numOk, verOk, rfP, rvP, rhP, frP, curB, bkd] <;> omega) | exact Ck.mk rfl) only [VC, T, Nat.reduceMul, Nat.reduceAdd, Nat.reduceSub, Nat.reduceLT, Nat.reduceEqDiff, Nat.reduceLeDiff, Nat.reduceBEq, reduceCtorEq, Int.reduceToNat, ↓reduceIte, rfP, rvP, rhP, frP, curB, bkd])
  repeat' (first
    | (refine br_go (fun e f => ?_) (fun e f => ?_) <;> (try simp only [BB] at f) <;> (try simp only [numOk, verOk] at f) <;> (try simp (maxSteps := 1000000) (disch := first | omega | (simp only [LN, numOk, verOk, rfP, rvP, rhP, frP, curB, bkd] <;> omega) | exact Ck.mk rfl) only [e, VC, T, Nat.reduceMul, Nat.reduceAdd, Nat.reduceSub, Nat.reduceLT, Nat.reduceEqDiff, Nat.reduceLeDiff, Nat.reduceBEq, reduceCtorEq, Int.reduceToNat, ↓reduceIte, rfP, rvP, rhP, frP, curB, bkd]) <;> (try clear e))
    | (refine pick_go (fun e f => ?_) (fun e f => ?_) <;> (try simp only [BB] at f) <;> (try simp only [numOk, verOk] at f) <;> (try simp (maxSteps := 1000000) (disch := first | omega | (simp only [LN, numOk, verOk, rfP, rvP, rhP, frP, curB, bkd] <;> omega) | exact Ck.mk rfl) only [e, VC, T, Nat.reduceMul, Nat.reduceAdd, Nat.reduceSub, Nat.reduceLT, Nat.reduceEqDiff, Nat.reduceLeDiff, Nat.reduceBEq, reduceCtorEq, Int.reduceToNat, ↓reduceIte, rfP, rvP, rhP, frP, curB, bkd]) <;> (try clear e))
    | ((first | (refine call_h [0] [] (l01Below code hb _ (by omega) _ _ (by assumption)) (by decide) rfl rfl ?_; rintro _ _ ⟨⟨x, rfl, hx1, hx2⟩, i', h', rfl, hc'⟩)); (try simp (maxSteps := 1000000) (disch := first | omega | (simp only [LN, numOk, verOk, rfP, rvP, rhP, frP, curB, bkd] <;> omega) | exact Ck.mk rfl) only [VC, T, Nat.reduceMul, Nat.reduceAdd, Nat.reduceSub, Nat.reduceLT, Nat.reduceEqDiff, Nat.reduceLeDiff, Nat.reduceBEq, reduceCtorEq, Int.reduceToNat, ↓reduceIte, rfP, rvP, rhP, frP, curB, bkd])))
  refine fin_c rfl (by first | rfl | (simp (maxSteps := 1000000) (disch := first | omega | (simp only [LN, numOk, verOk, rfP, rvP, rhP, frP, curB, bkd] <;> omega) | exact Ck.mk rfl) only [VC, T, Nat.reduceMul, Nat.reduceAdd, Nat.reduceSub, Nat.reduceLT, Nat.reduceEqDiff, Nat.reduceLeDiff, Nat.reduceBEq, reduceCtorEq, Int.reduceToNat, ↓reduceIte, rfP, rvP, rhP, frP, curB, bkd]; done)) rfl rfl ?_
  exact ⟨⟨_, rfl, getD_mem _ _ (by omega)⟩, _, _, rfl, by assumption⟩
def SzIn (n : Int) (x : ByteArray) : Prop := (x.size : Int) ≤ n
theorem l01Text (code : List Int) (hb : Bytes code) (n : Int) (hn : n ≤ 1000000) (i h : Int) (hc : CurOk code i h) : FnE Try.prog 117 [.ref 0 0, .int .i64 n] [(0, curB code i h)] (CQ code (isStr' (SzIn (max 0 n)))) := by
  refine fn_e tok (n := 23) (rs := [.tmp 4]) Try.func117 (by decide) rfl rfl rfl rfl (low_of rfl) ?_
  (try simp (maxSteps := 1000000) (disch := first | omega | (simp only [LN, numOk, verOk, rfP, rvP, rhP, frP, curB, bkd] <;> omega) | exact Ck.mk rfl) only [VC, T, Nat.reduceMul, Nat.reduceAdd, Nat.reduceSub, Nat.reduceLT, Nat.reduceEqDiff, Nat.reduceLeDiff, Nat.reduceBEq, reduceCtorEq, Int.reduceToNat, ↓reduceIte, rfP, rvP, rhP, frP, curB, bkd])
  repeat' (first
    | (refine br_go (fun e f => ?_) (fun e f => ?_) <;> (try simp only [BB] at f) <;> (try simp only [numOk, verOk] at f) <;> (try simp (maxSteps := 1000000) (disch := first | omega | (simp only [LN, numOk, verOk, rfP, rvP, rhP, frP, curB, bkd] <;> omega) | exact Ck.mk rfl) only [e, VC, T, Nat.reduceMul, Nat.reduceAdd, Nat.reduceSub, Nat.reduceLT, Nat.reduceEqDiff, Nat.reduceLeDiff, Nat.reduceBEq, reduceCtorEq, Int.reduceToNat, ↓reduceIte, rfP, rvP, rhP, frP, curB, bkd]) <;> (try clear e))
    | (refine pick_go (fun e f => ?_) (fun e f => ?_) <;> (try simp only [BB] at f) <;> (try simp only [numOk, verOk] at f) <;> (try simp (maxSteps := 1000000) (disch := first | omega | (simp only [LN, numOk, verOk, rfP, rvP, rhP, frP, curB, bkd] <;> omega) | exact Ck.mk rfl) only [e, VC, T, Nat.reduceMul, Nat.reduceAdd, Nat.reduceSub, Nat.reduceLT, Nat.reduceEqDiff, Nat.reduceLeDiff, Nat.reduceBEq, reduceCtorEq, Int.reduceToNat, ↓reduceIte, rfP, rvP, rhP, frP, curB, bkd]) <;> (try clear e)))
  · refine lp_go (fun x : List Int × Int × Int => ⟨23, [(0, .ref 0 0), (1, .int .i64 5000), (5, .row 640 x.1.length), (6, .int .i64 x.1.length)], [(640, .row ⟨1, 0⟩ (x.1.map (.int .u8))), (0, curB code x.2.1 x.2.2)]⟩) (fun x => ((x.1.length : Int) ≤ max 0 5000 ∧ ∀ z ∈ x.1, 0 ≤ z ∧ z ≤ 255) ∧ CurOk code x.2.1 x.2.2) (fun x => (5000 : Int).toNat - x.1.length) ([], i, h) ?_ ⟨⟨by simp only [List.length_nil]; omega, fun _ h => absurd h (by simp)⟩, hc⟩ ?_
    · (simp (disch := first | omega | (simp only [LN, numOk, verOk, curB] <;> omega) | exact Ck.mk rfl) only [SB, EQ, Nat.reduceMul, Nat.reduceAdd, Nat.reduceSub, Nat.reduceLT, Nat.reduceEqDiff, Nat.reduceLeDiff, Nat.reduceBEq, reduceCtorEq, Int.reduceToNat, ↓reduceIte, curB]; try omega)
    · rintro ⟨bs, i, h⟩ ⟨⟨h1, h2⟩, hc⟩ N hN
      simp only at h1 h2 hc
      (try simp (maxSteps := 1000000) (disch := first | omega | (simp only [LN, numOk, verOk, rfP, rvP, rhP, frP, curB, bkd] <;> omega) | exact Ck.mk rfl) only [VC, T, Nat.reduceMul, Nat.reduceAdd, Nat.reduceSub, Nat.reduceLT, Nat.reduceEqDiff, Nat.reduceLeDiff, Nat.reduceBEq, reduceCtorEq, Int.reduceToNat, ↓reduceIte, rfP, rvP, rhP, frP, curB, bkd])
      repeat' (first
        | (refine br_go (fun e f => ?_) (fun e f => ?_) <;> (try simp only [BB] at f) <;> (try simp only [numOk, verOk] at f) <;> (try simp (maxSteps := 1000000) (disch := first | omega | (simp only [LN, numOk, verOk, rfP, rvP, rhP, frP, curB, bkd] <;> omega) | exact Ck.mk rfl) only [e, VC, T, Nat.reduceMul, Nat.reduceAdd, Nat.reduceSub, Nat.reduceLT, Nat.reduceEqDiff, Nat.reduceLeDiff, Nat.reduceBEq, reduceCtorEq, Int.reduceToNat, ↓reduceIte, rfP, rvP, rhP, frP, curB, bkd]) <;> (try clear e))
        | (refine pick_go (fun e f => ?_) (fun e f => ?_) <;> (try simp only [BB] at f) <;> (try simp only [numOk, verOk] at f) <;> (try simp (maxSteps := 1000000) (disch := first | omega | (simp only [LN, numOk, verOk, rfP, rvP, rhP, frP, curB, bkd] <;> omega) | exact Ck.mk rfl) only [e, VC, T, Nat.reduceMul, Nat.reduceAdd, Nat.reduceSub, Nat.reduceLT, Nat.reduceEqDiff, Nat.reduceLeDiff, Nat.reduceBEq, reduceCtorEq, Int.reduceToNat, ↓reduceIte, rfP, rvP, rhP, frP, curB, bkd]) <;> (try clear e))
        | ((first | (refine call_h [0] [] (l01Byte code hb _ _ (by assumption)) (by decide) rfl rfl ?_; rintro _ _ ⟨⟨x, rfl, hx1, hx2⟩, i', h', rfl, hc'⟩)); (try simp (maxSteps := 1000000) (disch := first | omega | (simp only [LN, numOk, verOk, rfP, rvP, rhP, frP, curB, bkd] <;> omega) | exact Ck.mk rfl) only [VC, T, Nat.reduceMul, Nat.reduceAdd, Nat.reduceSub, Nat.reduceLT, Nat.reduceEqDiff, Nat.reduceLeDiff, Nat.reduceBEq, reduceCtorEq, Int.reduceToNat, ↓reduceIte, rfP, rvP, rhP, frP, curB, bkd])))
      · have hx := hx2 (by decide)
        refine hN (bs ++ [x % 256], i', h') _ ⟨⟨by simp only [List.length_append, List.length_singleton]; omega, fun z hz => ?_⟩, hc'⟩ (by simp only [List.length_append, List.length_singleton]; omega) ?_
        · rcases List.mem_append.1 hz with hz | hz
          · exact h2 z hz
          · rw [List.mem_singleton.1 hz]; omega
        · (simp (disch := first | omega | (simp only [LN, numOk, verOk, curB] <;> omega) | exact Ck.mk rfl) only [SB, EQ, Nat.reduceMul, Nat.reduceAdd, Nat.reduceSub, Nat.reduceLT, Nat.reduceEqDiff, Nat.reduceLeDiff, Nat.reduceBEq, reduceCtorEq, Int.reduceToNat, ↓reduceIte, curB]; try omega)
      · refine ⟨fun z hz => by have := h2 z hz; omega, ?_⟩
        refine fin_c rfl (by first | rfl | (simp (maxSteps := 1000000) (disch := first | omega | (simp only [LN, numOk, verOk, rfP, rvP, rhP, frP, curB, bkd] <;> omega) | exact Ck.mk rfl) only [VC, T, Nat.reduceMul, Nat.reduceAdd, Nat.reduceSub, Nat.reduceLT, Nat.reduceEqDiff, Nat.reduceLeDiff, Nat.reduceBEq, reduceCtorEq, Int.reduceToNat, ↓reduceIte, rfP, rvP, rhP, frP, curB, bkd]; done)) rfl rfl ?_
        exact ⟨⟨_, rfl, by unfold SzIn; rw [strOf_size]; omega⟩, _, _, rfl, hc⟩
  · refine lp_go (fun x : List Int × Int × Int => ⟨23, [(0, .ref 0 0), (1, .int .i64 n), (5, .row 640 x.1.length), (6, .int .i64 x.1.length)], [(640, .row ⟨1, 0⟩ (x.1.map (.int .u8))), (0, curB code x.2.1 x.2.2)]⟩) (fun x => ((x.1.length : Int) ≤ max 0 n ∧ ∀ z ∈ x.1, 0 ≤ z ∧ z ≤ 255) ∧ CurOk code x.2.1 x.2.2) (fun x => (n : Int).toNat - x.1.length) ([], i, h) ?_ ⟨⟨by simp only [List.length_nil]; omega, fun _ h => absurd h (by simp)⟩, hc⟩ ?_
    · (simp (disch := first | omega | (simp only [LN, numOk, verOk, curB] <;> omega) | exact Ck.mk rfl) only [SB, EQ, Nat.reduceMul, Nat.reduceAdd, Nat.reduceSub, Nat.reduceLT, Nat.reduceEqDiff, Nat.reduceLeDiff, Nat.reduceBEq, reduceCtorEq, Int.reduceToNat, ↓reduceIte, curB]; try omega)
    · rintro ⟨bs, i, h⟩ ⟨⟨h1, h2⟩, hc⟩ N hN
      simp only at h1 h2 hc
      (try simp (maxSteps := 1000000) (disch := first | omega | (simp only [LN, numOk, verOk, rfP, rvP, rhP, frP, curB, bkd] <;> omega) | exact Ck.mk rfl) only [VC, T, Nat.reduceMul, Nat.reduceAdd, Nat.reduceSub, Nat.reduceLT, Nat.reduceEqDiff, Nat.reduceLeDiff, Nat.reduceBEq, reduceCtorEq, Int.reduceToNat, ↓reduceIte, rfP, rvP, rhP, frP, curB, bkd])
      repeat' (first
        | (refine br_go (fun e f => ?_) (fun e f => ?_) <;> (try simp only [BB] at f) <;> (try simp only [numOk, verOk] at f) <;> (try simp (maxSteps := 1000000) (disch := first | omega | (simp only [LN, numOk, verOk, rfP, rvP, rhP, frP, curB, bkd] <;> omega) | exact Ck.mk rfl) only [e, VC, T, Nat.reduceMul, Nat.reduceAdd, Nat.reduceSub, Nat.reduceLT, Nat.reduceEqDiff, Nat.reduceLeDiff, Nat.reduceBEq, reduceCtorEq, Int.reduceToNat, ↓reduceIte, rfP, rvP, rhP, frP, curB, bkd]) <;> (try clear e))
        | (refine pick_go (fun e f => ?_) (fun e f => ?_) <;> (try simp only [BB] at f) <;> (try simp only [numOk, verOk] at f) <;> (try simp (maxSteps := 1000000) (disch := first | omega | (simp only [LN, numOk, verOk, rfP, rvP, rhP, frP, curB, bkd] <;> omega) | exact Ck.mk rfl) only [e, VC, T, Nat.reduceMul, Nat.reduceAdd, Nat.reduceSub, Nat.reduceLT, Nat.reduceEqDiff, Nat.reduceLeDiff, Nat.reduceBEq, reduceCtorEq, Int.reduceToNat, ↓reduceIte, rfP, rvP, rhP, frP, curB, bkd]) <;> (try clear e))
        | ((first | (refine call_h [0] [] (l01Byte code hb _ _ (by assumption)) (by decide) rfl rfl ?_; rintro _ _ ⟨⟨x, rfl, hx1, hx2⟩, i', h', rfl, hc'⟩)); (try simp (maxSteps := 1000000) (disch := first | omega | (simp only [LN, numOk, verOk, rfP, rvP, rhP, frP, curB, bkd] <;> omega) | exact Ck.mk rfl) only [VC, T, Nat.reduceMul, Nat.reduceAdd, Nat.reduceSub, Nat.reduceLT, Nat.reduceEqDiff, Nat.reduceLeDiff, Nat.reduceBEq, reduceCtorEq, Int.reduceToNat, ↓reduceIte, rfP, rvP, rhP, frP, curB, bkd])))
      · have hx := hx2 (by decide)
        refine hN (bs ++ [x % 256], i', h') _ ⟨⟨by simp only [List.length_append, List.length_singleton]; omega, fun z hz => ?_⟩, hc'⟩ (by simp only [List.length_append, List.length_singleton]; omega) ?_
        · rcases List.mem_append.1 hz with hz | hz
          · exact h2 z hz
          · rw [List.mem_singleton.1 hz]; omega
        · (simp (disch := first | omega | (simp only [LN, numOk, verOk, curB] <;> omega) | exact Ck.mk rfl) only [SB, EQ, Nat.reduceMul, Nat.reduceAdd, Nat.reduceSub, Nat.reduceLT, Nat.reduceEqDiff, Nat.reduceLeDiff, Nat.reduceBEq, reduceCtorEq, Int.reduceToNat, ↓reduceIte, curB]; try omega)
      · refine ⟨fun z hz => by have := h2 z hz; omega, ?_⟩
        refine fin_c rfl (by first | rfl | (simp (maxSteps := 1000000) (disch := first | omega | (simp only [LN, numOk, verOk, rfP, rvP, rhP, frP, curB, bkd] <;> omega) | exact Ck.mk rfl) only [VC, T, Nat.reduceMul, Nat.reduceAdd, Nat.reduceSub, Nat.reduceLT, Nat.reduceEqDiff, Nat.reduceLeDiff, Nat.reduceBEq, reduceCtorEq, Int.reduceToNat, ↓reduceIte, rfP, rvP, rhP, frP, curB, bkd]; done)) rfl rfl ?_
        exact ⟨⟨_, rfl, by unfold SzIn; rw [strOf_size]; omega⟩, _, _, rfl, hc⟩
theorem l01Long (n x : Int) (hn : 0 ≤ n ∧ n ≤ 1000000) (hx : 0 ≤ x ∧ x ≤ 255) : FnV Try.prog 84 [.int .i64 n, .int .u8 x] (isStr' (SzIn n)) := by
  refine fn_v tok (n := 20) (rs := [.tmp 4]) Try.func84 (by decide) rfl rfl rfl rfl ?_
  (try simp (maxSteps := 1000000) (disch := first | omega | (simp only [LN, numOk, verOk, rfP, rvP, rhP, frP, curB, bkd] <;> omega) | exact Ck.mk rfl) only [VC, T, Nat.reduceMul, Nat.reduceAdd, Nat.reduceSub, Nat.reduceLT, Nat.reduceEqDiff, Nat.reduceLeDiff, Nat.reduceBEq, reduceCtorEq, Int.reduceToNat, ↓reduceIte, rfP, rvP, rhP, frP, curB, bkd])
  repeat' (first
    | (refine br_go (fun e f => ?_) (fun e f => ?_) <;> (try simp only [BB] at f) <;> (try simp only [numOk, verOk] at f) <;> (try simp (maxSteps := 1000000) (disch := first | omega | (simp only [LN, numOk, verOk, rfP, rvP, rhP, frP, curB, bkd] <;> omega) | exact Ck.mk rfl) only [e, VC, T, Nat.reduceMul, Nat.reduceAdd, Nat.reduceSub, Nat.reduceLT, Nat.reduceEqDiff, Nat.reduceLeDiff, Nat.reduceBEq, reduceCtorEq, Int.reduceToNat, ↓reduceIte, rfP, rvP, rhP, frP, curB, bkd]) <;> (try clear e))
    | (refine pick_go (fun e f => ?_) (fun e f => ?_) <;> (try simp only [BB] at f) <;> (try simp only [numOk, verOk] at f) <;> (try simp (maxSteps := 1000000) (disch := first | omega | (simp only [LN, numOk, verOk, rfP, rvP, rhP, frP, curB, bkd] <;> omega) | exact Ck.mk rfl) only [e, VC, T, Nat.reduceMul, Nat.reduceAdd, Nat.reduceSub, Nat.reduceLT, Nat.reduceEqDiff, Nat.reduceLeDiff, Nat.reduceBEq, reduceCtorEq, Int.reduceToNat, ↓reduceIte, rfP, rvP, rhP, frP, curB, bkd]) <;> (try clear e)))
  refine lp_go (fun bs : List Int × Nat => ⟨20, [(0, .int .i64 n), (1, .int .u8 x), (5, .row 576 bs.1.length), (6, .int .i64 bs.2)], [(576, .row ⟨1, 0⟩ (bs.1.map (.int .u8)))]⟩) (fun bs => (bs.1.length : Int) = n ∧ (bs.2 : Int) ≤ n ∧ ∀ z ∈ bs.1, 0 ≤ z ∧ z ≤ 255) (fun bs => n.toNat - bs.2) (List.replicate n.toNat 0, 0) ?_ ⟨by simp only [List.length_replicate]; omega, by simp only; omega, fun z hz => by rw [List.eq_of_mem_replicate hz]; decide⟩ ?_
  · (simp (disch := first | omega | (simp only [LN, numOk, verOk] <;> omega) | exact Ck.mk rfl) only [SB, EQ, Nat.reduceMul, Nat.reduceAdd, Nat.reduceSub, Nat.reduceLT, Nat.reduceEqDiff, Nat.reduceLeDiff, Nat.reduceBEq, reduceCtorEq, Int.reduceToNat, ↓reduceIte]; try omega)
    try simp
  · rintro ⟨bs, i⟩ ⟨h1, h2, h3⟩ N hN
    simp only at h1 h2 h3
    (try simp (maxSteps := 1000000) (disch := first | omega | (simp only [LN, numOk, verOk, rfP, rvP, rhP, frP, curB, bkd] <;> omega) | exact Ck.mk rfl) only [VC, T, Nat.reduceMul, Nat.reduceAdd, Nat.reduceSub, Nat.reduceLT, Nat.reduceEqDiff, Nat.reduceLeDiff, Nat.reduceBEq, reduceCtorEq, Int.reduceToNat, ↓reduceIte, rfP, rvP, rhP, frP, curB, bkd])
    repeat' (first
      | (refine br_go (fun e f => ?_) (fun e f => ?_) <;> (try simp only [BB] at f) <;> (try simp only [numOk, verOk] at f) <;> (try simp (maxSteps := 1000000) (disch := first | omega | (simp only [LN, numOk, verOk, rfP, rvP, rhP, frP, curB, bkd] <;> omega) | exact Ck.mk rfl) only [e, VC, T, Nat.reduceMul, Nat.reduceAdd, Nat.reduceSub, Nat.reduceLT, Nat.reduceEqDiff, Nat.reduceLeDiff, Nat.reduceBEq, reduceCtorEq, Int.reduceToNat, ↓reduceIte, rfP, rvP, rhP, frP, curB, bkd]) <;> (try clear e))
      | (refine pick_go (fun e f => ?_) (fun e f => ?_) <;> (try simp only [BB] at f) <;> (try simp only [numOk, verOk] at f) <;> (try simp (maxSteps := 1000000) (disch := first | omega | (simp only [LN, numOk, verOk, rfP, rvP, rhP, frP, curB, bkd] <;> omega) | exact Ck.mk rfl) only [e, VC, T, Nat.reduceMul, Nat.reduceAdd, Nat.reduceSub, Nat.reduceLT, Nat.reduceEqDiff, Nat.reduceLeDiff, Nat.reduceBEq, reduceCtorEq, Int.reduceToNat, ↓reduceIte, rfP, rvP, rhP, frP, curB, bkd]) <;> (try clear e)))
    · refine hN (bs.set i x, i + 1) _ ⟨by simp only [List.length_set]; omega, by simp only; omega, fun z hz => ?_⟩ (by simp only; omega) ?_
      · rcases List.mem_or_eq_of_mem_set hz with hz | rfl
        · exact h3 z hz
        · exact hx
      · (simp (disch := first | omega | (simp only [LN, numOk, verOk] <;> omega) | exact Ck.mk rfl) only [SB, EQ, Nat.reduceMul, Nat.reduceAdd, Nat.reduceSub, Nat.reduceLT, Nat.reduceEqDiff, Nat.reduceLeDiff, Nat.reduceBEq, reduceCtorEq, Int.reduceToNat, ↓reduceIte]; try omega)
    · refine ⟨fun z hz => by have := h3 z hz; omega, ⟨_, rfl, by unfold SzIn; rw [strOf_size]; omega⟩⟩
def hdP (x : Int × Int × Int × Int) : PV := .agg [.int .i64 x.1, .int .i64 x.2.1, .int .i64 x.2.2.1, .int .i64 x.2.2.2]
def isHd (A : Int × Int × Int × Int → Prop) (r : PV) : Prop := ∃ v s b l, r = .agg [.int .i64 v, .int .i64 s, .int .i64 b, .int .i64 l] ∧ A (v, s, b, l)
def Hd8 (x : Int × Int × Int × Int) : Prop := (1 ≤ x.1 ∧ x.1 ≤ 2) ∧ (1 ≤ x.2.1 ∧ x.2.1 ≤ 4) ∧ (0 ≤ x.2.2.1 ∧ x.2.2.1 ≤ 8) ∧ (0 ≤ x.2.2.2 ∧ x.2.2.2 ≤ 999999)
def HdA (x : Int × Int × Int × Int) : Prop := i64 x.1 ∧ i64 x.2.1 ∧ i64 x.2.2.1 ∧ i64 x.2.2.2
theorem l08Head (code : List Int) (hb : Bytes code) (i h : Int) (hc : CurOk code i h) : FnE Try.prog 98 [.ref 0 0] [(0, curB code i h)] (CQ code (isHd Hd8)) := by
  refine fn_e tok (n := 14) (rs := [.cell 2 25]) Try.func98 (by decide) rfl rfl rfl rfl (low_of rfl) ?_
  (try simp (maxSteps := 1000000) (disch := first | omega | (simp only [LN, numOk, verOk, rfP, rvP, rhP, frP, curB, bkd] <;> omega) | exact Ck.mk rfl) only [VC, T, Nat.reduceMul, Nat.reduceAdd, Nat.reduceSub, Nat.reduceLT, Nat.reduceEqDiff, Nat.reduceLeDiff, Nat.reduceBEq, reduceCtorEq, Int.reduceToNat, ↓reduceIte, rfP, rvP, rhP, frP, curB, bkd])
  repeat' (first
    | (refine br_go (fun e f => ?_) (fun e f => ?_) <;> (try simp only [BB] at f) <;> (try simp only [numOk, verOk] at f) <;> (try simp (maxSteps := 1000000) (disch := first | omega | (simp only [LN, numOk, verOk, rfP, rvP, rhP, frP, curB, bkd] <;> omega) | exact Ck.mk rfl) only [e, VC, T, Nat.reduceMul, Nat.reduceAdd, Nat.reduceSub, Nat.reduceLT, Nat.reduceEqDiff, Nat.reduceLeDiff, Nat.reduceBEq, reduceCtorEq, Int.reduceToNat, ↓reduceIte, rfP, rvP, rhP, frP, curB, bkd]) <;> (try clear e))
    | (refine pick_go (fun e f => ?_) (fun e f => ?_) <;> (try simp only [BB] at f) <;> (try simp only [numOk, verOk] at f) <;> (try simp (maxSteps := 1000000) (disch := first | omega | (simp only [LN, numOk, verOk, rfP, rvP, rhP, frP, curB, bkd] <;> omega) | exact Ck.mk rfl) only [e, VC, T, Nat.reduceMul, Nat.reduceAdd, Nat.reduceSub, Nat.reduceLT, Nat.reduceEqDiff, Nat.reduceLeDiff, Nat.reduceBEq, reduceCtorEq, Int.reduceToNat, ↓reduceIte, rfP, rvP, rhP, frP, curB, bkd]) <;> (try clear e))
    | ((first | (refine call_h [0] [] (l01Below code hb _ (by omega) _ _ (by assumption)) (by decide) rfl rfl ?_; rintro _ _ ⟨⟨x, rfl, hx1, hx2⟩, i', h', rfl, hc'⟩)); (try simp (maxSteps := 1000000) (disch := first | omega | (simp only [LN, numOk, verOk, rfP, rvP, rhP, frP, curB, bkd] <;> omega) | exact Ck.mk rfl) only [VC, T, Nat.reduceMul, Nat.reduceAdd, Nat.reduceSub, Nat.reduceLT, Nat.reduceEqDiff, Nat.reduceLeDiff, Nat.reduceBEq, reduceCtorEq, Int.reduceToNat, ↓reduceIte, rfP, rvP, rhP, frP, curB, bkd])))
  refine fin_c rfl (by first | rfl | (simp (maxSteps := 1000000) (disch := first | omega | (simp only [LN, numOk, verOk, rfP, rvP, rhP, frP, curB, bkd] <;> omega) | exact Ck.mk rfl) only [VC, T, Nat.reduceMul, Nat.reduceAdd, Nat.reduceSub, Nat.reduceLT, Nat.reduceEqDiff, Nat.reduceLeDiff, Nat.reduceBEq, reduceCtorEq, Int.reduceToNat, ↓reduceIte, rfP, rvP, rhP, frP, curB, bkd]; done)) rfl rfl ?_
  exact ⟨⟨_, _, _, _, rfl, by unfold Hd8; simp only; omega⟩, _, _, rfl, by assumption⟩
theorem l08Any (code : List Int) (hb : Bytes code) (i h : Int) (hc : CurOk code i h) : FnE Try.prog 81 [.ref 0 0] [(0, curB code i h)] (CQ code (isHd HdA)) := by
  refine fn_e tok (n := 33) (rs := [.cell 2 25]) Try.func81 (by decide) rfl rfl rfl rfl (low_of rfl) ?_
  (try simp (maxSteps := 1000000) (disch := first | omega | (simp only [LN, numOk, verOk, rfP, rvP, rhP, frP, curB, bkd] <;> omega) | exact Ck.mk rfl) only [VC, T, Nat.reduceMul, Nat.reduceAdd, Nat.reduceSub, Nat.reduceLT, Nat.reduceEqDiff, Nat.reduceLeDiff, Nat.reduceBEq, reduceCtorEq, Int.reduceToNat, ↓reduceIte, rfP, rvP, rhP, frP, curB, bkd])
  repeat' (first
    | (refine br_go (fun e f => ?_) (fun e f => ?_) <;> (try simp only [BB] at f) <;> (try simp only [numOk, verOk] at f) <;> (try simp (maxSteps := 1000000) (disch := first | omega | (simp only [LN, numOk, verOk, rfP, rvP, rhP, frP, curB, bkd] <;> omega) | exact Ck.mk rfl) only [e, VC, T, Nat.reduceMul, Nat.reduceAdd, Nat.reduceSub, Nat.reduceLT, Nat.reduceEqDiff, Nat.reduceLeDiff, Nat.reduceBEq, reduceCtorEq, Int.reduceToNat, ↓reduceIte, rfP, rvP, rhP, frP, curB, bkd]) <;> (try clear e))
    | (refine pick_go (fun e f => ?_) (fun e f => ?_) <;> (try simp only [BB] at f) <;> (try simp only [numOk, verOk] at f) <;> (try simp (maxSteps := 1000000) (disch := first | omega | (simp only [LN, numOk, verOk, rfP, rvP, rhP, frP, curB, bkd] <;> omega) | exact Ck.mk rfl) only [e, VC, T, Nat.reduceMul, Nat.reduceAdd, Nat.reduceSub, Nat.reduceLT, Nat.reduceEqDiff, Nat.reduceLeDiff, Nat.reduceBEq, reduceCtorEq, Int.reduceToNat, ↓reduceIte, rfP, rvP, rhP, frP, curB, bkd]) <;> (try clear e))
    | ((first | (refine call_h [0] [] (l08Head code hb _ _ (by assumption)) (by decide) rfl rfl ?_; rintro _ _ ⟨⟨v, s, b, l, rfl, hx⟩, i', h', rfl, hc'⟩) | (refine call_h [0] [] (l01Below code hb _ (by omega) _ _ (by assumption)) (by decide) rfl rfl ?_; rintro _ _ ⟨⟨x, rfl, hx1, hx2⟩, i', h', rfl, hc'⟩) | (refine call_hd [0] [768] (l01PickInt code hb [0, 3, 1, -1] (by simp) (by simp) _ _ (by assumption)) (by decide) ?_ rfl ?_; (focus (first | rfl | (simp (maxSteps := 1000000) (disch := first | omega | (simp only [LN, numOk, verOk, rfP, rvP, rhP, frP, curB, bkd] <;> omega) | exact Ck.mk rfl) only [VC, T, Nat.reduceMul, Nat.reduceAdd, Nat.reduceSub, Nat.reduceLT, Nat.reduceEqDiff, Nat.reduceLeDiff, Nat.reduceBEq, reduceCtorEq, Int.reduceToNat, ↓reduceIte, rfP, rvP, rhP, frP, curB, bkd]; done))); rintro _ _ ⟨⟨y, rfl, hy⟩, i', h', rfl, hc'⟩) | (refine call_hd [0] [1152] (l01PickInt code hb [0, 20, 21, -1] (by simp) (by simp) _ _ (by assumption)) (by decide) ?_ rfl ?_; (focus (first | rfl | (simp (maxSteps := 1000000) (disch := first | omega | (simp only [LN, numOk, verOk, rfP, rvP, rhP, frP, curB, bkd] <;> omega) | exact Ck.mk rfl) only [VC, T, Nat.reduceMul, Nat.reduceAdd, Nat.reduceSub, Nat.reduceLT, Nat.reduceEqDiff, Nat.reduceLeDiff, Nat.reduceBEq, reduceCtorEq, Int.reduceToNat, ↓reduceIte, rfP, rvP, rhP, frP, curB, bkd]; done))); rintro _ _ ⟨⟨y, rfl, hy⟩, i', h', rfl, hc'⟩) | (refine call_hd [0] [1536] (l01PickInt code hb [-1, 1000000000, 1000000001] (by simp) (by simp) _ _ (by assumption)) (by decide) ?_ rfl ?_; (focus (first | rfl | (simp (maxSteps := 1000000) (disch := first | omega | (simp only [LN, numOk, verOk, rfP, rvP, rhP, frP, curB, bkd] <;> omega) | exact Ck.mk rfl) only [VC, T, Nat.reduceMul, Nat.reduceAdd, Nat.reduceSub, Nat.reduceLT, Nat.reduceEqDiff, Nat.reduceLeDiff, Nat.reduceBEq, reduceCtorEq, Int.reduceToNat, ↓reduceIte, rfP, rvP, rhP, frP, curB, bkd]; done))); rintro _ _ ⟨⟨y, rfl, hy⟩, i', h', rfl, hc'⟩) | (refine call_hd [0] [1920] (l01PickInt code hb [-1, 4294967295, 4294967296] (by simp) (by simp) _ _ (by assumption)) (by decide) ?_ rfl ?_; (focus (first | rfl | (simp (maxSteps := 1000000) (disch := first | omega | (simp only [LN, numOk, verOk, rfP, rvP, rhP, frP, curB, bkd] <;> omega) | exact Ck.mk rfl) only [VC, T, Nat.reduceMul, Nat.reduceAdd, Nat.reduceSub, Nat.reduceLT, Nat.reduceEqDiff, Nat.reduceLeDiff, Nat.reduceBEq, reduceCtorEq, Int.reduceToNat, ↓reduceIte, rfP, rvP, rhP, frP, curB, bkd]; done))); rintro _ _ ⟨⟨y, rfl, hy⟩, i', h', rfl, hc'⟩)); (try simp (maxSteps := 1000000) (disch := first | omega | (simp only [LN, numOk, verOk, rfP, rvP, rhP, frP, curB, bkd] <;> omega) | exact Ck.mk rfl) only [VC, T, Nat.reduceMul, Nat.reduceAdd, Nat.reduceSub, Nat.reduceLT, Nat.reduceEqDiff, Nat.reduceLeDiff, Nat.reduceBEq, reduceCtorEq, Int.reduceToNat, ↓reduceIte, rfP, rvP, rhP, frP, curB, bkd])))
  all_goals
    refine fin_c rfl (by first | rfl | (simp (maxSteps := 1000000) (disch := first | omega | (simp only [LN, numOk, verOk, rfP, rvP, rhP, frP, curB, bkd] <;> omega) | exact Ck.mk rfl) only [VC, T, Nat.reduceMul, Nat.reduceAdd, Nat.reduceSub, Nat.reduceLT, Nat.reduceEqDiff, Nat.reduceLeDiff, Nat.reduceBEq, reduceCtorEq, Int.reduceToNat, ↓reduceIte, rfP, rvP, rhP, frP, curB, bkd]; done)) rfl rfl ?_
    unfold Hd8 at hx
    simp only at hx
    refine ⟨⟨_, _, _, _, rfl, ?_⟩, _, _, rfl, by assumption⟩
    try simp only [Mem, List.mem_cons, List.not_mem_nil, or_false] at hy
    unfold HdA i64
    simp only
    omega
def Rec (x : ByteArray) : Prop := x.size ≤ 60
theorem l08Record (code : List Int) (hb : Bytes code) (i h : Int) (hc : CurOk code i h) : FnE Try.prog 110 [.ref 0 0] [(0, curB code i h)] (CQ code (isStr' Rec)) := by
  refine fn_e tok (n := 18) (rs := [.tmp 2]) Try.func110 (by decide) rfl rfl rfl rfl (low_of rfl) ?_
  (try simp (maxSteps := 1000000) (disch := first | omega | (simp only [LN, numOk, verOk, rfP, rvP, rhP, frP, curB, bkd] <;> omega) | exact Ck.mk rfl) only [VC, T, Nat.reduceMul, Nat.reduceAdd, Nat.reduceSub, Nat.reduceLT, Nat.reduceEqDiff, Nat.reduceLeDiff, Nat.reduceBEq, reduceCtorEq, Int.reduceToNat, ↓reduceIte, rfP, rvP, rhP, frP, curB, bkd])
  repeat' (first
    | (refine br_go (fun e f => ?_) (fun e f => ?_) <;> (try simp only [BB] at f) <;> (try simp only [numOk, verOk] at f) <;> (try simp (maxSteps := 1000000) (disch := first | omega | (simp only [LN, numOk, verOk, rfP, rvP, rhP, frP, curB, bkd] <;> omega) | exact Ck.mk rfl) only [e, VC, T, Nat.reduceMul, Nat.reduceAdd, Nat.reduceSub, Nat.reduceLT, Nat.reduceEqDiff, Nat.reduceLeDiff, Nat.reduceBEq, reduceCtorEq, Int.reduceToNat, ↓reduceIte, rfP, rvP, rhP, frP, curB, bkd]) <;> (try clear e))
    | (refine pick_go (fun e f => ?_) (fun e f => ?_) <;> (try simp only [BB] at f) <;> (try simp only [numOk, verOk] at f) <;> (try simp (maxSteps := 1000000) (disch := first | omega | (simp only [LN, numOk, verOk, rfP, rvP, rhP, frP, curB, bkd] <;> omega) | exact Ck.mk rfl) only [e, VC, T, Nat.reduceMul, Nat.reduceAdd, Nat.reduceSub, Nat.reduceLT, Nat.reduceEqDiff, Nat.reduceLeDiff, Nat.reduceBEq, reduceCtorEq, Int.reduceToNat, ↓reduceIte, rfP, rvP, rhP, frP, curB, bkd]) <;> (try clear e))
    | ((first | (refine call_h [0] [] (l01Below code hb _ (by omega) _ _ (by assumption)) (by decide) rfl rfl ?_; rintro _ _ ⟨⟨x, rfl, hx1, hx2⟩, i', h', rfl, hc'⟩) | (refine call_h [0] [] (l01Text code hb _ (by omega) _ _ (by assumption)) (by decide) rfl rfl ?_; rintro _ _ ⟨⟨t, rfl, ht⟩, i', h', rfl, hc'⟩)); (try simp (maxSteps := 1000000) (disch := first | omega | (simp only [LN, numOk, verOk, rfP, rvP, rhP, frP, curB, bkd] <;> omega) | exact Ck.mk rfl) only [VC, T, Nat.reduceMul, Nat.reduceAdd, Nat.reduceSub, Nat.reduceLT, Nat.reduceEqDiff, Nat.reduceLeDiff, Nat.reduceBEq, reduceCtorEq, Int.reduceToNat, ↓reduceIte, rfP, rvP, rhP, frP, curB, bkd])))
  all_goals
    refine fin_c rfl (by first | rfl | (simp (maxSteps := 1000000) (disch := first | omega | (simp only [LN, numOk, verOk, rfP, rvP, rhP, frP, curB, bkd] <;> omega) | exact Ck.mk rfl) only [VC, T, Nat.reduceMul, Nat.reduceAdd, Nat.reduceSub, Nat.reduceLT, Nat.reduceEqDiff, Nat.reduceLeDiff, Nat.reduceBEq, reduceCtorEq, Int.reduceToNat, ↓reduceIte, rfP, rvP, rhP, frP, curB, bkd]; done)) rfl rfl ?_
    refine ⟨⟨_, rfl, ?_⟩, _, _, rfl, by assumption⟩
    first
      | exact Nat.zero_le _
      | (unfold SzIn at ht; unfold Rec; omega)
def isTexts (A : List ByteArray → Prop) (r : PV) : Prop := ∃ x, r = .far (x.map .str) ∧ A x
def Recs (n : Int) (x : List ByteArray) : Prop := (x.length : Int) ≤ n ∧ ∀ r ∈ x, r.size ≤ 60
theorem l08Records (code : List Int) (hb : Bytes code) (n : Int) (hn : 0 ≤ n ∧ n ≤ 1000) (i h : Int) (hc : CurOk code i h) : FnE Try.prog 82 [.ref 0 0, .int .i64 n] [(0, curB code i h)] (CQ code (isTexts (Recs n))) := by
  refine fn_e tok (n := 22) (rs := [.tmp 4]) Try.func82 (by decide) rfl rfl rfl rfl (low_of rfl) ?_
  (try simp (maxSteps := 1000000) (disch := first | omega | (simp only [LN, numOk, verOk, rfP, rvP, rhP, frP, curB, bkd] <;> omega) | exact Ck.mk rfl) only [VC, T, Nat.reduceMul, Nat.reduceAdd, Nat.reduceSub, Nat.reduceLT, Nat.reduceEqDiff, Nat.reduceLeDiff, Nat.reduceBEq, reduceCtorEq, Int.reduceToNat, ↓reduceIte, rfP, rvP, rhP, frP, curB, bkd])
  repeat' (first
    | (refine br_go (fun e f => ?_) (fun e f => ?_) <;> (try simp only [BB] at f) <;> (try simp only [numOk, verOk] at f) <;> (try simp (maxSteps := 1000000) (disch := first | omega | (simp only [LN, numOk, verOk, rfP, rvP, rhP, frP, curB, bkd] <;> omega) | exact Ck.mk rfl) only [e, VC, T, Nat.reduceMul, Nat.reduceAdd, Nat.reduceSub, Nat.reduceLT, Nat.reduceEqDiff, Nat.reduceLeDiff, Nat.reduceBEq, reduceCtorEq, Int.reduceToNat, ↓reduceIte, rfP, rvP, rhP, frP, curB, bkd]) <;> (try clear e))
    | (refine pick_go (fun e f => ?_) (fun e f => ?_) <;> (try simp only [BB] at f) <;> (try simp only [numOk, verOk] at f) <;> (try simp (maxSteps := 1000000) (disch := first | omega | (simp only [LN, numOk, verOk, rfP, rvP, rhP, frP, curB, bkd] <;> omega) | exact Ck.mk rfl) only [e, VC, T, Nat.reduceMul, Nat.reduceAdd, Nat.reduceSub, Nat.reduceLT, Nat.reduceEqDiff, Nat.reduceLeDiff, Nat.reduceBEq, reduceCtorEq, Int.reduceToNat, ↓reduceIte, rfP, rvP, rhP, frP, curB, bkd]) <;> (try clear e)))
  refine lp_go (fun x : List ByteArray × Int × Int => ⟨22, [(0, .ref 0 0), (1, .int .i64 n), (5, .row 512 x.1.length), (6, .int .i64 x.1.length)], [(512, .row ⟨1, 0⟩ (x.1.map .str)), (0, curB code x.2.1 x.2.2)]⟩) (fun x => Recs n x.1 ∧ CurOk code x.2.1 x.2.2) (fun x => n.toNat - x.1.length) ([], i, h) ?_ ⟨⟨by simp only [List.length_nil]; omega, fun _ h => absurd h (by simp)⟩, hc⟩ ?_
  · (simp (disch := first | omega | (simp only [LN, numOk, verOk, curB] <;> omega) | exact Ck.mk rfl) only [SB, EQ, Nat.reduceMul, Nat.reduceAdd, Nat.reduceSub, Nat.reduceLT, Nat.reduceEqDiff, Nat.reduceLeDiff, Nat.reduceBEq, reduceCtorEq, Int.reduceToNat, ↓reduceIte, curB]; try omega)
  · rintro ⟨rs, i, h⟩ ⟨⟨h1, h2⟩, hc⟩ N hN
    simp only at h1 h2 hc
    (try simp (maxSteps := 1000000) (disch := first | omega | (simp only [LN, numOk, verOk, rfP, rvP, rhP, frP, curB, bkd] <;> omega) | exact Ck.mk rfl) only [VC, T, Nat.reduceMul, Nat.reduceAdd, Nat.reduceSub, Nat.reduceLT, Nat.reduceEqDiff, Nat.reduceLeDiff, Nat.reduceBEq, reduceCtorEq, Int.reduceToNat, ↓reduceIte, rfP, rvP, rhP, frP, curB, bkd])
    repeat' (first
      | (refine br_go (fun e f => ?_) (fun e f => ?_) <;> (try simp only [BB] at f) <;> (try simp only [numOk, verOk] at f) <;> (try simp (maxSteps := 1000000) (disch := first | omega | (simp only [LN, numOk, verOk, rfP, rvP, rhP, frP, curB, bkd] <;> omega) | exact Ck.mk rfl) only [e, VC, T, Nat.reduceMul, Nat.reduceAdd, Nat.reduceSub, Nat.reduceLT, Nat.reduceEqDiff, Nat.reduceLeDiff, Nat.reduceBEq, reduceCtorEq, Int.reduceToNat, ↓reduceIte, rfP, rvP, rhP, frP, curB, bkd]) <;> (try clear e))
      | (refine pick_go (fun e f => ?_) (fun e f => ?_) <;> (try simp only [BB] at f) <;> (try simp only [numOk, verOk] at f) <;> (try simp (maxSteps := 1000000) (disch := first | omega | (simp only [LN, numOk, verOk, rfP, rvP, rhP, frP, curB, bkd] <;> omega) | exact Ck.mk rfl) only [e, VC, T, Nat.reduceMul, Nat.reduceAdd, Nat.reduceSub, Nat.reduceLT, Nat.reduceEqDiff, Nat.reduceLeDiff, Nat.reduceBEq, reduceCtorEq, Int.reduceToNat, ↓reduceIte, rfP, rvP, rhP, frP, curB, bkd]) <;> (try clear e))
      | ((first | (refine call_h [0] [] (l01Below code hb _ (by omega) _ _ (by assumption)) (by decide) rfl rfl ?_; rintro _ _ ⟨⟨x, rfl, hx1, hx2⟩, i', h', rfl, hc'⟩) | (refine call_h [0] [] (l08Record code hb _ _ (by assumption)) (by decide) rfl rfl ?_; rintro _ _ ⟨⟨t, rfl, ht⟩, i', h', rfl, hc'⟩)); (try simp (maxSteps := 1000000) (disch := first | omega | (simp only [LN, numOk, verOk, rfP, rvP, rhP, frP, curB, bkd] <;> omega) | exact Ck.mk rfl) only [VC, T, Nat.reduceMul, Nat.reduceAdd, Nat.reduceSub, Nat.reduceLT, Nat.reduceEqDiff, Nat.reduceLeDiff, Nat.reduceBEq, reduceCtorEq, Int.reduceToNat, ↓reduceIte, rfP, rvP, rhP, frP, curB, bkd])))
    · refine hN (rs ++ [t], _, _) _ ⟨⟨by simp only [List.length_append, List.length_singleton]; omega, fun z hz => ?_⟩, by assumption⟩ (by simp only [List.length_append, List.length_singleton]; omega) ?_
      · rcases List.mem_append.1 hz with hz | hz
        · exact h2 z hz
        · rw [List.mem_singleton.1 hz]; exact ht
      · (simp (disch := first | omega | (simp only [LN, numOk, verOk, curB] <;> omega) | exact Ck.mk rfl) only [SB, EQ, Nat.reduceMul, Nat.reduceAdd, Nat.reduceSub, Nat.reduceLT, Nat.reduceEqDiff, Nat.reduceLeDiff, Nat.reduceBEq, reduceCtorEq, Int.reduceToNat, ↓reduceIte, curB]; try omega)
    · refine fin_c (y := .far (rs.map .str)) rfl (by first | rfl | (simp (maxSteps := 1000000) (disch := first | omega | (simp only [LN, numOk, verOk, rfP, rvP, rhP, frP, curB, bkd] <;> omega) | exact Ck.mk rfl) only [VC, T, Nat.reduceMul, Nat.reduceAdd, Nat.reduceSub, Nat.reduceLT, Nat.reduceEqDiff, Nat.reduceLeDiff, Nat.reduceBEq, reduceCtorEq, Int.reduceToNat, ↓reduceIte, rfP, rvP, rhP, frP, curB, bkd]; done)) rfl rfl ?_
      exact ⟨⟨_, rfl, h1, h2⟩, _, _, rfl, by assumption⟩
theorem bits_u8 (op : BinOp) (a b : Int) : isByte (.int .u8 (Go.bits op .u8 a b)) := by
  unfold Go.bits
  show 0 ≤ IntKind.u8.wrap _ ∧ IntKind.u8.wrap _ < 256
  rw [IntKind.wrap_u8]
  omega
theorem l08Bent (code : List Int) (hb : Bytes code) (t : ByteArray) (ht : t.size ≤ 1000000) (i h : Int) (hc : CurOk code i h) : FnE Try.prog 99 [.ref 0 0, .str t] [(0, curB code i h)] (CQ code (isStr' (SzIn (t.size + 4)))) := by
  refine fn_e tok (n := 62) (rs := [.tmp 4]) Try.func99 (by decide) rfl rfl rfl rfl (low_of rfl) ?_
  (try simp (maxSteps := 1000000) (disch := first | omega | (simp only [LN, numOk, verOk, rfP, rvP, rhP, frP, curB, bkd, ByteArray.size_extract, ByteArray.size_append] <;> omega) | exact Ck.mk rfl) only [VC, T, Nat.reduceMul, Nat.reduceAdd, Nat.reduceSub, Nat.reduceLT, Nat.reduceEqDiff, Nat.reduceLeDiff, Nat.reduceBEq, reduceCtorEq, Int.reduceToNat, ↓reduceIte, rfP, rvP, rhP, frP, curB, bkd, ByteArray.size_extract, ByteArray.size_append])
  repeat' (first
    | (refine br_go (fun e f => ?_) (fun e f => ?_) <;> (try simp only [BB] at f) <;> (try simp only [numOk, verOk] at f) <;> (try simp (maxSteps := 1000000) (disch := first | omega | (simp only [LN, numOk, verOk, rfP, rvP, rhP, frP, curB, bkd, ByteArray.size_extract, ByteArray.size_append] <;> omega) | exact Ck.mk rfl) only [e, VC, T, Nat.reduceMul, Nat.reduceAdd, Nat.reduceSub, Nat.reduceLT, Nat.reduceEqDiff, Nat.reduceLeDiff, Nat.reduceBEq, reduceCtorEq, Int.reduceToNat, ↓reduceIte, rfP, rvP, rhP, frP, curB, bkd, ByteArray.size_extract, ByteArray.size_append]) <;> (try clear e))
    | (refine pick_go (fun e f => ?_) (fun e f => ?_) <;> (try simp only [BB] at f) <;> (try simp only [numOk, verOk] at f) <;> (try simp (maxSteps := 1000000) (disch := first | omega | (simp only [LN, numOk, verOk, rfP, rvP, rhP, frP, curB, bkd, ByteArray.size_extract, ByteArray.size_append] <;> omega) | exact Ck.mk rfl) only [e, VC, T, Nat.reduceMul, Nat.reduceAdd, Nat.reduceSub, Nat.reduceLT, Nat.reduceEqDiff, Nat.reduceLeDiff, Nat.reduceBEq, reduceCtorEq, Int.reduceToNat, ↓reduceIte, rfP, rvP, rhP, frP, curB, bkd, ByteArray.size_extract, ByteArray.size_append]) <;> (try clear e))
    | ((first | refine dr_go mixed (id := 8) [([], [1], []), ([], [5], []), ([0, 1], [26, 27], []), ([], [1], []), ([], [5], []), ([4], [30], []), ([3, 4, 5], [29, 31], []), ([0, 1, 2, 3, 4, 5, 6], [28, 32], []), ([0, 1, 2, 3, 4, 5, 6, 7], [33], [])] rfl rfl rfl ?_ | refine dr_go mixed (id := 11) [([], [1], []), ([], [5], []), ([0, 1], [43, 44], [0]), ([], [1], []), ([], [5], []), ([3, 4], [46, 47], [0]), ([], [0], []), ([6], [49], []), ([6, 7], [50], []), ([6, 7, 8], [51], []), ([3, 4, 5, 6, 7, 8, 9], [48, 52], []), ([3, 4, 5, 6, 7, 8, 9, 10], [53], []), ([3, 4, 5, 6, 7, 8, 9, 10, 11], [54], []), ([0, 1, 2, 3, 4, 5, 6, 7, 8, 9, 10, 11, 12], [45, 55], []), ([], [1], []), ([], [5], []), ([15], [58], [0]), ([14, 15, 16], [57, 59], [0]), ([0, 1, 2, 3, 4, 5, 6, 7, 8, 9, 10, 11, 12, 13, 14, 15, 16, 17], [56, 60], []), ([0, 1, 2, 3, 4, 5, 6, 7, 8, 9, 10, 11, 12, 13, 14, 15, 16, 17, 18], [61], [])] rfl rfl rfl ?_ | (refine call_h [0] [] (l01Once code hb _ (by omega) _ _ (by assumption)) (by decide) rfl rfl ?_; rintro _ _ ⟨⟨x, rfl⟩, i', h', rfl, hc'⟩) | (refine call_h [0] [] (l01Below code hb _ (by omega) _ _ (by assumption)) (by decide) rfl rfl ?_; rintro _ _ ⟨⟨x, rfl, hx1, hx2⟩, i', h', rfl, hc'⟩) | (refine call_h [0] [] (l01Text code hb _ (by omega) _ _ (by assumption)) (by decide) rfl rfl ?_; rintro _ _ ⟨⟨u, rfl, hu⟩, i', h', rfl, hc'⟩)); (try simp (maxSteps := 1000000) (disch := first | omega | (simp only [LN, numOk, verOk, rfP, rvP, rhP, frP, curB, bkd, ByteArray.size_extract, ByteArray.size_append] <;> omega) | exact Ck.mk rfl) only [VC, T, Nat.reduceMul, Nat.reduceAdd, Nat.reduceSub, Nat.reduceLT, Nat.reduceEqDiff, Nat.reduceLeDiff, Nat.reduceBEq, reduceCtorEq, Int.reduceToNat, ↓reduceIte, rfP, rvP, rhP, frP, curB, bkd, ByteArray.size_extract, ByteArray.size_append])))
  · refine fin_c rfl (by first | rfl | (simp (maxSteps := 1000000) (disch := first | omega | (simp only [LN, numOk, verOk, rfP, rvP, rhP, frP, curB, bkd] <;> omega) | exact Ck.mk rfl) only [VC, T, Nat.reduceMul, Nat.reduceAdd, Nat.reduceSub, Nat.reduceLT, Nat.reduceEqDiff, Nat.reduceLeDiff, Nat.reduceBEq, reduceCtorEq, Int.reduceToNat, ↓reduceIte, rfP, rvP, rhP, frP, curB, bkd]; done)) rfl rfl ?_
    exact ⟨⟨_, rfl, by unfold SzIn; omega⟩, _, _, rfl, by assumption⟩
  · refine fin_c rfl (by first | rfl | (simp (maxSteps := 1000000) (disch := first | omega | (simp only [LN, numOk, verOk, rfP, rvP, rhP, frP, curB, bkd] <;> omega) | exact Ck.mk rfl) only [VC, T, Nat.reduceMul, Nat.reduceAdd, Nat.reduceSub, Nat.reduceLT, Nat.reduceEqDiff, Nat.reduceLeDiff, Nat.reduceBEq, reduceCtorEq, Int.reduceToNat, ↓reduceIte, rfP, rvP, rhP, frP, curB, bkd]; done)) rfl rfl ?_
    exact ⟨⟨_, rfl, by unfold SzIn; omega⟩, _, _, rfl, by assumption⟩
  · refine fin_c rfl (by first | rfl | (simp (maxSteps := 1000000) (disch := first | omega | (simp only [LN, numOk, verOk, rfP, rvP, rhP, frP, curB, bkd] <;> omega) | exact Ck.mk rfl) only [VC, T, Nat.reduceMul, Nat.reduceAdd, Nat.reduceSub, Nat.reduceLT, Nat.reduceEqDiff, Nat.reduceLeDiff, Nat.reduceBEq, reduceCtorEq, Int.reduceToNat, ↓reduceIte, rfP, rvP, rhP, frP, curB, bkd]; done)) rfl rfl ?_
    exact ⟨⟨_, rfl, by unfold SzIn; (try simp only [ByteArray.size_extract]); omega⟩, _, _, rfl, by assumption⟩
  · refine fin_c rfl (by first | rfl | (simp (maxSteps := 1000000) (disch := first | omega | (simp only [LN, numOk, verOk, rfP, rvP, rhP, frP, curB, bkd] <;> omega) | exact Ck.mk rfl) only [VC, T, Nat.reduceMul, Nat.reduceAdd, Nat.reduceSub, Nat.reduceLT, Nat.reduceEqDiff, Nat.reduceLeDiff, Nat.reduceBEq, reduceCtorEq, Int.reduceToNat, ↓reduceIte, rfP, rvP, rhP, frP, curB, bkd]; done)) rfl rfl ?_
    exact ⟨⟨_, rfl, by unfold SzIn; (try simp only [ByteArray.size_append, ByteArray.size_extract]); omega⟩, _, _, rfl, by assumption⟩
  · unfold SzIn at hu
    refine ⟨by omega, ?_⟩
    refine fin_c rfl (by first | rfl | (simp (maxSteps := 1000000) (disch := first | omega | (simp only [LN, numOk, verOk, rfP, rvP, rhP, frP, curB, bkd] <;> omega) | exact Ck.mk rfl) only [VC, T, Nat.reduceMul, Nat.reduceAdd, Nat.reduceSub, Nat.reduceLT, Nat.reduceEqDiff, Nat.reduceLeDiff, Nat.reduceBEq, reduceCtorEq, Int.reduceToNat, ↓reduceIte, rfP, rvP, rhP, frP, curB, bkd]; done)) rfl rfl ?_
    exact ⟨⟨_, rfl, by unfold SzIn; simp only [ByteArray.size_append]; omega⟩, _, _, rfl, by assumption⟩
  · have e1 : ∀ z : Int, (strP [.int .u8 z]).size = 1 := fun z => rfl
    refine ⟨fun z hz => ?_, by rw [e1]; omega, by rw [e1]; omega, ?_⟩
    · rw [List.mem_singleton.1 hz]
      exact bits_u8 _ _ _
    · refine fin_c rfl (by first | rfl | (simp (maxSteps := 1000000) (disch := first | omega | (simp only [LN, numOk, verOk, rfP, rvP, rhP, frP, curB, bkd] <;> omega) | exact Ck.mk rfl) only [VC, T, Nat.reduceMul, Nat.reduceAdd, Nat.reduceSub, Nat.reduceLT, Nat.reduceEqDiff, Nat.reduceLeDiff, Nat.reduceBEq, reduceCtorEq, Int.reduceToNat, ↓reduceIte, rfP, rvP, rhP, frP, curB, bkd]; done)) rfl rfl ?_
      exact ⟨⟨_, rfl, by unfold SzIn; simp only [ByteArray.size_append, ByteArray.size_extract, e1]; omega⟩, _, _, rfl, by assumption⟩
theorem l10Frames (v s b l : Int) (rs : List ByteArray) (hb : 0 ≤ b ∧ b ≤ 1000) (hr : Recs 1000 rs) : FnV Try.prog 100 [.agg [.int .i64 v, .int .i64 s, .int .i64 b, .int .i64 l], .far (rs.map .str)] (isStr' (SzIn (46 + 84 * rs.length))) := by
  obtain ⟨hr1, hr2⟩ := hr
  have ht := headT_le v s b l
  refine fn_v tok (n := 29) (rs := [.tmp 4]) Try.func100 (by decide) rfl rfl rfl rfl ?_
  (try simp (maxSteps := 1000000) (disch := first | omega | (simp only [LN, numOk, verOk, rfP, rvP, rhP, frP, curB, bkd] <;> omega) | exact Ck.mk rfl) only [VC, T, Nat.reduceMul, Nat.reduceAdd, Nat.reduceSub, Nat.reduceLT, Nat.reduceEqDiff, Nat.reduceLeDiff, Nat.reduceBEq, reduceCtorEq, Int.reduceToNat, ↓reduceIte, rfP, rvP, rhP, frP, curB, bkd])
  repeat' (first
    | (refine br_go (fun e f => ?_) (fun e f => ?_) <;> (try simp only [BB] at f) <;> (try simp only [numOk, verOk] at f) <;> (try simp (maxSteps := 1000000) (disch := first | omega | (simp only [LN, numOk, verOk, rfP, rvP, rhP, frP, curB, bkd] <;> omega) | exact Ck.mk rfl) only [e, VC, T, Nat.reduceMul, Nat.reduceAdd, Nat.reduceSub, Nat.reduceLT, Nat.reduceEqDiff, Nat.reduceLeDiff, Nat.reduceBEq, reduceCtorEq, Int.reduceToNat, ↓reduceIte, rfP, rvP, rhP, frP, curB, bkd]) <;> (try clear e))
    | (refine pick_go (fun e f => ?_) (fun e f => ?_) <;> (try simp only [BB] at f) <;> (try simp only [numOk, verOk] at f) <;> (try simp (maxSteps := 1000000) (disch := first | omega | (simp only [LN, numOk, verOk, rfP, rvP, rhP, frP, curB, bkd] <;> omega) | exact Ck.mk rfl) only [e, VC, T, Nat.reduceMul, Nat.reduceAdd, Nat.reduceSub, Nat.reduceLT, Nat.reduceEqDiff, Nat.reduceLeDiff, Nat.reduceBEq, reduceCtorEq, Int.reduceToNat, ↓reduceIte, rfP, rvP, rhP, frP, curB, bkd]) <;> (try clear e))
    | ((first | refine call_x (spec_HeadText _ _ _ _) rfl ⟨rfl⟩ ?_); (try simp (maxSteps := 1000000) (disch := first | omega | (simp only [LN, numOk, verOk, rfP, rvP, rhP, frP, curB, bkd] <;> omega) | exact Ck.mk rfl) only [VC, T, Nat.reduceMul, Nat.reduceAdd, Nat.reduceSub, Nat.reduceLT, Nat.reduceEqDiff, Nat.reduceLeDiff, Nat.reduceBEq, reduceCtorEq, Int.reduceToNat, ↓reduceIte, rfP, rvP, rhP, frP, curB, bkd])))
  refine lp_go (fun x : Nat × ByteArray => ⟨29, [(1, .far (rs.map .str)), (2, .ref 192 0), (5, .str x.2), (6, .int .i64 x.1)], [(192, .box 25 [.int .i64 v, .int .i64 s, .int .i64 b, .int .i64 l])]⟩) (fun x => x.1 ≤ rs.length ∧ x.2.size ≤ 46 + 84 * x.1) (fun x => rs.length - x.1) (0, headT v s b l) ?_ ⟨Nat.zero_le _, ht⟩ ?_
  · (simp (disch := first | omega | (simp only [LN, numOk, verOk] <;> omega) | exact Ck.mk rfl) only [SB, EQ, Nat.reduceMul, Nat.reduceAdd, Nat.reduceSub, Nat.reduceLT, Nat.reduceEqDiff, Nat.reduceLeDiff, Nat.reduceBEq, reduceCtorEq, Int.reduceToNat, ↓reduceIte]; try omega)
  · rintro ⟨i, t⟩ ⟨h1, h2⟩ N hN
    simp only at h1 h2
    have hf := frameT_le v (b + i) (rs.getD i default)
    have hrs : i < rs.length → (rs.getD i default).size ≤ 60 := fun h => hr2 _ (getD_mem _ _ h)
    (try simp (maxSteps := 1000000) (disch := first | omega | (simp only [LN, numOk, verOk, rfP, rvP, rhP, frP, curB, bkd] <;> omega) | exact Ck.mk rfl) only [VC, T, Nat.reduceMul, Nat.reduceAdd, Nat.reduceSub, Nat.reduceLT, Nat.reduceEqDiff, Nat.reduceLeDiff, Nat.reduceBEq, reduceCtorEq, Int.reduceToNat, ↓reduceIte, rfP, rvP, rhP, frP, curB, bkd])
    repeat' (first
      | (refine br_go (fun e f => ?_) (fun e f => ?_) <;> (try simp only [BB] at f) <;> (try simp only [numOk, verOk] at f) <;> (try simp (maxSteps := 1000000) (disch := first | omega | (simp only [LN, numOk, verOk, rfP, rvP, rhP, frP, curB, bkd] <;> omega) | exact Ck.mk rfl) only [e, VC, T, Nat.reduceMul, Nat.reduceAdd, Nat.reduceSub, Nat.reduceLT, Nat.reduceEqDiff, Nat.reduceLeDiff, Nat.reduceBEq, reduceCtorEq, Int.reduceToNat, ↓reduceIte, rfP, rvP, rhP, frP, curB, bkd]) <;> (try clear e))
      | (refine pick_go (fun e f => ?_) (fun e f => ?_) <;> (try simp only [BB] at f) <;> (try simp only [numOk, verOk] at f) <;> (try simp (maxSteps := 1000000) (disch := first | omega | (simp only [LN, numOk, verOk, rfP, rvP, rhP, frP, curB, bkd] <;> omega) | exact Ck.mk rfl) only [e, VC, T, Nat.reduceMul, Nat.reduceAdd, Nat.reduceSub, Nat.reduceLT, Nat.reduceEqDiff, Nat.reduceLeDiff, Nat.reduceBEq, reduceCtorEq, Int.reduceToNat, ↓reduceIte, rfP, rvP, rhP, frP, curB, bkd]) <;> (try clear e))
      | ((first | refine dr_go mixed (id := 5) [([], [5], []), ([], [2], []), ([1], [16], []), ([], [2], []), ([3], [18], []), ([], [6], []), ([3, 4, 5], [19, 20], []), ([], [1], []), ([], [6], []), ([7, 8], [22, 23], []), ([7, 8, 9], [24], []), ([1, 2, 3, 4, 5, 6, 7, 8, 9, 10], [17, 21, 25], []), ([0, 1, 2, 3, 4, 5, 6, 7, 8, 9, 10, 11], [15, 26], []), ([0, 1, 2, 3, 4, 5, 6, 7, 8, 9, 10, 11, 12], [27], [])] rfl rfl rfl ?_ | refine call_x (spec_FrameText _ _ _ (by have := hrs (by omega); omega)) rfl ⟨rfl⟩ ?_); (try simp (maxSteps := 1000000) (disch := first | omega | (simp only [LN, numOk, verOk, rfP, rvP, rhP, frP, curB, bkd] <;> omega) | exact Ck.mk rfl) only [VC, T, Nat.reduceMul, Nat.reduceAdd, Nat.reduceSub, Nat.reduceLT, Nat.reduceEqDiff, Nat.reduceLeDiff, Nat.reduceBEq, reduceCtorEq, Int.reduceToNat, ↓reduceIte, rfP, rvP, rhP, frP, curB, bkd])))
    · refine hN (i + 1, t ++ frameT v (b + i) (rs.getD i default)) _ ⟨by simp only; omega, by simp only [ByteArray.size_append]; omega⟩ (by simp only; omega) ?_
      (simp (disch := first | omega | (simp only [LN, numOk, verOk] <;> omega) | exact Ck.mk rfl) only [SB, EQ, Nat.reduceMul, Nat.reduceAdd, Nat.reduceSub, Nat.reduceLT, Nat.reduceEqDiff, Nat.reduceLeDiff, Nat.reduceBEq, reduceCtorEq, Int.reduceToNat, ↓reduceIte]; try omega)
    · exact ⟨_, rfl, by unfold SzIn; omega⟩
theorem l10File (code : List Int) (hb : Bytes code) (i h : Int) (hc : CurOk code i h) : FnE Try.prog 63 [.ref 0 0] [(0, curB code i h)] (CQ code (isStr' (SzIn 200000))) := by
  refine fn_e tok (n := 21) (rs := [.tmp 2]) Try.func63 (by decide) rfl rfl rfl rfl (low_of rfl) ?_
  (try simp (maxSteps := 1000000) (disch := first | omega | (simp only [LN, numOk, verOk, rfP, rvP, rhP, frP, curB, bkd] <;> omega) | exact Ck.mk rfl) only [VC, T, Nat.reduceMul, Nat.reduceAdd, Nat.reduceSub, Nat.reduceLT, Nat.reduceEqDiff, Nat.reduceLeDiff, Nat.reduceBEq, reduceCtorEq, Int.reduceToNat, ↓reduceIte, rfP, rvP, rhP, frP, curB, bkd])
  repeat' (first
    | (refine br_go (fun e f => ?_) (fun e f => ?_) <;> (try simp only [BB] at f) <;> (try simp only [numOk, verOk] at f) <;> (try simp (maxSteps := 1000000) (disch := first | omega | (simp only [LN, numOk, verOk, rfP, rvP, rhP, frP, curB, bkd] <;> omega) | exact Ck.mk rfl) only [e, VC, T, Nat.reduceMul, Nat.reduceAdd, Nat.reduceSub, Nat.reduceLT, Nat.reduceEqDiff, Nat.reduceLeDiff, Nat.reduceBEq, reduceCtorEq, Int.reduceToNat, ↓reduceIte, rfP, rvP, rhP, frP, curB, bkd]) <;> (try clear e))
    | (refine pick_go (fun e f => ?_) (fun e f => ?_) <;> (try simp only [BB] at f) <;> (try simp only [numOk, verOk] at f) <;> (try simp (maxSteps := 1000000) (disch := first | omega | (simp only [LN, numOk, verOk, rfP, rvP, rhP, frP, curB, bkd] <;> omega) | exact Ck.mk rfl) only [e, VC, T, Nat.reduceMul, Nat.reduceAdd, Nat.reduceSub, Nat.reduceLT, Nat.reduceEqDiff, Nat.reduceLeDiff, Nat.reduceBEq, reduceCtorEq, Int.reduceToNat, ↓reduceIte, rfP, rvP, rhP, frP, curB, bkd]) <;> (try clear e))
    | ((first | (refine call_h [0] [] (l08Head code hb _ _ (by assumption)) (by decide) rfl rfl ?_; rintro _ _ ⟨⟨v, s, b, l, rfl, hx⟩, i', h', rfl, hc'⟩) | (refine call_h [0] [] (l08Records code hb _ (by omega) _ _ (by assumption)) (by decide) rfl rfl ?_; rintro _ _ ⟨⟨rs, rfl, hr1, hr2⟩, i', h', rfl, hc'⟩) | (refine call_h [0] [] (l01Once code hb _ (by omega) _ _ (by assumption)) (by decide) rfl rfl ?_; rintro _ _ ⟨⟨x, rfl⟩, i', h', rfl, hc'⟩) | refine call_x (spec_SealText _ _ _ _ _ (by omega) (fun r hr => by have := hr2 r hr; omega)) rfl ⟨rfl⟩ ?_ | (refine call_v (l10Frames v s b l rs (by unfold Hd8 at hx; simp only at hx; omega) ⟨by omega, hr2⟩) rfl ?_; rintro _ ⟨u, rfl, hu⟩; refine ⟨⟨rfl⟩, ?_⟩) | (refine call_h [0] [] (l08Bent code hb _ (by have := sealT_le v s b l rs; omega) _ _ (by assumption)) (by decide) rfl rfl ?_; rintro _ _ ⟨⟨w, rfl, hw⟩, i', h', rfl, hc'⟩) | (refine call_h [0] [] (l08Bent code hb _ (by unfold SzIn at hu; omega) _ _ (by assumption)) (by decide) rfl rfl ?_; rintro _ _ ⟨⟨w, rfl, hw⟩, i', h', rfl, hc'⟩)); (try simp (maxSteps := 1000000) (disch := first | omega | (simp only [LN, numOk, verOk, rfP, rvP, rhP, frP, curB, bkd] <;> omega) | exact Ck.mk rfl) only [VC, T, Nat.reduceMul, Nat.reduceAdd, Nat.reduceSub, Nat.reduceLT, Nat.reduceEqDiff, Nat.reduceLeDiff, Nat.reduceBEq, reduceCtorEq, Int.reduceToNat, ↓reduceIte, rfP, rvP, rhP, frP, curB, bkd])))
  · refine fin_c rfl (by first | rfl | (simp (maxSteps := 1000000) (disch := first | omega | (simp only [LN, numOk, verOk, rfP, rvP, rhP, frP, curB, bkd] <;> omega) | exact Ck.mk rfl) only [VC, T, Nat.reduceMul, Nat.reduceAdd, Nat.reduceSub, Nat.reduceLT, Nat.reduceEqDiff, Nat.reduceLeDiff, Nat.reduceBEq, reduceCtorEq, Int.reduceToNat, ↓reduceIte, rfP, rvP, rhP, frP, curB, bkd]; done)) rfl rfl ?_
    have := sealT_le v s b l rs
    exact ⟨⟨_, rfl, by unfold SzIn at *; omega⟩, _, _, rfl, by assumption⟩
  · refine fin_c rfl (by first | rfl | (simp (maxSteps := 1000000) (disch := first | omega | (simp only [LN, numOk, verOk, rfP, rvP, rhP, frP, curB, bkd] <;> omega) | exact Ck.mk rfl) only [VC, T, Nat.reduceMul, Nat.reduceAdd, Nat.reduceSub, Nat.reduceLT, Nat.reduceEqDiff, Nat.reduceLeDiff, Nat.reduceBEq, reduceCtorEq, Int.reduceToNat, ↓reduceIte, rfP, rvP, rhP, frP, curB, bkd]; done)) rfl rfl ?_
    exact ⟨⟨_, rfl, by unfold SzIn at *; omega⟩, _, _, rfl, by assumption⟩
def isInts (A : List Int → Prop) (r : PV) : Prop := ∃ x, r = .far (x.map (.int .i64)) ∧ A x
def Offs (x : List Int) : Prop := x.length ≤ 10 ∧ ∀ o ∈ x, i64 o
theorem l11Offsets (code : List Int) (hb : Bytes code) (i h : Int) (hc : CurOk code i h) : FnE Try.prog 79 [.ref 0 0] [(0, curB code i h)] (CQ code (isInts Offs)) := by
  refine fn_e tok (n := 31) (rs := [.tmp 2]) Try.func79 (by decide) rfl rfl rfl rfl (low_of rfl) ?_
  (try simp (maxSteps := 1000000) (disch := first | omega | (simp only [LN, numOk, verOk, rfP, rvP, rhP, frP, curB, bkd] <;> omega) | exact Ck.mk rfl) only [VC, T, Nat.reduceMul, Nat.reduceAdd, Nat.reduceSub, Nat.reduceLT, Nat.reduceEqDiff, Nat.reduceLeDiff, Nat.reduceBEq, reduceCtorEq, Int.reduceToNat, ↓reduceIte, rfP, rvP, rhP, frP, curB, bkd])
  repeat' (first
    | (refine br_go (fun e f => ?_) (fun e f => ?_) <;> (try simp only [BB] at f) <;> (try simp only [numOk, verOk] at f) <;> (try simp (maxSteps := 1000000) (disch := first | omega | (simp only [LN, numOk, verOk, rfP, rvP, rhP, frP, curB, bkd] <;> omega) | exact Ck.mk rfl) only [e, VC, T, Nat.reduceMul, Nat.reduceAdd, Nat.reduceSub, Nat.reduceLT, Nat.reduceEqDiff, Nat.reduceLeDiff, Nat.reduceBEq, reduceCtorEq, Int.reduceToNat, ↓reduceIte, rfP, rvP, rhP, frP, curB, bkd]) <;> (try clear e))
    | (refine pick_go (fun e f => ?_) (fun e f => ?_) <;> (try simp only [BB] at f) <;> (try simp only [numOk, verOk] at f) <;> (try simp (maxSteps := 1000000) (disch := first | omega | (simp only [LN, numOk, verOk, rfP, rvP, rhP, frP, curB, bkd] <;> omega) | exact Ck.mk rfl) only [e, VC, T, Nat.reduceMul, Nat.reduceAdd, Nat.reduceSub, Nat.reduceLT, Nat.reduceEqDiff, Nat.reduceLeDiff, Nat.reduceBEq, reduceCtorEq, Int.reduceToNat, ↓reduceIte, rfP, rvP, rhP, frP, curB, bkd]) <;> (try clear e)))
  refine lp_go (fun x : List Int × Int × Int × Int => ⟨31, [(0, .ref 0 0), (3, .row 448 x.1.length), (4, .int .i64 x.2.1), (5, .int .i64 x.1.length)], [(448, .row ⟨1, 0⟩ (x.1.map (.int .i64))), (0, curB code x.2.2.1 x.2.2.2)]⟩) (fun x => (x.1.length ≤ 8 ∧ (∀ o ∈ x.1, 0 ≤ o ∧ o ≤ 100000) ∧ 0 ≤ x.2.1 ∧ x.2.1 ≤ 24 + 44 * x.1.length) ∧ CurOk code x.2.2.1 x.2.2.2) (fun x => 9 - x.1.length) ([], 24, i, h) ?_ ⟨⟨Nat.zero_le _, fun _ h => absurd h (by simp), by simp only; omega, by simp⟩, hc⟩ ?_
  · (simp (disch := first | omega | (simp only [LN, numOk, verOk, curB] <;> omega) | exact Ck.mk rfl) only [SB, EQ, Nat.reduceMul, Nat.reduceAdd, Nat.reduceSub, Nat.reduceLT, Nat.reduceEqDiff, Nat.reduceLeDiff, Nat.reduceBEq, reduceCtorEq, Int.reduceToNat, ↓reduceIte, curB]; try omega)
  · rintro ⟨os, a, i, h⟩ ⟨⟨h1, h2, h3, h4⟩, hc⟩ N hN
    simp only at h1 h2 h3 h4 hc
    (try simp (maxSteps := 1000000) (disch := first | omega | (simp only [LN, numOk, verOk, rfP, rvP, rhP, frP, curB, bkd] <;> omega) | exact Ck.mk rfl) only [VC, T, Nat.reduceMul, Nat.reduceAdd, Nat.reduceSub, Nat.reduceLT, Nat.reduceEqDiff, Nat.reduceLeDiff, Nat.reduceBEq, reduceCtorEq, Int.reduceToNat, ↓reduceIte, rfP, rvP, rhP, frP, curB, bkd])
    repeat' (first
      | (refine br_go (fun e f => ?_) (fun e f => ?_) <;> (try simp only [BB] at f) <;> (try simp only [numOk, verOk] at f) <;> (try simp (maxSteps := 1000000) (disch := first | omega | (simp only [LN, numOk, verOk, rfP, rvP, rhP, frP, curB, bkd] <;> omega) | exact Ck.mk rfl) only [e, VC, T, Nat.reduceMul, Nat.reduceAdd, Nat.reduceSub, Nat.reduceLT, Nat.reduceEqDiff, Nat.reduceLeDiff, Nat.reduceBEq, reduceCtorEq, Int.reduceToNat, ↓reduceIte, rfP, rvP, rhP, frP, curB, bkd]) <;> (try clear e))
      | (refine pick_go (fun e f => ?_) (fun e f => ?_) <;> (try simp only [BB] at f) <;> (try simp only [numOk, verOk] at f) <;> (try simp (maxSteps := 1000000) (disch := first | omega | (simp only [LN, numOk, verOk, rfP, rvP, rhP, frP, curB, bkd] <;> omega) | exact Ck.mk rfl) only [e, VC, T, Nat.reduceMul, Nat.reduceAdd, Nat.reduceSub, Nat.reduceLT, Nat.reduceEqDiff, Nat.reduceLeDiff, Nat.reduceBEq, reduceCtorEq, Int.reduceToNat, ↓reduceIte, rfP, rvP, rhP, frP, curB, bkd]) <;> (try clear e))
      | ((first | (refine call_h [0] [] (l01Below code hb _ (by omega) _ _ (by assumption)) (by decide) rfl rfl ?_; rintro _ _ ⟨⟨x, rfl, hx1, hx2⟩, i', h', rfl, hc'⟩) | (refine call_h [0] [] (l01Once code hb _ (by omega) _ _ (by assumption)) (by decide) rfl rfl ?_; rintro _ _ ⟨⟨x, rfl⟩, i', h', rfl, hc'⟩) | (refine call_hd [0] [1728] (l01PickInt code hb [0, -1, 9223372036854775807, 1000000500] (by simp) (by simp) _ _ (by assumption)) (by decide) ?_ rfl ?_; (focus (first | rfl | (simp (maxSteps := 1000000) (disch := first | omega | (simp only [LN, numOk, verOk, rfP, rvP, rhP, frP, curB, bkd] <;> omega) | exact Ck.mk rfl) only [VC, T, Nat.reduceMul, Nat.reduceAdd, Nat.reduceSub, Nat.reduceLT, Nat.reduceEqDiff, Nat.reduceLeDiff, Nat.reduceBEq, reduceCtorEq, Int.reduceToNat, ↓reduceIte, rfP, rvP, rhP, frP, curB, bkd]; done))); rintro _ _ ⟨⟨y, rfl, hy⟩, i', h', rfl, hc'⟩)); (try simp (maxSteps := 1000000) (disch := first | omega | (simp only [LN, numOk, verOk, rfP, rvP, rhP, frP, curB, bkd] <;> omega) | exact Ck.mk rfl) only [VC, T, Nat.reduceMul, Nat.reduceAdd, Nat.reduceSub, Nat.reduceLT, Nat.reduceEqDiff, Nat.reduceLeDiff, Nat.reduceBEq, reduceCtorEq, Int.reduceToNat, ↓reduceIte, rfP, rvP, rhP, frP, curB, bkd])))
    · refine hN (os ++ [a], a + 5 + x, _, _) _ ⟨⟨by simp only [List.length_append, List.length_singleton]; omega, fun z hz => ?_, by simp only; omega, by simp only [List.length_append, List.length_singleton]; omega⟩, by assumption⟩ (by simp only [List.length_append, List.length_singleton]; omega) ?_
      · rcases List.mem_append.1 hz with hz | hz
        · exact h2 z hz
        · rw [List.mem_singleton.1 hz]; omega
      · (simp (disch := first | omega | (simp only [LN, numOk, verOk, curB] <;> omega) | exact Ck.mk rfl) only [SB, EQ, Nat.reduceMul, Nat.reduceAdd, Nat.reduceSub, Nat.reduceLT, Nat.reduceEqDiff, Nat.reduceLeDiff, Nat.reduceBEq, reduceCtorEq, Int.reduceToNat, ↓reduceIte, curB]; try omega)
    · refine fin_c (y := .far ((os ++ [y]).map (.int .i64))) rfl (by first | rfl | (simp (maxSteps := 1000000) (disch := first | omega | (simp only [LN, numOk, verOk, rfP, rvP, rhP, frP, curB, bkd] <;> omega) | exact Ck.mk rfl) only [VC, T, Nat.reduceMul, Nat.reduceAdd, Nat.reduceSub, Nat.reduceLT, Nat.reduceEqDiff, Nat.reduceLeDiff, Nat.reduceBEq, reduceCtorEq, Int.reduceToNat, ↓reduceIte, rfP, rvP, rhP, frP, curB, bkd]; done)) rfl rfl ?_
      refine ⟨⟨_, rfl, by rw [List.length_append, List.length_singleton]; omega, fun z hz => ?_⟩, _, _, rfl, by assumption⟩
      rcases List.mem_append.1 hz with hz | hz
      · have := h2 z hz; unfold i64; omega
      · rw [List.mem_singleton.1 hz]
        simp only [Mem, List.mem_cons, List.not_mem_nil, or_false] at hy
        unfold i64; omega
    · refine fin_c (y := .far (os.map (.int .i64))) rfl (by first | rfl | (simp (maxSteps := 1000000) (disch := first | omega | (simp only [LN, numOk, verOk, rfP, rvP, rhP, frP, curB, bkd] <;> omega) | exact Ck.mk rfl) only [VC, T, Nat.reduceMul, Nat.reduceAdd, Nat.reduceSub, Nat.reduceLT, Nat.reduceEqDiff, Nat.reduceLeDiff, Nat.reduceBEq, reduceCtorEq, Int.reduceToNat, ↓reduceIte, rfP, rvP, rhP, frP, curB, bkd]; done)) rfl rfl ?_
      exact ⟨⟨_, rfl, by omega, fun z hz => by have := h2 z hz; unfold i64; omega⟩, _, _, rfl, by assumption⟩
def isFootArg (r : PV) : Prop := ∃ (v s b l : Int) (os : List Int) (e : Int), r = .tup [.agg [.int .i64 v, .int .i64 s, .int .i64 b, .int .i64 l], .far (os.map (.int .i64)), .int .i64 e] ∧ HdA (v, s, b, l) ∧ Offs os ∧ i64 e
end Go.Pv
