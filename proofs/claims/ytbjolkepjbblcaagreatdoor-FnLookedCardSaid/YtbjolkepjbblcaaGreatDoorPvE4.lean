/- The texts of this claim, part 4: a small logic of plain values for the model's runs, what it says of the functions, in plain values. -/
import Derived.Shelf.LaysM
import Derived.Shelf.Strconv.Clone
import Derived.Shelf.Strconv.SyntaxError
import Derived.Shelf.LaysC
import Derived.Shelf.Strconv.ToError
import Derived.Test.YtbjolkepjbblcaaGreatDoorProg
import Derived.Test.YtbjolkepjbblcaaGreatDoorPvE0
import Derived.Test.YtbjolkepjbblcaaGreatDoorPvE1
import Derived.Test.YtbjolkepjbblcaaGreatDoorPvE2
import Derived.Test.YtbjolkepjbblcaaGreatDoorPvE3
/- What functions of the program and of the reference do, in plain values. -/
namespace Go.Pv
open Go.Proofs Go.Mth
set_option linter.unusedSimpArgs false
set_option linter.unusedVariables false
set_option maxHeartbeats 4000000
set_option maxRecDepth 4000

/-! ### the reference's deeds on disks: a step, right disks -/
theorem spec_l06Step (s : ByteArray) (hs : s.size ≤ 1048576) : Fn Tryz.prog 164 [.str s] [] (.tup [.str (stT s).1, .str (stT s).2.1, .int .i64 (stT s).2.2.1, .bool (stT s).2.2.2]) [] := by
  have hA := stT_A s
  have hB := stT_B s
  have hC := stT_C s
  have hD := stT_D s
  have hE := stT_E s
  have hci := colI_def s
  have hcs := findI_step (fun x : Int => decide (x = 58)) (bytesOf s)
  have hce := findI_end (fun x : Int => decide (x = 58)) (bytesOf s)
  have hbt : ∀ i : Nat, (bytesOf s).getD i default = bt s i := fun i => rd_bytesOf s i
  have hX : stNo s ↔ (s.size < 2 ∨ (bt s 0 ≠ 43 ∧ bt s 0 ≠ 45 ∧ bt s 0 ≠ 62)) := Iff.rfl
  have hNm := fun b (hb : b.size ≤ s.size) => spec_NameOk b (by omega)
  have hR := fun b (hb : b.size ≤ s.size) => spec_ReadDecimal b (by omega)
  have hel := ex_le s
  generalize stT s = q at *
  obtain ⟨q1, q2, q3, q4⟩ := q
  by_cases hno : stNo s
  · cases hA hno
    rw [hX] at hno
    refine fn_x tok (n := 92) (rs := [.tmp 2, .tmp 3, .tmp 4, .tmp 5]) Tryz.func164 (by decide) rfl rfl rfl rfl ?_
    refine Wr.go ?_
    repeat' ((first | (have ee := True.intro; refine Wr.mk ?_) | ((first | refine br_go ?_ ?_ | refine pick_go ?_ ?_) <;> intro ee f <;> (try simp only [BB] at f) <;> (try simp only [numOk, verOk] at f))) <;> (try simp (maxSteps := 1000000) (disch := first | omega | (simp only [LN, numOk, verOk, rfP, rvP, rhP, frP] <;> omega) | exact Ck.mk rfl) only [ee, VC, T, Nat.reduceMul, Nat.reduceAdd, Nat.reduceSub, Nat.reduceLT, Nat.reduceEqDiff, Nat.reduceLeDiff, Nat.reduceBEq, reduceCtorEq, Int.reduceToNat, ↓reduceIte, rfP, rvP, rhP, frP]) <;> (try clear ee))
    all_goals first | rfl | (exfalso; omega)
  · have hB := hB hno
    have hC := hC hno
    have hD := hD hno
    have hE := hE hno
    rw [hX] at hno
    by_cases h45 : bt s 0 = 45
    · cases hB h45
      refine fn_x tok (n := 92) (rs := [.tmp 2, .tmp 3, .tmp 4, .tmp 5]) Tryz.func164 (by decide) rfl rfl rfl rfl ?_
      refine Wr.go ?_
      repeat' ((first | (have ee := True.intro; refine Wr.mk ?_) | ((first | refine br_go ?_ ?_ | refine pick_go ?_ ?_) <;> intro ee f <;> (try simp only [BB] at f) <;> (try simp only [numOk, verOk] at f))) <;> (try simp (maxSteps := 1000000) (disch := first | omega | (simp only [LN, numOk, verOk, rfP, rvP, rhP, frP] <;> omega) | exact Ck.mk rfl) only [ee, VC, T, Nat.reduceMul, Nat.reduceAdd, Nat.reduceSub, Nat.reduceLT, Nat.reduceEqDiff, Nat.reduceLeDiff, Nat.reduceBEq, reduceCtorEq, Int.reduceToNat, ↓reduceIte, rfP, rvP, rhP, frP]) <;> (try clear ee))
      all_goals first | rfl | (exfalso; omega)
    · have hC := hC h45
      refine fn_x tok (n := 92) (rs := [.tmp 2, .tmp 3, .tmp 4, .tmp 5]) Tryz.func164 (by decide) rfl rfl rfl rfl ?_
      refine Wr.go ?_
      repeat' ((first | (have ee := True.intro; refine Wr.mk ?_) | ((first | refine br_go ?_ ?_ | refine pick_go ?_ ?_) <;> intro ee f <;> (try simp only [BB] at f) <;> (try simp only [numOk, verOk] at f))) <;> (try simp (maxSteps := 1000000) (disch := first | omega | (simp only [LN, numOk, verOk, rfP, rvP, rhP, frP] <;> omega) | exact Ck.mk rfl) only [ee, VC, T, Nat.reduceMul, Nat.reduceAdd, Nat.reduceSub, Nat.reduceLT, Nat.reduceEqDiff, Nat.reduceLeDiff, Nat.reduceBEq, reduceCtorEq, Int.reduceToNat, ↓reduceIte, rfP, rvP, rhP, frP]) <;> (try clear ee))
      · have f0 := f
        refine lp_go (fun i : Nat => ⟨92, [(0, .str s), (6, .int .i64 i)], []⟩) (fun i => 1 ≤ i ∧ i ≤ s.size ∧ colI s = findI (fun x : Int => decide (x = 58)) ((bytesOf s).drop i) i) (fun i => s.size - i) 1 ?_ ⟨Nat.le_refl _, by omega, hci⟩ ?_
        · (simp (disch := first | omega | (simp only [LN, numOk, verOk] <;> omega) | exact Ck.mk rfl) only [SB, EQ, Nat.reduceMul, Nat.reduceAdd, Nat.reduceSub, Nat.reduceLT, Nat.reduceEqDiff, Nat.reduceLeDiff, Nat.reduceBEq, reduceCtorEq, Int.reduceToNat, ↓reduceIte]; try omega)
        · rintro i ⟨h1, h2, h3⟩ N hN
          by_cases hi : i < s.size
          · have hcs := hcs i (by rw [bytesOf_length]; exact hi)
            rw [hbt] at hcs
            by_cases hc : bt s i = 58
            · rw [if_pos (decide_eq_true hc)] at hcs
              cases hE f0 i (h3.trans hcs)
              have hR := hR (s.extract (i + 1) s.size) (hel _ _)
              have hN1 := hNm (s.extract 1 i) (hel _ _)
              have hN2 := hNm (s.extract (i + 1) s.size) (hel _ _)
              generalize rdec (s.extract (i + 1) s.size) = p at *
              obtain ⟨v, ok⟩ := p
              refine Wr.go ?_
              repeat' ((first | (have ee := True.intro; refine Wr.mk ?_) | ((first | refine br_go ?_ ?_ | refine pick_go ?_ ?_) <;> intro ee f <;> (try simp only [BB] at f) <;> (try simp only [numOk, verOk] at f)) | (have ee := True.intro; first | refine dr_go mixed (id := 9) [([], [0], []), ([], [6], []), ([0, 1], [47, 48], []), ([], [0], []), ([], [6], []), ([4], [51], []), ([3, 4, 5], [50, 52], []), ([], [0], []), ([], [6], []), ([8], [55], []), ([7, 8, 9], [54, 56], []), ([7, 8, 9, 10], [57], []), ([7, 8, 9, 10, 11], [58], []), ([7, 8, 9, 10, 11, 12], [0, 59], []), ([7, 8, 9, 10, 11, 12], [6, 59], []), ([7, 8, 9, 10, 11, 12, 13, 14], [59, 60, 61], []), ([7, 8, 9, 10, 11, 12], [0, 59], []), ([7, 8, 9, 10, 11, 12], [6, 59], []), ([7, 8, 9, 10, 11, 12, 17], [59, 64], []), ([7, 8, 9, 10, 11, 12, 16, 17, 18], [59, 63, 65], []), ([7, 8, 9, 10, 11, 12, 13, 14, 15, 16, 17, 18, 19], [59, 62, 66], []), ([7, 8, 9, 10, 11, 12, 13, 14, 15, 16, 17, 18, 19, 20], [59, 67], []), ([0, 1, 2, 7, 8, 9, 10, 11, 12], [49], []), ([0, 1, 2, 3, 4, 5, 6, 7, 8, 9, 10, 11, 12, 22], [53], []), ([0, 1, 2, 3, 4, 5, 6, 7, 8, 9, 10, 11, 12, 22, 23], [], []), ([0, 1, 2, 3, 4, 5, 6, 7, 8, 9, 10, 11, 12, 13, 14, 15, 16, 17, 18, 19, 20, 21, 22, 23, 24], [68], [])] rfl rfl rfl ?_ | refine dr_go mixed (id := 12) [([], [0], []), ([], [6], []), ([0, 1], [81, 82], []), ([], [7], []), ([], [8], []), ([4], [85], []), ([4, 5], [0, 86], []), ([4, 5], [6, 86], []), ([4, 5, 6, 7], [86, 87, 88], []), ([4, 5, 6, 7, 8], [86, 89], []), ([4, 5, 6, 7, 8, 9], [86, 90], []), ([0, 1, 2, 4, 5, 6, 7, 8, 9], [83], []), ([0, 1, 2, 4, 5, 6, 7, 8, 9, 11], [], []), ([0, 1, 2, 3, 4, 5, 6, 7, 8, 9, 11, 12], [84], []), ([0, 1, 2, 3, 4, 5, 6, 7, 8, 9, 10, 11, 12, 13], [91], [])] rfl rfl rfl ?_ | refine call_x (hR) rfl ⟨rfl⟩ ?_ | refine call_x (hN1) rfl ⟨rfl⟩ ?_ | refine call_x (hN2) rfl ⟨rfl⟩ ?_)) <;> (try simp (maxSteps := 1000000) (disch := first | omega | (simp only [LN, numOk, verOk, rfP, rvP, rhP, frP, hc, f0] <;> omega) | exact Ck.mk rfl) only [ee, VC, T, Nat.reduceMul, Nat.reduceAdd, Nat.reduceSub, Nat.reduceLT, Nat.reduceEqDiff, Nat.reduceLeDiff, Nat.reduceBEq, reduceCtorEq, Int.reduceToNat, ↓reduceIte, rfP, rvP, rhP, frP, hc, f0]) <;> (try clear ee))
              all_goals (rw [show ((i : Int) + 1).toNat = i + 1 by omega])
            · rw [if_neg (by rw [decide_eq_false hc]; decide)] at hcs
              refine Wr.go ?_
              repeat' ((first | (have ee := True.intro; refine Wr.mk ?_) | ((first | refine br_go ?_ ?_ | refine pick_go ?_ ?_) <;> intro ee f <;> (try simp only [BB] at f) <;> (try simp only [numOk, verOk] at f)) | (have ee := True.intro; first | refine dr_go mixed (id := 9) [([], [0], []), ([], [6], []), ([0, 1], [47, 48], []), ([], [0], []), ([], [6], []), ([4], [51], []), ([3, 4, 5], [50, 52], []), ([], [0], []), ([], [6], []), ([8], [55], []), ([7, 8, 9], [54, 56], []), ([7, 8, 9, 10], [57], []), ([7, 8, 9, 10, 11], [58], []), ([7, 8, 9, 10, 11, 12], [0, 59], []), ([7, 8, 9, 10, 11, 12], [6, 59], []), ([7, 8, 9, 10, 11, 12, 13, 14], [59, 60, 61], []), ([7, 8, 9, 10, 11, 12], [0, 59], []), ([7, 8, 9, 10, 11, 12], [6, 59], []), ([7, 8, 9, 10, 11, 12, 17], [59, 64], []), ([7, 8, 9, 10, 11, 12, 16, 17, 18], [59, 63, 65], []), ([7, 8, 9, 10, 11, 12, 13, 14, 15, 16, 17, 18, 19], [59, 62, 66], []), ([7, 8, 9, 10, 11, 12, 13, 14, 15, 16, 17, 18, 19, 20], [59, 67], []), ([0, 1, 2, 7, 8, 9, 10, 11, 12], [49], []), ([0, 1, 2, 3, 4, 5, 6, 7, 8, 9, 10, 11, 12, 22], [53], []), ([0, 1, 2, 3, 4, 5, 6, 7, 8, 9, 10, 11, 12, 22, 23], [], []), ([0, 1, 2, 3, 4, 5, 6, 7, 8, 9, 10, 11, 12, 13, 14, 15, 16, 17, 18, 19, 20, 21, 22, 23, 24], [68], [])] rfl rfl rfl ?_ | refine dr_go mixed (id := 12) [([], [0], []), ([], [6], []), ([0, 1], [81, 82], []), ([], [7], []), ([], [8], []), ([4], [85], []), ([4, 5], [0, 86], []), ([4, 5], [6, 86], []), ([4, 5, 6, 7], [86, 87, 88], []), ([4, 5, 6, 7, 8], [86, 89], []), ([4, 5, 6, 7, 8, 9], [86, 90], []), ([0, 1, 2, 4, 5, 6, 7, 8, 9], [83], []), ([0, 1, 2, 4, 5, 6, 7, 8, 9, 11], [], []), ([0, 1, 2, 3, 4, 5, 6, 7, 8, 9, 11, 12], [84], []), ([0, 1, 2, 3, 4, 5, 6, 7, 8, 9, 10, 11, 12, 13], [91], [])] rfl rfl rfl ?_)) <;> (try simp (maxSteps := 1000000) (disch := first | omega | (simp only [LN, numOk, verOk, rfP, rvP, rhP, frP, hc, f0] <;> omega) | exact Ck.mk rfl) only [ee, VC, T, Nat.reduceMul, Nat.reduceAdd, Nat.reduceSub, Nat.reduceLT, Nat.reduceEqDiff, Nat.reduceLeDiff, Nat.reduceBEq, reduceCtorEq, Int.reduceToNat, ↓reduceIte, rfP, rvP, rhP, frP, hc, f0]) <;> (try clear ee))
              refine hN (i + 1) _ ⟨by omega, by omega, h3.trans hcs⟩ (by omega) ?_
              (simp (disch := first | omega | (simp only [LN, numOk, verOk] <;> omega) | exact Ck.mk rfl) only [SB, EQ, Nat.reduceMul, Nat.reduceAdd, Nat.reduceSub, Nat.reduceLT, Nat.reduceEqDiff, Nat.reduceLeDiff, Nat.reduceBEq, reduceCtorEq, Int.reduceToNat, ↓reduceIte]; try omega)
          · have hce := hce i (by rw [bytesOf_length]; omega)
            cases hC (h3.trans hce)
            refine Wr.go ?_
            repeat' ((first | (have ee := True.intro; refine Wr.mk ?_) | ((first | refine br_go ?_ ?_ | refine pick_go ?_ ?_) <;> intro ee f <;> (try simp only [BB] at f) <;> (try simp only [numOk, verOk] at f))) <;> (try simp (maxSteps := 1000000) (disch := first | omega | (simp only [LN, numOk, verOk, rfP, rvP, rhP, frP] <;> omega) | exact Ck.mk rfl) only [ee, VC, T, Nat.reduceMul, Nat.reduceAdd, Nat.reduceSub, Nat.reduceLT, Nat.reduceEqDiff, Nat.reduceLeDiff, Nat.reduceBEq, reduceCtorEq, Int.reduceToNat, ↓reduceIte, rfP, rvP, rhP, frP]) <;> (try clear ee))
      · have f0 : bt s 0 = 62 := by omega
        refine lp_go (fun i : Nat => ⟨92, [(0, .str s), (6, .int .i64 i)], []⟩) (fun i => 1 ≤ i ∧ i ≤ s.size ∧ colI s = findI (fun x : Int => decide (x = 58)) ((bytesOf s).drop i) i) (fun i => s.size - i) 1 ?_ ⟨Nat.le_refl _, by omega, hci⟩ ?_
        · (simp (disch := first | omega | (simp only [LN, numOk, verOk] <;> omega) | exact Ck.mk rfl) only [SB, EQ, Nat.reduceMul, Nat.reduceAdd, Nat.reduceSub, Nat.reduceLT, Nat.reduceEqDiff, Nat.reduceLeDiff, Nat.reduceBEq, reduceCtorEq, Int.reduceToNat, ↓reduceIte]; try omega)
        · rintro i ⟨h1, h2, h3⟩ N hN
          by_cases hi : i < s.size
          · have hcs := hcs i (by rw [bytesOf_length]; exact hi)
            rw [hbt] at hcs
            by_cases hc : bt s i = 58
            · rw [if_pos (decide_eq_true hc)] at hcs
              cases hD f0 i (h3.trans hcs)
              have hR := hR (s.extract (i + 1) s.size) (hel _ _)
              have hN1 := hNm (s.extract 1 i) (hel _ _)
              have hN2 := hNm (s.extract (i + 1) s.size) (hel _ _)
              generalize rdec (s.extract (i + 1) s.size) = p at *
              obtain ⟨v, ok⟩ := p
              refine Wr.go ?_
              repeat' ((first | (have ee := True.intro; refine Wr.mk ?_) | ((first | refine br_go ?_ ?_ | refine pick_go ?_ ?_) <;> intro ee f <;> (try simp only [BB] at f) <;> (try simp only [numOk, verOk] at f)) | (have ee := True.intro; first | refine dr_go mixed (id := 9) [([], [0], []), ([], [6], []), ([0, 1], [47, 48], []), ([], [0], []), ([], [6], []), ([4], [51], []), ([3, 4, 5], [50, 52], []), ([], [0], []), ([], [6], []), ([8], [55], []), ([7, 8, 9], [54, 56], []), ([7, 8, 9, 10], [57], []), ([7, 8, 9, 10, 11], [58], []), ([7, 8, 9, 10, 11, 12], [0, 59], []), ([7, 8, 9, 10, 11, 12], [6, 59], []), ([7, 8, 9, 10, 11, 12, 13, 14], [59, 60, 61], []), ([7, 8, 9, 10, 11, 12], [0, 59], []), ([7, 8, 9, 10, 11, 12], [6, 59], []), ([7, 8, 9, 10, 11, 12, 17], [59, 64], []), ([7, 8, 9, 10, 11, 12, 16, 17, 18], [59, 63, 65], []), ([7, 8, 9, 10, 11, 12, 13, 14, 15, 16, 17, 18, 19], [59, 62, 66], []), ([7, 8, 9, 10, 11, 12, 13, 14, 15, 16, 17, 18, 19, 20], [59, 67], []), ([0, 1, 2, 7, 8, 9, 10, 11, 12], [49], []), ([0, 1, 2, 3, 4, 5, 6, 7, 8, 9, 10, 11, 12, 22], [53], []), ([0, 1, 2, 3, 4, 5, 6, 7, 8, 9, 10, 11, 12, 22, 23], [], []), ([0, 1, 2, 3, 4, 5, 6, 7, 8, 9, 10, 11, 12, 13, 14, 15, 16, 17, 18, 19, 20, 21, 22, 23, 24], [68], [])] rfl rfl rfl ?_ | refine dr_go mixed (id := 12) [([], [0], []), ([], [6], []), ([0, 1], [81, 82], []), ([], [7], []), ([], [8], []), ([4], [85], []), ([4, 5], [0, 86], []), ([4, 5], [6, 86], []), ([4, 5, 6, 7], [86, 87, 88], []), ([4, 5, 6, 7, 8], [86, 89], []), ([4, 5, 6, 7, 8, 9], [86, 90], []), ([0, 1, 2, 4, 5, 6, 7, 8, 9], [83], []), ([0, 1, 2, 4, 5, 6, 7, 8, 9, 11], [], []), ([0, 1, 2, 3, 4, 5, 6, 7, 8, 9, 11, 12], [84], []), ([0, 1, 2, 3, 4, 5, 6, 7, 8, 9, 10, 11, 12, 13], [91], [])] rfl rfl rfl ?_ | refine call_x (hR) rfl ⟨rfl⟩ ?_ | refine call_x (hN1) rfl ⟨rfl⟩ ?_ | refine call_x (hN2) rfl ⟨rfl⟩ ?_)) <;> (try simp (maxSteps := 1000000) (disch := first | omega | (simp only [LN, numOk, verOk, rfP, rvP, rhP, frP, hc, f0] <;> omega) | exact Ck.mk rfl) only [ee, VC, T, Nat.reduceMul, Nat.reduceAdd, Nat.reduceSub, Nat.reduceLT, Nat.reduceEqDiff, Nat.reduceLeDiff, Nat.reduceBEq, reduceCtorEq, Int.reduceToNat, ↓reduceIte, rfP, rvP, rhP, frP, hc, f0]) <;> (try clear ee))
              all_goals (rw [show ((i : Int) + 1).toNat = i + 1 by omega])
            · rw [if_neg (by rw [decide_eq_false hc]; decide)] at hcs
              refine Wr.go ?_
              repeat' ((first | (have ee := True.intro; refine Wr.mk ?_) | ((first | refine br_go ?_ ?_ | refine pick_go ?_ ?_) <;> intro ee f <;> (try simp only [BB] at f) <;> (try simp only [numOk, verOk] at f)) | (have ee := True.intro; first | refine dr_go mixed (id := 9) [([], [0], []), ([], [6], []), ([0, 1], [47, 48], []), ([], [0], []), ([], [6], []), ([4], [51], []), ([3, 4, 5], [50, 52], []), ([], [0], []), ([], [6], []), ([8], [55], []), ([7, 8, 9], [54, 56], []), ([7, 8, 9, 10], [57], []), ([7, 8, 9, 10, 11], [58], []), ([7, 8, 9, 10, 11, 12], [0, 59], []), ([7, 8, 9, 10, 11, 12], [6, 59], []), ([7, 8, 9, 10, 11, 12, 13, 14], [59, 60, 61], []), ([7, 8, 9, 10, 11, 12], [0, 59], []), ([7, 8, 9, 10, 11, 12], [6, 59], []), ([7, 8, 9, 10, 11, 12, 17], [59, 64], []), ([7, 8, 9, 10, 11, 12, 16, 17, 18], [59, 63, 65], []), ([7, 8, 9, 10, 11, 12, 13, 14, 15, 16, 17, 18, 19], [59, 62, 66], []), ([7, 8, 9, 10, 11, 12, 13, 14, 15, 16, 17, 18, 19, 20], [59, 67], []), ([0, 1, 2, 7, 8, 9, 10, 11, 12], [49], []), ([0, 1, 2, 3, 4, 5, 6, 7, 8, 9, 10, 11, 12, 22], [53], []), ([0, 1, 2, 3, 4, 5, 6, 7, 8, 9, 10, 11, 12, 22, 23], [], []), ([0, 1, 2, 3, 4, 5, 6, 7, 8, 9, 10, 11, 12, 13, 14, 15, 16, 17, 18, 19, 20, 21, 22, 23, 24], [68], [])] rfl rfl rfl ?_ | refine dr_go mixed (id := 12) [([], [0], []), ([], [6], []), ([0, 1], [81, 82], []), ([], [7], []), ([], [8], []), ([4], [85], []), ([4, 5], [0, 86], []), ([4, 5], [6, 86], []), ([4, 5, 6, 7], [86, 87, 88], []), ([4, 5, 6, 7, 8], [86, 89], []), ([4, 5, 6, 7, 8, 9], [86, 90], []), ([0, 1, 2, 4, 5, 6, 7, 8, 9], [83], []), ([0, 1, 2, 4, 5, 6, 7, 8, 9, 11], [], []), ([0, 1, 2, 3, 4, 5, 6, 7, 8, 9, 11, 12], [84], []), ([0, 1, 2, 3, 4, 5, 6, 7, 8, 9, 10, 11, 12, 13], [91], [])] rfl rfl rfl ?_)) <;> (try simp (maxSteps := 1000000) (disch := first | omega | (simp only [LN, numOk, verOk, rfP, rvP, rhP, frP, hc, f0] <;> omega) | exact Ck.mk rfl) only [ee, VC, T, Nat.reduceMul, Nat.reduceAdd, Nat.reduceSub, Nat.reduceLT, Nat.reduceEqDiff, Nat.reduceLeDiff, Nat.reduceBEq, reduceCtorEq, Int.reduceToNat, ↓reduceIte, rfP, rvP, rhP, frP, hc, f0]) <;> (try clear ee))
              refine hN (i + 1) _ ⟨by omega, by omega, h3.trans hcs⟩ (by omega) ?_
              (simp (disch := first | omega | (simp only [LN, numOk, verOk] <;> omega) | exact Ck.mk rfl) only [SB, EQ, Nat.reduceMul, Nat.reduceAdd, Nat.reduceSub, Nat.reduceLT, Nat.reduceEqDiff, Nat.reduceLeDiff, Nat.reduceBEq, reduceCtorEq, Int.reduceToNat, ↓reduceIte]; try omega)
          · have hce := hce i (by rw [bytesOf_length]; omega)
            cases hC (h3.trans hce)
            refine Wr.go ?_
            repeat' ((first | (have ee := True.intro; refine Wr.mk ?_) | ((first | refine br_go ?_ ?_ | refine pick_go ?_ ?_) <;> intro ee f <;> (try simp only [BB] at f) <;> (try simp only [numOk, verOk] at f))) <;> (try simp (maxSteps := 1000000) (disch := first | omega | (simp only [LN, numOk, verOk, rfP, rvP, rhP, frP] <;> omega) | exact Ck.mk rfl) only [ee, VC, T, Nat.reduceMul, Nat.reduceAdd, Nat.reduceSub, Nat.reduceLT, Nat.reduceEqDiff, Nat.reduceLeDiff, Nat.reduceBEq, reduceCtorEq, Int.reduceToNat, ↓reduceIte, rfP, rvP, rhP, frP]) <;> (try clear ee))
end Go.Pv

/- What functions of the program and of the reference do, in plain values. -/
namespace Go.Pv
open Go.Proofs Go.Mth
set_option linter.unusedSimpArgs false
set_option linter.unusedVariables false
set_option maxHeartbeats 4000000
set_option maxRecDepth 4000

/-! ### the reference's deeds on disks: steps one by one, right disks -/
theorem nfx_en (L : List Et) : nfx (L.map enP) = True := eq_true (nfx_map _ _ fun a y hy => by
  simp only [enP, flat, List.mem_cons, List.not_mem_nil, or_false] at hy
  rcases hy with rfl | rfl <;> rfl)
theorem nfx_nd (L : List Nd) : nfx (L.map ndP) = True := eq_true (nfx_map _ _ fun a y hy => by
  simp only [ndP, flat, List.mem_cons, List.not_mem_nil, or_false] at hy
  rcases hy with rfl | rfl | rfl <;> rfl)
theorem elOk_en (L : List Et) : elOk 2 (L.map enP) = True := eq_true fun z hz => by
  obtain ⟨a, _, rfl⟩ := List.mem_map.1 hz
  exact ⟨rfl, rfl⟩
theorem elOk_nd (L : List Nd) : elOk 3 (L.map ndP) = True := eq_true fun z hz => by
  obtain ⟨a, _, rfl⟩ := List.mem_map.1 hz
  exact ⟨rfl, rfl⟩
theorem spec_StepsDone_R (L0 : List Et) (S : List ByteArray) (k : Nat) (hL : L0.length ≤ 1048576) (hS : S.length ≤ 1048576) (hz : ∀ s ∈ S, s.size ≤ 1048576) (hn : ∀ e ∈ L0, e.1.size ≤ 1048576) (hk : k ≤ S.length) : FnE Tryz.prog 117 [.far (L0.map enP), .far (S.map .str), .int .i64 k] [] (fun r m => r = .tup [.row 64 (sgT L0 (S.take k)).1.length, .bool (sgT L0 (S.take k)).2] ∧ m = [(64, .row ⟨2, 0⟩ ((sgT L0 (S.take k)).1.map enP))]) := by
  have hB : (if (S.length : Int) < 0 ∨ (k : Int) < 0 then (0 : Int) else if (S.length : Int) < k then (S.length : Int) else (k : Int)) = k := by rw [if_neg (by omega), if_neg (by omega)]
  have hBr := spec_Brought k 0 S.length
  rw [hB] at hBr
  have hst := fun L => sgT_step L (S.take k)
  have hen : ∀ L, sgT L [] = (L, true) := fun _ => rfl
  have hlt : (S.take k).length = k := by rw [List.length_take]; omega
  have hat : ∀ i, i < k → (S.take k).getD i default = S.getD i default := fun i hi => by
    rw [List.getD_eq_getElem?_getD, List.getElem?_take, if_pos hi, List.getD_eq_getElem?_getD]
  have hdk : (S.take k).drop k = [] := List.drop_eq_nil_of_le (by omega)
  generalize S.take k = Z at *
  generalize hq : sgT L0 Z = q at *
  refine fn_e tok (n := 89) (rs := [.tmp 6, .tmp 7]) Tryz.func117 (by decide) rfl rfl rfl rfl (low_of rfl) ?_
  refine Wr.go ?_
  repeat' ((first | (have ee := True.intro; refine Wr.mk ?_) | ((first | refine br_go ?_ ?_ | refine pick_go ?_ ?_) <;> intro ee f <;> (try simp only [BB] at f) <;> (try simp only [numOk, verOk] at f)) | (have ee := True.intro; first | refine call_x (hBr) rfl ⟨rfl⟩ ?_)) <;> (try simp (maxSteps := 1000000) (disch := first | omega | (simp only [LN, numOk, verOk, rfP, rvP, rhP, frP, elOk_en, elOk_nd, nfx_en, nfx_nd] <;> omega) | exact Ck.mk rfl) only [ee, VC, T, Nat.reduceMul, Nat.reduceAdd, Nat.reduceSub, Nat.reduceLT, Nat.reduceEqDiff, Nat.reduceLeDiff, Nat.reduceBEq, reduceCtorEq, Int.reduceToNat, ↓reduceIte, rfP, rvP, rhP, frP, elOk_en, elOk_nd, nfx_en, nfx_nd]) <;> (try clear ee))
  refine lp_im (fun x : Nat × List Et => ⟨89, [(1, .far (S.map .str)), (2, .int .i64 k), (8, .row 960 x.2.length), (9, .int .i64 x.1)], [(960, .row ⟨2, 0⟩ (x.2.map enP))]⟩) (fun x => x.1 ≤ k ∧ (x.2.length ≤ L0.length + x.1 ∧ ∀ e ∈ x.2, e.1.size ≤ 1048576) ∧ q = sgT x.2 (Z.drop x.1)) (fun x => k - x.1) (0, L0) ?_ ⟨Nat.zero_le _, ⟨Nat.le_refl _, hn⟩, hq.symm⟩ ?_
  · refine Im.sub ?_
    (simp (disch := first | omega | (simp only [LN, numOk, verOk] <;> omega) | exact Ck.mk rfl) only [SB, EQ, Nat.reduceMul, Nat.reduceAdd, Nat.reduceSub, Nat.reduceLT, Nat.reduceEqDiff, Nat.reduceLeDiff, Nat.reduceBEq, reduceCtorEq, Int.reduceToNat, ↓reduceIte]; try omega)
  · rintro ⟨i, L⟩ ⟨hi, ⟨hl1, hl2⟩, hqq⟩ N hN
    simp only at hi hl1 hl2 hqq hN
    by_cases h : i < k
    · have hst := hst L i (by omega)
      have hat := hat i h
      rw [hat] at hst
      have hsz : (S.getD i default).size ≤ 1048576 := by
        rw [List.getD_eq_getElem?_getD, List.getElem?_eq_getElem (by omega)]; exact hz _ (List.getElem_mem _)
      generalize hsq : S.getD i default = s at *
      have hle := fun M hM => sdT_le L s M 1048576 hM hl2 hsz
      have hT := spec_l06Step s hsz
      have h1 := sdT_no L s
      have h2 := sdT_43 L s
      have h3 := sdT_45 L s
      have h4 := sdT_62 L s
      have hok := stT_ok s
      have hstl := stT_le s
      have hdl := dropT_len L
      generalize stT s = t at *
      obtain ⟨nm, to, id, ok⟩ := t
      simp only at *
      have hNm := spec_NameOk nm (by omega)
      have hHas := spec_l06Has L nm (by omega)
      have hEnt := spec_EntryAt L nm (by omega)
      have hDr := spec_l06Drop_R L nm (by omega)
      have hP1 : FnE Tryz.prog 96 [.far (L.map enP), .agg [.str nm, .int .i64 id]] [] (fun r m => r = .row 64 (putT L (nm, id)).length ∧ m = [(64, .row ⟨2, 0⟩ ((putT L (nm, id)).map enP))]) := spec_l06Put_R L (nm, id) (by omega)
      have hP2 : FnE Tryz.prog 96 [.far ((dropT L nm).map enP), .agg [.str to, .int .i64 (entT L nm)]] [] (fun r m => r = .row 64 (putT (dropT L nm) (to, entT L nm)).length ∧ m = [(64, .row ⟨2, 0⟩ ((putT (dropT L nm) (to, entT L nm)).map enP))]) := spec_l06Put_R (dropT L nm) (to, entT L nm) (by have := hdl nm; omega)
      have nx : ∀ M, sdT L s = some M → i + 1 ≤ k ∧ (M.length ≤ L0.length + (i + 1) ∧ ∀ e ∈ M, e.1.size ≤ 1048576) ∧ q = sgT M (Z.drop (i + 1)) := fun M hM => ⟨by omega, ⟨by have := (hle M hM).1; omega, (hle M hM).2⟩, by rw [hqq, hst, hM]⟩
      have no : sdT L s = none → q = ([], false) := fun hM => by rw [hqq, hst, hM]
      cases ok with
      | false =>
        cases no (h1 (.inl rfl))
        refine Wr.go ?_
        repeat' ((first | (have ee := True.intro; refine Wr.mk ?_) | ((first | refine br_go ?_ ?_ | refine pick_go ?_ ?_) <;> intro ee f <;> (try simp only [BB] at f) <;> (try simp only [numOk, verOk] at f)) | (have ee := True.intro; first | refine call_x (hT) rfl ⟨rfl⟩ ?_)) <;> (try simp (maxSteps := 1000000) (disch := first | omega | (simp only [LN, numOk, verOk, rfP, rvP, rhP, frP, elOk_en, elOk_nd, nfx_en, nfx_nd, hsq] <;> omega) | exact Ck.mk rfl) only [ee, VC, T, Nat.reduceMul, Nat.reduceAdd, Nat.reduceSub, Nat.reduceLT, Nat.reduceEqDiff, Nat.reduceLeDiff, Nat.reduceBEq, reduceCtorEq, Int.reduceToNat, ↓reduceIte, rfP, rvP, rhP, frP, elOk_en, elOk_nd, nfx_en, nfx_nd, hsq]) <;> (try clear ee))
        all_goals exact fin_t [some 3712] (⟨rfl, rfl⟩) rfl (by simp [RV, RV2, RVl, RV1, tau, tget, hget, data1, oneOf]) (by simp [RH, RVl, RV1, tau, hget, data1]) (by simp [Taus, hget])
      | true =>
        obtain ⟨hok1, hok2⟩ := hok rfl
        by_cases hnm : nmOk nm
        · rw [decide_eq_true hnm] at hNm
          by_cases c43 : bt s 0 = 43
          · have nx := nx _ (h2 rfl hnm c43)
            refine Wr.go ?_
            repeat' ((first | (have ee := True.intro; refine Wr.mk ?_) | ((first | refine br_go ?_ ?_ | refine pick_go ?_ ?_) <;> intro ee f <;> (try simp only [BB] at f) <;> (try simp only [numOk, verOk] at f)) | (have ee := True.intro; first | refine call_x (hT) rfl ⟨rfl⟩ ?_ | refine call_x (hNm) rfl ⟨rfl⟩ ?_ | (refine call_h [] [960] (hP1) (by decide) ?_ rfl ?_; (focus (first | rfl | (simp (maxSteps := 1000000) (disch := first | omega | (simp only [LN, numOk, verOk, rfP, rvP, rhP, frP, elOk_en, elOk_nd, nfx_en, nfx_nd, hsq, c43] <;> omega) | exact Ck.mk rfl) only [VC, T, Nat.reduceMul, Nat.reduceAdd, Nat.reduceSub, Nat.reduceLT, Nat.reduceEqDiff, Nat.reduceLeDiff, Nat.reduceBEq, reduceCtorEq, Int.reduceToNat, ↓reduceIte, rfP, rvP, rhP, frP, elOk_en, elOk_nd, nfx_en, nfx_nd, hsq, c43]; done))); rintro _ _ ⟨rfl, rfl⟩))) <;> (try simp (maxSteps := 1000000) (disch := first | omega | (simp only [LN, numOk, verOk, rfP, rvP, rhP, frP, elOk_en, elOk_nd, nfx_en, nfx_nd, hsq, c43] <;> omega) | exact Ck.mk rfl) only [ee, VC, T, Nat.reduceMul, Nat.reduceAdd, Nat.reduceSub, Nat.reduceLT, Nat.reduceEqDiff, Nat.reduceLeDiff, Nat.reduceBEq, reduceCtorEq, Int.reduceToNat, ↓reduceIte, rfP, rvP, rhP, frP, elOk_en, elOk_nd, nfx_en, nfx_nd, hsq, c43]) <;> (try clear ee))
            refine hN (i + 1, putT L (nm, id)) _ nx (by simp only; omega) (Im.trans (Im.sub ?_) (Im.trans (Im.ren 8 5632 960 (by rfl) (by rfl) (by decide)) (Im.sub (s' := ⟨89, [(1, .far (S.map .str)), (2, .int .i64 k), (8, .row 5632 (putT L (nm, id)).length), (9, .int .i64 ((i : Int) + 1))], [(5632, .row ⟨2, 0⟩ ((putT L (nm, id)).map enP))]⟩) ?_)))
            · (simp (disch := first | omega | (simp only [LN, numOk, verOk, mvH, rn2, rn1] <;> omega) | exact Ck.mk rfl) only [SB, EQ, Nat.reduceMul, Nat.reduceAdd, Nat.reduceSub, Nat.reduceLT, Nat.reduceEqDiff, Nat.reduceLeDiff, Nat.reduceBEq, reduceCtorEq, Int.reduceToNat, ↓reduceIte, mvH, rn2, rn1]; try omega)
            · (simp (disch := first | omega | (simp only [LN, numOk, verOk] <;> omega) | exact Ck.mk rfl) only [SB, EQ, Nat.reduceMul, Nat.reduceAdd, Nat.reduceSub, Nat.reduceLT, Nat.reduceEqDiff, Nat.reduceLeDiff, Nat.reduceBEq, reduceCtorEq, Int.reduceToNat, ↓reduceIte]; try omega)
          · by_cases hh : hasT L nm
            · rw [decide_eq_true (show 0 ≤ placeI L nm from hh)] at hHas
              by_cases c45 : bt s 0 = 45
              · have nx := nx _ (h3 rfl hnm c45 hh)
                refine Wr.go ?_
                repeat' ((first | (have ee := True.intro; refine Wr.mk ?_) | ((first | refine br_go ?_ ?_ | refine pick_go ?_ ?_) <;> intro ee f <;> (try simp only [BB] at f) <;> (try simp only [numOk, verOk] at f)) | (have ee := True.intro; first | refine call_x (hT) rfl ⟨rfl⟩ ?_ | refine call_x (hNm) rfl ⟨rfl⟩ ?_ | (refine call_hx [] [960] (hHas) (by decide) ?_ rfl ?_; (focus (first | rfl | (simp (maxSteps := 1000000) (disch := first | omega | (simp only [LN, numOk, verOk, rfP, rvP, rhP, frP, elOk_en, elOk_nd, nfx_en, nfx_nd, hsq, c45] <;> omega) | exact Ck.mk rfl) only [VC, T, Nat.reduceMul, Nat.reduceAdd, Nat.reduceSub, Nat.reduceLT, Nat.reduceEqDiff, Nat.reduceLeDiff, Nat.reduceBEq, reduceCtorEq, Int.reduceToNat, ↓reduceIte, rfP, rvP, rhP, frP, elOk_en, elOk_nd, nfx_en, nfx_nd, hsq, c45]; done)))) | (refine call_h [] [960] (hDr) (by decide) ?_ rfl ?_; (focus (first | rfl | (simp (maxSteps := 1000000) (disch := first | omega | (simp only [LN, numOk, verOk, rfP, rvP, rhP, frP, elOk_en, elOk_nd, nfx_en, nfx_nd, hsq, c45] <;> omega) | exact Ck.mk rfl) only [VC, T, Nat.reduceMul, Nat.reduceAdd, Nat.reduceSub, Nat.reduceLT, Nat.reduceEqDiff, Nat.reduceLeDiff, Nat.reduceBEq, reduceCtorEq, Int.reduceToNat, ↓reduceIte, rfP, rvP, rhP, frP, elOk_en, elOk_nd, nfx_en, nfx_nd, hsq, c45]; done))); rintro _ _ ⟨rfl, rfl⟩))) <;> (try simp (maxSteps := 1000000) (disch := first | omega | (simp only [LN, numOk, verOk, rfP, rvP, rhP, frP, elOk_en, elOk_nd, nfx_en, nfx_nd, hsq, c45] <;> omega) | exact Ck.mk rfl) only [ee, VC, T, Nat.reduceMul, Nat.reduceAdd, Nat.reduceSub, Nat.reduceLT, Nat.reduceEqDiff, Nat.reduceLeDiff, Nat.reduceBEq, reduceCtorEq, Int.reduceToNat, ↓reduceIte, rfP, rvP, rhP, frP, elOk_en, elOk_nd, nfx_en, nfx_nd, hsq, c45]) <;> (try clear ee))
                refine hN (i + 1, dropT L nm) _ nx (by simp only; omega) (Im.trans (Im.sub ?_) (Im.trans (Im.ren 8 4864 960 (by rfl) (by rfl) (by decide)) (Im.sub (s' := ⟨89, [(1, .far (S.map .str)), (2, .int .i64 k), (8, .row 4864 (dropT L nm).length), (9, .int .i64 ((i : Int) + 1))], [(4864, .row ⟨2, 0⟩ ((dropT L nm).map enP))]⟩) ?_)))
                · (simp (disch := first | omega | (simp only [LN, numOk, verOk, mvH, rn2, rn1] <;> omega) | exact Ck.mk rfl) only [SB, EQ, Nat.reduceMul, Nat.reduceAdd, Nat.reduceSub, Nat.reduceLT, Nat.reduceEqDiff, Nat.reduceLeDiff, Nat.reduceBEq, reduceCtorEq, Int.reduceToNat, ↓reduceIte, mvH, rn2, rn1]; try omega)
                · (simp (disch := first | omega | (simp only [LN, numOk, verOk] <;> omega) | exact Ck.mk rfl) only [SB, EQ, Nat.reduceMul, Nat.reduceAdd, Nat.reduceSub, Nat.reduceLT, Nat.reduceEqDiff, Nat.reduceLeDiff, Nat.reduceBEq, reduceCtorEq, Int.reduceToNat, ↓reduceIte]; try omega)
              · have c62 : bt s 0 = 62 := by omega
                have nx := nx _ (h4 rfl hnm c62 hh)
                refine Wr.go ?_
                repeat' ((first | (have ee := True.intro; refine Wr.mk ?_) | ((first | refine br_go ?_ ?_ | refine pick_go ?_ ?_) <;> intro ee f <;> (try simp only [BB] at f) <;> (try simp only [numOk, verOk] at f)) | (have ee := True.intro; first | refine call_x (hT) rfl ⟨rfl⟩ ?_ | refine call_x (hNm) rfl ⟨rfl⟩ ?_ | (refine call_hx [] [960] (hHas) (by decide) ?_ rfl ?_; (focus (first | rfl | (simp (maxSteps := 1000000) (disch := first | omega | (simp only [LN, numOk, verOk, rfP, rvP, rhP, frP, elOk_en, elOk_nd, nfx_en, nfx_nd, hsq, c62] <;> omega) | exact Ck.mk rfl) only [VC, T, Nat.reduceMul, Nat.reduceAdd, Nat.reduceSub, Nat.reduceLT, Nat.reduceEqDiff, Nat.reduceLeDiff, Nat.reduceBEq, reduceCtorEq, Int.reduceToNat, ↓reduceIte, rfP, rvP, rhP, frP, elOk_en, elOk_nd, nfx_en, nfx_nd, hsq, c62]; done)))) | (refine call_hx [] [960] (hEnt) (by decide) ?_ rfl ?_; (focus (first | rfl | (simp (maxSteps := 1000000) (disch := first | omega | (simp only [LN, numOk, verOk, rfP, rvP, rhP, frP, elOk_en, elOk_nd, nfx_en, nfx_nd, hsq, c62] <;> omega) | exact Ck.mk rfl) only [VC, T, Nat.reduceMul, Nat.reduceAdd, Nat.reduceSub, Nat.reduceLT, Nat.reduceEqDiff, Nat.reduceLeDiff, Nat.reduceBEq, reduceCtorEq, Int.reduceToNat, ↓reduceIte, rfP, rvP, rhP, frP, elOk_en, elOk_nd, nfx_en, nfx_nd, hsq, c62]; done)))) | (refine call_h [] [960] (hDr) (by decide) ?_ rfl ?_; (focus (first | rfl | (simp (maxSteps := 1000000) (disch := first | omega | (simp only [LN, numOk, verOk, rfP, rvP, rhP, frP, elOk_en, elOk_nd, nfx_en, nfx_nd, hsq, c62] <;> omega) | exact Ck.mk rfl) only [VC, T, Nat.reduceMul, Nat.reduceAdd, Nat.reduceSub, Nat.reduceLT, Nat.reduceEqDiff, Nat.reduceLeDiff, Nat.reduceBEq, reduceCtorEq, Int.reduceToNat, ↓reduceIte, rfP, rvP, rhP, frP, elOk_en, elOk_nd, nfx_en, nfx_nd, hsq, c62]; done))); rintro _ _ ⟨rfl, rfl⟩) | (refine call_h [] [4864] (hP2) (by decide) ?_ rfl ?_; (focus (first | rfl | (simp (maxSteps := 1000000) (disch := first | omega | (simp only [LN, numOk, verOk, rfP, rvP, rhP, frP, elOk_en, elOk_nd, nfx_en, nfx_nd, hsq, c62] <;> omega) | exact Ck.mk rfl) only [VC, T, Nat.reduceMul, Nat.reduceAdd, Nat.reduceSub, Nat.reduceLT, Nat.reduceEqDiff, Nat.reduceLeDiff, Nat.reduceBEq, reduceCtorEq, Int.reduceToNat, ↓reduceIte, rfP, rvP, rhP, frP, elOk_en, elOk_nd, nfx_en, nfx_nd, hsq, c62]; done))); rintro _ _ ⟨rfl, rfl⟩))) <;> (try simp (maxSteps := 1000000) (disch := first | omega | (simp only [LN, numOk, verOk, rfP, rvP, rhP, frP, elOk_en, elOk_nd, nfx_en, nfx_nd, hsq, c62] <;> omega) | exact Ck.mk rfl) only [ee, VC, T, Nat.reduceMul, Nat.reduceAdd, Nat.reduceSub, Nat.reduceLT, Nat.reduceEqDiff, Nat.reduceLeDiff, Nat.reduceBEq, reduceCtorEq, Int.reduceToNat, ↓reduceIte, rfP, rvP, rhP, frP, elOk_en, elOk_nd, nfx_en, nfx_nd, hsq, c62]) <;> (try clear ee))
                refine hN (i + 1, putT (dropT L nm) (to, entT L nm)) _ nx (by simp only; omega) (Im.trans (Im.sub ?_) (Im.trans (Im.ren 8 5632 960 (by rfl) (by rfl) (by decide)) (Im.sub (s' := ⟨89, [(1, .far (S.map .str)), (2, .int .i64 k), (8, .row 5632 (putT (dropT L nm) (to, entT L nm)).length), (9, .int .i64 ((i : Int) + 1))], [(5632, .row ⟨2, 0⟩ ((putT (dropT L nm) (to, entT L nm)).map enP))]⟩) ?_)))
                · (simp (disch := first | omega | (simp only [LN, numOk, verOk, mvH, rn2, rn1] <;> omega) | exact Ck.mk rfl) only [SB, EQ, Nat.reduceMul, Nat.reduceAdd, Nat.reduceSub, Nat.reduceLT, Nat.reduceEqDiff, Nat.reduceLeDiff, Nat.reduceBEq, reduceCtorEq, Int.reduceToNat, ↓reduceIte, mvH, rn2, rn1]; try omega)
                · (simp (disch := first | omega | (simp only [LN, numOk, verOk] <;> omega) | exact Ck.mk rfl) only [SB, EQ, Nat.reduceMul, Nat.reduceAdd, Nat.reduceSub, Nat.reduceLT, Nat.reduceEqDiff, Nat.reduceLeDiff, Nat.reduceBEq, reduceCtorEq, Int.reduceToNat, ↓reduceIte]; try omega)
            · rw [decide_eq_false (show ¬ 0 ≤ placeI L nm from hh)] at hHas
              cases no (h1 (.inr (.inr ⟨c43, hh⟩)))
              refine Wr.go ?_
              repeat' ((first | (have ee := True.intro; refine Wr.mk ?_) | ((first | refine br_go ?_ ?_ | refine pick_go ?_ ?_) <;> intro ee f <;> (try simp only [BB] at f) <;> (try simp only [numOk, verOk] at f)) | (have ee := True.intro; first | refine call_x (hT) rfl ⟨rfl⟩ ?_ | refine call_x (hNm) rfl ⟨rfl⟩ ?_ | (refine call_hx [] [960] (hHas) (by decide) ?_ rfl ?_; (focus (first | rfl | (simp (maxSteps := 1000000) (disch := first | omega | (simp only [LN, numOk, verOk, rfP, rvP, rhP, frP, elOk_en, elOk_nd, nfx_en, nfx_nd, hsq] <;> omega) | exact Ck.mk rfl) only [VC, T, Nat.reduceMul, Nat.reduceAdd, Nat.reduceSub, Nat.reduceLT, Nat.reduceEqDiff, Nat.reduceLeDiff, Nat.reduceBEq, reduceCtorEq, Int.reduceToNat, ↓reduceIte, rfP, rvP, rhP, frP, elOk_en, elOk_nd, nfx_en, nfx_nd, hsq]; done)))))) <;> (try simp (maxSteps := 1000000) (disch := first | omega | (simp only [LN, numOk, verOk, rfP, rvP, rhP, frP, elOk_en, elOk_nd, nfx_en, nfx_nd, hsq] <;> omega) | exact Ck.mk rfl) only [ee, VC, T, Nat.reduceMul, Nat.reduceAdd, Nat.reduceSub, Nat.reduceLT, Nat.reduceEqDiff, Nat.reduceLeDiff, Nat.reduceBEq, reduceCtorEq, Int.reduceToNat, ↓reduceIte, rfP, rvP, rhP, frP, elOk_en, elOk_nd, nfx_en, nfx_nd, hsq]) <;> (try clear ee))
              all_goals first | (exfalso; omega) | exact fin_t [some 3712] (⟨rfl, rfl⟩) rfl (by simp [RV, RV2, RVl, RV1, tau, tget, hget, data1, oneOf]) (by simp [RH, RVl, RV1, tau, hget, data1]) (by simp [Taus, hget])
        · rw [decide_eq_false hnm] at hNm
          cases no (h1 (.inr (.inl hnm)))
          refine Wr.go ?_
          repeat' ((first | (have ee := True.intro; refine Wr.mk ?_) | ((first | refine br_go ?_ ?_ | refine pick_go ?_ ?_) <;> intro ee f <;> (try simp only [BB] at f) <;> (try simp only [numOk, verOk] at f)) | (have ee := True.intro; first | refine call_x (hT) rfl ⟨rfl⟩ ?_ | refine call_x (hNm) rfl ⟨rfl⟩ ?_)) <;> (try simp (maxSteps := 1000000) (disch := first | omega | (simp only [LN, numOk, verOk, rfP, rvP, rhP, frP, elOk_en, elOk_nd, nfx_en, nfx_nd, hsq] <;> omega) | exact Ck.mk rfl) only [ee, VC, T, Nat.reduceMul, Nat.reduceAdd, Nat.reduceSub, Nat.reduceLT, Nat.reduceEqDiff, Nat.reduceLeDiff, Nat.reduceBEq, reduceCtorEq, Int.reduceToNat, ↓reduceIte, rfP, rvP, rhP, frP, elOk_en, elOk_nd, nfx_en, nfx_nd, hsq]) <;> (try clear ee))
          all_goals exact fin_t [some 3712] (⟨rfl, rfl⟩) rfl (by simp [RV, RV2, RVl, RV1, tau, tget, hget, data1, oneOf]) (by simp [RH, RVl, RV1, tau, hget, data1]) (by simp [Taus, hget])
    · refine Wr.go ?_
      repeat' ((first | (have ee := True.intro; refine Wr.mk ?_) | ((first | refine br_go ?_ ?_ | refine pick_go ?_ ?_) <;> intro ee f <;> (try simp only [BB] at f) <;> (try simp only [numOk, verOk] at f))) <;> (try simp (maxSteps := 1000000) (disch := first | omega | (simp only [LN, numOk, verOk, rfP, rvP, rhP, frP, elOk_en, elOk_nd, nfx_en, nfx_nd] <;> omega) | exact Ck.mk rfl) only [ee, VC, T, Nat.reduceMul, Nat.reduceAdd, Nat.reduceSub, Nat.reduceLT, Nat.reduceEqDiff, Nat.reduceLeDiff, Nat.reduceBEq, reduceCtorEq, Int.reduceToNat, ↓reduceIte, rfP, rvP, rhP, frP, elOk_en, elOk_nd, nfx_en, nfx_nd]) <;> (try clear ee))
      obtain rfl : i = k := by omega
      rw [hdk, hen] at hqq
      subst hqq
      exact fin_t [some 960] (⟨rfl, rfl⟩) rfl (by simp [RV, RV2, RVl, RV1, tau, tget, hget, data1, oneOf]) (by simp [RH, RVl, RV1, tau, hget, data1]) (by simp [Taus, hget])
theorem spec_StepsDone (L0 : List Et) (S : List ByteArray) (k : Nat) (hL : L0.length ≤ 1048576) (hS : S.length ≤ 1048576) (hz : ∀ s ∈ S, s.size ≤ 1048576) (hn : ∀ e ∈ L0, e.1.size ≤ 1048576) (hk : k ≤ S.length) : Fn Tryz.prog 117 [.far (L0.map enP), .far (S.map .str), .int .i64 k] [] (.tup [.far ((sgT L0 (S.take k)).1.map enP), .bool (sgT L0 (S.take k)).2]) [] := by
  obtain ⟨_, _, ⟨rfl, rfl⟩, k⟩ := spec_StepsDone_R L0 S k hL hS hz hn hk
  refine k.far ?_
  simp [fz, fz2, fz1, cvtl, elems, hget, data1]
end Go.Pv

/- What functions of the program and of the reference do, in plain values. -/
namespace Go.Pv
open Go.Proofs Go.Mth
set_option linter.unusedSimpArgs false
set_option linter.unusedVariables false
set_option maxHeartbeats 4000000
set_option maxRecDepth 4000

/-! ### the reference's deeds on disks: right disks -/
def entB (d : Dk) (L : List Et) (i : Nat) : Prop := nmOk (L.getD i default).1 ∧ 0 ≤ nodeI d.1 (L.getD i default).2 ∧ (0 < i → sLt (L.getD (i - 1) default).1 (L.getD i default).1 = true)
def ndB (d : Dk) (i : Nat) : Prop := (1 ≤ (d.1.getD i default).1 ∧ (d.1.getD i default).1 ≤ d.2.2.2.2.2 - 1) ∧ (0 ≤ (d.1.getD i default).2.2 ∧ (d.1.getD i default).2.2 ≤ (d.1.getD i default).2.1.size) ∧ (0 < i → (d.1.getD (i - 1) default).1 < (d.1.getD i default).1)
def skB (d : Dk) (k : Nat) : Prop := (stepsT d k).2 = true ∧ entsOk d (stepsT d k).1 ∧ (k = d.2.2.2.1.length → (stepsT d k).1 = d.2.1)
theorem spec_l05Entries (d : Dk) (L : List Et) (h : DkOk d) (hl : L.length ≤ 16777216) (hz : ∀ e ∈ L, e.1.size ≤ 1048576) : Fn Tryz.prog 118 [dkP d, .far (L.map enP)] [] (.bool (decide (entsOk d L))) [] := by
  have hNd := fun k => spec_l05Node d k (by have := h.ns; omega)
  have hlast : (∀ i : Nat, i < L.length → entB d L i) → entsOk d L = ((L.length : Int) ≤ 16) := fun h => propext ⟨fun q => by have := q.2; omega, fun q => ⟨h, by omega⟩⟩
  have hno : ∀ i : Nat, i < L.length → ¬ entB d L i → entsOk d L = False := fun i hi h => propext ⟨fun q => h (q.1 i hi), False.elim⟩
  have hB : ∀ i, entB d L i = (nmOk (L.getD i default).1 ∧ 0 ≤ nodeI d.1 (L.getD i default).2 ∧ (0 < i → sLt (L.getD (i - 1) default).1 (L.getD i default).1 = true)) := fun i => rfl
  unfold dkP at *
  refine fn_x tok (n := 50) (rs := [.tmp 4]) Tryz.func118 (by decide) rfl rfl rfl rfl ?_
  refine Wr.go ?_
  repeat' ((first | (have ee := True.intro; refine Wr.mk ?_) | ((first | refine br_go ?_ ?_ | refine pick_go ?_ ?_) <;> intro ee f <;> (try simp only [BB] at f) <;> (try simp only [numOk, verOk] at f))) <;> (try simp (maxSteps := 1000000) (disch := first | omega | (simp only [LN, numOk, verOk, rfP, rvP, rhP, frP, elOk_en, elOk_nd, nfx_en, nfx_nd] <;> omega) | exact Ck.mk rfl) only [ee, VC, T, Nat.reduceMul, Nat.reduceAdd, Nat.reduceSub, Nat.reduceLT, Nat.reduceEqDiff, Nat.reduceLeDiff, Nat.reduceBEq, reduceCtorEq, Int.reduceToNat, ↓reduceIte, rfP, rvP, rhP, frP, elOk_en, elOk_nd, nfx_en, nfx_nd]) <;> (try clear ee))
  refine lp_go (fun i : Nat => ⟨50, [(1, .far (L.map enP)), (2, .ref 192 0), (5, .int .i64 i)], [(192, .box 32 [.far (d.1.map ndP), .far (d.2.1.map enP), .far (d.2.2.1.map enP), .far (d.2.2.2.1.map .str), .int .i64 d.2.2.2.2.1, .int .i64 d.2.2.2.2.2])]⟩) (fun i => i ≤ L.length ∧ ∀ j : Nat, j < i → entB d L j) (fun i => L.length - i) 0 ?_ ⟨Nat.zero_le _, fun j h => by omega⟩ ?_
  · (simp (disch := first | omega | (simp only [LN, numOk, verOk] <;> omega) | exact Ck.mk rfl) only [SB, EQ, Nat.reduceMul, Nat.reduceAdd, Nat.reduceSub, Nat.reduceLT, Nat.reduceEqDiff, Nat.reduceLeDiff, Nat.reduceBEq, reduceCtorEq, Int.reduceToNat, ↓reduceIte]; try omega)
    try rfl
  · rintro i ⟨h1, h2⟩ N hN
    have hg : ∀ j, j < L.length → (L.map enP).getD j .junk = .agg [.str (L.getD j default).1, .int .i64 (L.getD j default).2] := fun j h => by
      rw [List.getD_eq_getElem?_getD, List.getElem?_map, List.getElem?_eq_getElem h, List.getD_eq_getElem?_getD, List.getElem?_eq_getElem h]; rfl
    have hnx : entB d L i → ∀ j : Nat, j < i + 1 → entB d L j := fun h j hj => by
      by_cases e : j = i
      · rw [e]; exact h
      · exact h2 j (by omega)
    have hj : 0 < (i : Int) → ((i : Int) - 1).toNat = i - 1 := fun h => by omega
    by_cases hi : i < L.length
    · have hN1 := spec_NameOk (L.getD i default).1 (by have := hz _ (List.getElem_mem hi); rw [List.getD_eq_getElem?_getD, List.getElem?_eq_getElem hi]; simp only [Option.getD_some]; omega)
      have hno := hno i hi
      have hB := hB i
      unfold sLt at hB
      refine Wr.go ?_
      repeat' ((first | (have ee := True.intro; refine Wr.mk ?_) | ((first | refine br_go ?_ ?_ | refine pick_go ?_ ?_) <;> intro ee f <;> (try simp only [BB] at f) <;> (try simp only [numOk, verOk] at f)) | (have ee := True.intro; first | refine dr_go mixed (id := 4) [([], [1], []), ([], [5], []), ([0, 1], [12, 13], []), ([0, 1, 2], [14], []), ([0, 1, 2, 3], [15], []), ([0, 1, 2, 3, 4], [16], []), ([0, 1, 2, 3, 4, 5], [17], []), ([0, 1, 2, 3, 4, 5, 6], [18], []), ([0, 1, 2, 3, 4, 5, 6, 7], [2, 19], []), ([0, 1, 2, 3, 4, 5, 6, 7], [1, 19], []), ([0, 1, 2, 3, 4, 5, 6, 7], [5, 19], []), ([0, 1, 2, 3, 4, 5, 6, 7, 9, 10], [19, 21, 22], []), ([0, 1, 2, 3, 4, 5, 6, 7, 9, 10, 11], [19, 23], []), ([0, 1, 2, 3, 4, 5, 6, 7, 9, 10, 11, 12], [19, 24], []), ([0, 1, 2, 3, 4, 5, 6, 7, 8, 9, 10, 11, 12, 13], [19, 20, 25], []), ([0, 1, 2, 3, 4, 5, 6, 7, 8, 9, 10, 11, 12, 13, 14], [19, 26], []), ([0, 1, 2, 3, 4, 5, 6, 7, 8, 9, 10, 11, 12, 13, 14, 15], [19, 27], []), ([0, 1, 2, 3, 4, 5, 6, 7, 8, 9, 10, 11, 12, 13, 14, 15, 16], [28], []), ([0, 1, 2, 3, 4, 5, 6, 7, 8, 9, 10, 11, 12, 13, 14, 15, 16, 17], [5, 29], []), ([0, 1, 2, 3, 4, 5, 6, 7, 8, 9, 10, 11, 12, 13, 14, 15, 16, 17, 18], [29, 30], []), ([0, 1, 2, 3, 4, 5, 6, 7, 8, 9, 10, 11, 12, 13, 14, 15, 16, 17, 18, 19], [29, 31], []), ([0, 1, 2, 3, 4, 5, 6, 7, 8, 9, 10, 11, 12, 13, 14, 15, 16, 17, 18, 19, 20], [1, 32], []), ([0, 1, 2, 3, 4, 5, 6, 7, 8, 9, 10, 11, 12, 13, 14, 15, 16, 17, 18, 19, 20], [5, 32], []), ([0, 1, 2, 3, 4, 5, 6, 7, 8, 9, 10, 11, 12, 13, 14, 15, 16, 17, 18, 19, 20, 22], [32, 34], []), ([0, 1, 2, 3, 4, 5, 6, 7, 8, 9, 10, 11, 12, 13, 14, 15, 16, 17, 18, 19, 20, 21, 22, 23], [32, 33, 35], []), ([0, 1, 2, 3, 4, 5, 6, 7, 8, 9, 10, 11, 12, 13, 14, 15, 16, 17, 18, 19, 20, 21, 22, 23, 24], [32, 36], []), ([0, 1, 2, 3, 4, 5, 6, 7, 8, 9, 10, 11, 12, 13, 14, 15, 16, 17, 18, 19, 20, 21, 22, 23, 24, 25], [32, 37], []), ([0, 1, 2, 3, 4, 5, 6, 7, 8, 9, 10, 11, 12, 13, 14, 15, 16, 17, 18, 19, 20], [1, 32], []), ([0, 1, 2, 3, 4, 5, 6, 7, 8, 9, 10, 11, 12, 13, 14, 15, 16, 17, 18, 19, 20], [5, 32], []), ([0, 1, 2, 3, 4, 5, 6, 7, 8, 9, 10, 11, 12, 13, 14, 15, 16, 17, 18, 19, 20, 27, 28], [32, 39, 40], []), ([0, 1, 2, 3, 4, 5, 6, 7, 8, 9, 10, 11, 12, 13, 14, 15, 16, 17, 18, 19, 20, 27, 28, 29], [32, 41], []), ([0, 1, 2, 3, 4, 5, 6, 7, 8, 9, 10, 11, 12, 13, 14, 15, 16, 17, 18, 19, 20, 27, 28, 29, 30], [32, 42], []), ([0, 1, 2, 3, 4, 5, 6, 7, 8, 9, 10, 11, 12, 13, 14, 15, 16, 17, 18, 19, 20, 21, 22, 23, 24, 25, 26, 27, 28, 29, 30, 31], [32, 38, 43], []), ([0, 1, 2, 3, 4, 5, 6, 7, 8, 9, 10, 11, 12, 13, 14, 15, 16, 17, 18, 19, 20, 21, 22, 23, 24, 25, 26, 27, 28, 29, 30, 31, 32], [29, 32, 44], []), ([0, 1, 2, 3, 4, 5, 6, 7, 8, 9, 10, 11, 12, 13, 14, 15, 16, 17, 18, 19, 20, 21, 22, 23, 24, 25, 26, 27, 28, 29, 30, 31, 32, 33], [29, 45], [])] rfl rfl rfl ?_ | refine call_x (hN1) rfl ⟨rfl⟩ ?_ | refine call_x (hNd _) rfl ⟨rfl⟩ ?_)) <;> (try simp (maxSteps := 1000000) (disch := first | omega | (simp only [LN, numOk, verOk, rfP, rvP, rhP, frP, elOk_en, elOk_nd, nfx_en, nfx_nd, hg] <;> omega) | exact Ck.mk rfl) only [ee, VC, T, Nat.reduceMul, Nat.reduceAdd, Nat.reduceSub, Nat.reduceLT, Nat.reduceEqDiff, Nat.reduceLeDiff, Nat.reduceBEq, reduceCtorEq, Int.reduceToNat, ↓reduceIte, rfP, rvP, rhP, frP, elOk_en, elOk_nd, nfx_en, nfx_nd, hg]) <;> (try clear ee))
      · have e := hno (by rw [hB]; rintro ⟨_, q, _⟩; omega)
        simp only [e, decide_false]
      · rename_i g1 g2 g3
        rw [hj g3] at f
        refine hN (i + 1) _ ⟨by omega, hnx (by rw [hB]; exact ⟨g1, g2, fun _ => f⟩)⟩ (by omega) ?_
        (simp (disch := first | omega | (simp only [LN, numOk, verOk] <;> omega) | exact Ck.mk rfl) only [SB, EQ, Nat.reduceMul, Nat.reduceAdd, Nat.reduceSub, Nat.reduceLT, Nat.reduceEqDiff, Nat.reduceLeDiff, Nat.reduceBEq, reduceCtorEq, Int.reduceToNat, ↓reduceIte]; try omega)
        try rfl
      · rename_i g1 g2 g3
        rw [hj g3] at f
        have e := hno (by rw [hB]; rintro ⟨_, _, q⟩; rw [q (by omega)] at f; exact Bool.noConfusion f)
        simp only [e, decide_false]
      · rename_i g1 g2
        refine hN (i + 1) _ ⟨by omega, hnx (by rw [hB]; exact ⟨g1, g2, fun _ => by omega⟩)⟩ (by omega) ?_
        (simp (disch := first | omega | (simp only [LN, numOk, verOk] <;> omega) | exact Ck.mk rfl) only [SB, EQ, Nat.reduceMul, Nat.reduceAdd, Nat.reduceSub, Nat.reduceLT, Nat.reduceEqDiff, Nat.reduceLeDiff, Nat.reduceBEq, reduceCtorEq, Int.reduceToNat, ↓reduceIte]; try omega)
        try rfl
      · have e := hno (by rw [hB]; exact fun q => f q.1)
        simp only [e, decide_false]
    · obtain rfl : i = L.length := by omega
      have hlast := hlast h2
      refine Wr.go ?_
      repeat' ((first | (have ee := True.intro; refine Wr.mk ?_) | ((first | refine br_go ?_ ?_ | refine pick_go ?_ ?_) <;> intro ee f <;> (try simp only [BB] at f) <;> (try simp only [numOk, verOk] at f))) <;> (try simp (maxSteps := 1000000) (disch := first | omega | (simp only [LN, numOk, verOk, rfP, rvP, rhP, frP, elOk_en, elOk_nd, nfx_en, nfx_nd] <;> omega) | exact Ck.mk rfl) only [ee, VC, T, Nat.reduceMul, Nat.reduceAdd, Nat.reduceSub, Nat.reduceLT, Nat.reduceEqDiff, Nat.reduceLeDiff, Nat.reduceBEq, reduceCtorEq, Int.reduceToNat, ↓reduceIte, rfP, rvP, rhP, frP, elOk_en, elOk_nd, nfx_en, nfx_nd]) <;> (try clear ee))
      simp only [hlast]
theorem spec_DiskOk (d : Dk) (h : DkOk d) : Fn Tryz.prog 61 [dkP d] [] (.bool (decide (diskOk d))) [] := by
  have hU := spec_UsedOn d h
  have hSD := fun k hk => spec_StepsDone d.2.2.1 d.2.2.2.1 k h.os h.ss h.st h.ot hk
  have hEn := fun L hl hz => spec_l05Entries d L h hl hz
  have hsg : ∀ k, (stepsT d k).1.length ≤ d.2.2.1.length + (d.2.2.2.1.take k).length ∧ ∀ e ∈ (stepsT d k).1, e.1.size ≤ 1048576 := fun k => sgT_le 1048576 (d.2.2.2.1.take k) d.2.2.1 h.ot (fun s hs => h.st s (List.mem_of_mem_take hs))
  have hst : ∀ k, sgT d.2.2.1 (d.2.2.2.1.take k) = stepsT d k := fun k => rfl
  have hes := h.es
  have hns := h.ns
  have hss := h.ss
  have hos := h.os
  have n1 : ¬ (d.1.length ≤ 64 ∧ (0 ≤ d.2.2.2.2.1 ∧ d.2.2.2.2.1 ≤ 1000000000) ∧ (1 ≤ d.2.2.2.2.2 ∧ d.2.2.2.2.2 ≤ 1000000000) ∧ usedT d ≤ d.2.2.2.2.1) → diskOk d = False := fun q => propext ⟨fun k => q k.1, False.elim⟩
  have n2 : ∀ i : Nat, i < d.1.length → ¬ ndB d i → diskOk d = False := fun i hi q => propext ⟨fun k => q (k.2.1 i hi), False.elim⟩
  have n3 : ∀ i : Nat, i < d.2.2.2.1.length + 1 → ¬ skB d i → diskOk d = False := fun i hi q => propext ⟨fun k => q (k.2.2 i hi), False.elim⟩
  have n4 : (d.1.length ≤ 64 ∧ (0 ≤ d.2.2.2.2.1 ∧ d.2.2.2.2.1 ≤ 1000000000) ∧ (1 ≤ d.2.2.2.2.2 ∧ d.2.2.2.2.2 ≤ 1000000000) ∧ usedT d ≤ d.2.2.2.2.1) → (∀ i : Nat, i < d.1.length → ndB d i) → (∀ i : Nat, i < d.2.2.2.1.length + 1 → skB d i) → diskOk d = True := fun a b c => propext ⟨fun _ => trivial, fun _ => ⟨a, b, c⟩⟩
  have hB1 : ∀ i, ndB d i = ((1 ≤ (d.1.getD i default).1 ∧ (d.1.getD i default).1 ≤ d.2.2.2.2.2 - 1) ∧ (0 ≤ (d.1.getD i default).2.2 ∧ (d.1.getD i default).2.2 ≤ (d.1.getD i default).2.1.size) ∧ (0 < i → (d.1.getD (i - 1) default).1 < (d.1.getD i default).1)) := fun i => rfl
  have hB2 : ∀ k, skB d k = ((stepsT d k).2 = true ∧ entsOk d (stepsT d k).1 ∧ (k = d.2.2.2.1.length → (stepsT d k).1 = d.2.1)) := fun k => rfl
  unfold dkP at *
  refine fn_x tok (n := 113) (rs := [.tmp 2]) Tryz.func61 (by decide) rfl rfl rfl rfl ?_
  refine Wr.go ?_
  repeat' ((first | (have ee := True.intro; refine Wr.mk ?_) | ((first | refine br_go ?_ ?_ | refine pick_go ?_ ?_) <;> intro ee f <;> (try simp only [BB] at f) <;> (try simp only [numOk, verOk] at f)) | (have ee := True.intro; first | refine dr_go mixed (id := 1) [([], [1], []), ([0], [8], []), ([0, 1], [9], []), ([0, 1, 2], [10], []), ([0, 1, 2, 3], [11], []), ([0, 1, 2, 3, 4], [1, 12], []), ([0, 1, 2, 3, 4, 5], [12, 13], []), ([0, 1, 2, 3, 4, 5, 6], [12, 14], []), ([0, 1, 2, 3, 4, 5, 6, 7], [12, 15], []), ([0, 1, 2, 3, 4, 5, 6, 7, 8], [12, 16], []), ([0, 1, 2, 3, 4, 5, 6, 7, 8, 9], [17], []), ([0, 1, 2, 3, 4, 5, 6, 7, 8, 9, 10], [1, 18], []), ([0, 1, 2, 3, 4, 5, 6, 7, 8, 9, 10, 11], [18, 19], []), ([0, 1, 2, 3, 4, 5, 6, 7, 8, 9, 10, 11, 12], [18, 20], []), ([0, 1, 2, 3, 4, 5, 6, 7, 8, 9, 10, 11, 12, 13], [18, 21], []), ([0, 1, 2, 3, 4, 5, 6, 7, 8, 9, 10, 11, 12, 13, 14], [18, 22], []), ([0, 1, 2, 3, 4, 5, 6, 7, 8, 9, 10, 11, 12, 13, 14, 15], [23], []), ([0, 1, 2, 3, 4, 5, 6, 7, 8, 9, 10, 11, 12, 13, 14, 15, 16], [1, 24], []), ([0, 1, 2, 3, 4, 5, 6, 7, 8, 9, 10, 11, 12, 13, 14, 15, 16, 17], [24, 25], []), ([0, 1, 2, 3, 4, 5, 6, 7, 8, 9, 10, 11, 12, 13, 14, 15, 16], [1, 24], []), ([0, 1, 2, 3, 4, 5, 6, 7, 8, 9, 10, 11, 12, 13, 14, 15, 16, 19], [24, 27], []), ([0, 1, 2, 3, 4, 5, 6, 7, 8, 9, 10, 11, 12, 13, 14, 15, 16, 17, 18, 19, 20], [24, 26, 28], []), ([0, 1, 2, 3, 4, 5, 6, 7, 8, 9, 10, 11, 12, 13, 14, 15, 16, 17, 18, 19, 20, 21], [24, 29], [])] rfl rfl rfl ?_ | refine call_x (spec_l01In _ _ _) rfl ⟨rfl⟩ ?_ | refine call_x (hU) rfl ⟨rfl⟩ ?_)) <;> (try simp (maxSteps := 1000000) (disch := first | omega | (simp only [LN, numOk, verOk, rfP, rvP, rhP, frP, elOk_en, elOk_nd, nfx_en, nfx_nd] <;> omega) | exact Ck.mk rfl) only [ee, VC, T, Nat.reduceMul, Nat.reduceAdd, Nat.reduceSub, Nat.reduceLT, Nat.reduceEqDiff, Nat.reduceLeDiff, Nat.reduceBEq, reduceCtorEq, Int.reduceToNat, ↓reduceIte, rfP, rvP, rhP, frP, elOk_en, elOk_nd, nfx_en, nfx_nd]) <;> (try clear ee))
  case' refine_2.refine_1.refine_1.refine_2 =>
    rename_i g1 g2 g3
    have n4 := n4 ⟨by omega, g2, g3, f⟩
    refine lp_go (fun i : Nat => ⟨113, [(1, .ref 128 0), (3, .int .i64 i)], [(128, .box 32 [.far (d.1.map ndP), .far (d.2.1.map enP), .far (d.2.2.1.map enP), .far (d.2.2.2.1.map .str), .int .i64 d.2.2.2.2.1, .int .i64 d.2.2.2.2.2])]⟩) (fun i => i ≤ d.1.length ∧ ∀ j : Nat, j < i → ndB d j) (fun i => d.1.length - i) 0 ?_ ⟨Nat.zero_le _, fun j h => by omega⟩ ?_
    · (simp (disch := first | omega | (simp only [LN, numOk, verOk] <;> omega) | exact Ck.mk rfl) only [SB, EQ, Nat.reduceMul, Nat.reduceAdd, Nat.reduceSub, Nat.reduceLT, Nat.reduceEqDiff, Nat.reduceLeDiff, Nat.reduceBEq, reduceCtorEq, Int.reduceToNat, ↓reduceIte]; try omega)
      try rfl
    · rintro i ⟨h1, h2⟩ N hN
      have hg : ∀ j, j < d.1.length → (d.1.map ndP).getD j .junk = .agg [.int .i64 (d.1.getD j default).1, .str (d.1.getD j default).2.1, .int .i64 (d.1.getD j default).2.2] := fun j h => by
        rw [List.getD_eq_getElem?_getD, List.getElem?_map, List.getElem?_eq_getElem h, List.getD_eq_getElem?_getD, List.getElem?_eq_getElem h]; rfl
      have hnx : ndB d i → ∀ j : Nat, j < i + 1 → ndB d j := fun h j hj => by
        by_cases e : j = i
        · rw [e]; exact h
        · exact h2 j (by omega)
      have hj : ((i : Int) - 1).toNat = i - 1 := by omega
      have hB := hB1 i
      have n2 := n2 i
      by_cases hi : i < d.1.length
      · have n2 := n2 hi
        refine Wr.go ?_
        repeat' ((first | (have ee := True.intro; refine Wr.mk ?_) | ((first | refine br_go ?_ ?_ | refine pick_go ?_ ?_) <;> intro ee f <;> (try simp only [BB] at f) <;> (try simp only [numOk, verOk] at f)) | (have ee := True.intro; first | refine dr_go mixed (id := 7) [([], [4], []), ([0], [43], []), ([], [1], []), ([2], [45], []), ([2, 3], [46], []), ([0, 1, 2, 3, 4], [44, 47], []), ([0, 1, 2, 3, 4, 5], [48], []), ([0, 1, 2, 3, 4, 5, 6], [49], []), ([0, 1, 2, 3, 4, 5, 6, 7], [3, 50], []), ([0, 1, 2, 3, 4, 5, 6, 7, 8], [50, 51], []), ([0, 1, 2, 3, 4, 5, 6, 7, 8, 9], [50, 52], []), ([0, 1, 2, 3, 4, 5, 6, 7, 8, 9, 10], [1, 53], []), ([0, 1, 2, 3, 4, 5, 6, 7, 8, 9, 10, 11], [53, 54], []), ([0, 1, 2, 3, 4, 5, 6, 7, 8, 9, 10], [3, 53], []), ([0, 1, 2, 3, 4, 5, 6, 7, 8, 9, 10, 13], [53, 56], []), ([0, 1, 2, 3, 4, 5, 6, 7, 8, 9, 10, 11, 12, 13, 14], [53, 55, 57], []), ([0, 1, 2, 3, 4, 5, 6, 7, 8, 9, 10, 11, 12, 13, 14, 15], [53, 58], []), ([0, 1, 2, 3, 4, 5, 6, 7, 8, 9, 10, 11, 12, 13, 14, 15, 16], [53, 59], []), ([0, 1, 2, 3, 4, 5, 6, 7, 8, 9, 10], [4, 53], []), ([0, 1, 2, 3, 4, 5, 6, 7, 8, 9, 10, 18], [53, 61], []), ([0, 1, 2, 3, 4, 5, 6, 7, 8, 9, 10, 11, 12, 13, 14, 15, 16, 17, 18, 19], [53, 60, 62], []), ([0, 1, 2, 3, 4, 5, 6, 7, 8, 9, 10, 11, 12, 13, 14, 15, 16, 17, 18, 19, 20], [50, 53, 63], []), ([0, 1, 2, 3, 4, 5, 6, 7, 8, 9, 10, 11, 12, 13, 14, 15, 16, 17, 18, 19, 20, 21], [50, 64], []), ([0, 1, 2, 3, 4, 5, 6, 7, 8, 9, 10, 11, 12, 13, 14, 15, 16, 17, 18, 19, 20, 21, 22], [65], []), ([0, 1, 2, 3, 4, 5, 6, 7, 8, 9, 10, 11, 12, 13, 14, 15, 16, 17, 18, 19, 20, 21, 22, 23], [4, 66], []), ([0, 1, 2, 3, 4, 5, 6, 7, 8, 9, 10, 11, 12, 13, 14, 15, 16, 17, 18, 19, 20, 21, 22, 23, 24], [66, 67], []), ([0, 1, 2, 3, 4, 5, 6, 7, 8, 9, 10, 11, 12, 13, 14, 15, 16, 17, 18, 19, 20, 21, 22, 23], [4, 66], []), ([0, 1, 2, 3, 4, 5, 6, 7, 8, 9, 10, 11, 12, 13, 14, 15, 16, 17, 18, 19, 20, 21, 22, 23, 26], [66, 69], []), ([0, 1, 2, 3, 4, 5, 6, 7, 8, 9, 10, 11, 12, 13, 14, 15, 16, 17, 18, 19, 20, 21, 22, 23, 26, 27], [66, 70], []), ([0, 1, 2, 3, 4, 5, 6, 7, 8, 9, 10, 11, 12, 13, 14, 15, 16, 17, 18, 19, 20, 21, 22, 23, 24, 25, 26, 27, 28], [66, 68, 71], []), ([0, 1, 2, 3, 4, 5, 6, 7, 8, 9, 10, 11, 12, 13, 14, 15, 16, 17, 18, 19, 20, 21, 22, 23, 24, 25, 26, 27, 28, 29], [66, 72], []), ([0, 1, 2, 3, 4, 5, 6, 7, 8, 9, 10, 11, 12, 13, 14, 15, 16, 17, 18, 19, 20, 21, 22, 23, 24, 25, 26, 27, 28, 29, 30], [66, 73], [])] rfl rfl rfl ?_ | refine call_x (spec_l01In _ _ _) rfl ⟨rfl⟩ ?_)) <;> (try simp (maxSteps := 1000000) (disch := first | omega | (simp only [LN, numOk, verOk, rfP, rvP, rhP, frP, elOk_en, elOk_nd, nfx_en, nfx_nd, hg, hj] <;> omega) | exact Ck.mk rfl) only [ee, VC, T, Nat.reduceMul, Nat.reduceAdd, Nat.reduceSub, Nat.reduceLT, Nat.reduceEqDiff, Nat.reduceLeDiff, Nat.reduceBEq, reduceCtorEq, Int.reduceToNat, ↓reduceIte, rfP, rvP, rhP, frP, elOk_en, elOk_nd, nfx_en, nfx_nd, hg, hj]) <;> (try clear ee))
        all_goals first
          | (refine hN (i + 1) _ ⟨by omega, hnx (by rw [hB]; omega)⟩ (by omega) ?_
             (simp (disch := first | omega | (simp only [LN, numOk, verOk] <;> omega) | exact Ck.mk rfl) only [SB, EQ, Nat.reduceMul, Nat.reduceAdd, Nat.reduceSub, Nat.reduceLT, Nat.reduceEqDiff, Nat.reduceLeDiff, Nat.reduceBEq, reduceCtorEq, Int.reduceToNat, ↓reduceIte]; try omega)
             try rfl)
          | (have e := n2 (by rw [hB]; omega)
             simp only [e, decide_false])
      · obtain rfl : i = d.1.length := by omega
        have n4 := n4 h2
        refine Wr.go ?_
        repeat' ((first | (have ee := True.intro; refine Wr.mk ?_) | ((first | refine br_go ?_ ?_ | refine pick_go ?_ ?_) <;> intro ee f <;> (try simp only [BB] at f) <;> (try simp only [numOk, verOk] at f))) <;> (try simp (maxSteps := 1000000) (disch := first | omega | (simp only [LN, numOk, verOk, rfP, rvP, rhP, frP, elOk_en, elOk_nd, nfx_en, nfx_nd] <;> omega) | exact Ck.mk rfl) only [ee, VC, T, Nat.reduceMul, Nat.reduceAdd, Nat.reduceSub, Nat.reduceLT, Nat.reduceEqDiff, Nat.reduceLeDiff, Nat.reduceBEq, reduceCtorEq, Int.reduceToNat, ↓reduceIte, rfP, rvP, rhP, frP, elOk_en, elOk_nd, nfx_en, nfx_nd]) <;> (try clear ee))
        refine lp_go (fun i : Nat => ⟨113, [(1, .ref 128 0), (5, .int .i64 i)], [(128, .box 32 [.far (d.1.map ndP), .far (d.2.1.map enP), .far (d.2.2.1.map enP), .far (d.2.2.2.1.map .str), .int .i64 d.2.2.2.2.1, .int .i64 d.2.2.2.2.2])]⟩) (fun i => i ≤ d.2.2.2.1.length + 1 ∧ ∀ j : Nat, j < i → skB d j) (fun i => d.2.2.2.1.length + 1 - i) 0 ?_ ⟨Nat.zero_le _, fun j h => by omega⟩ ?_
        · (simp (disch := first | omega | (simp only [LN, numOk, verOk] <;> omega) | exact Ck.mk rfl) only [SB, EQ, Nat.reduceMul, Nat.reduceAdd, Nat.reduceSub, Nat.reduceLT, Nat.reduceEqDiff, Nat.reduceLeDiff, Nat.reduceBEq, reduceCtorEq, Int.reduceToNat, ↓reduceIte]; try omega)
          try rfl
        · rintro k ⟨h3, h4⟩ N hN
          have hkx : skB d k → ∀ j : Nat, j < k + 1 → skB d j := fun h j hj => by
            by_cases e : j = k
            · rw [e]; exact h
            · exact h4 j (by omega)
          have n3 := n3 k
          have hB2 := hB2 k
          by_cases hk : k ≤ d.2.2.2.1.length
          · have hS := hSD k (by omega)
            rw [hst] at hS
            have hsg := hsg k
            rw [List.length_take] at hsg
            have n3 := n3 (by omega)
            generalize stepsT d k = p at *
            obtain ⟨L, ok⟩ := p
            simp only at *
            have hE := hEn L (by omega) hsg.2
            have hSm := spec_l06Same L d.2.1 (by omega)
            refine Wr.go ?_
            repeat' ((first | (have ee := True.intro; refine Wr.mk ?_) | ((first | refine br_go ?_ ?_ | refine pick_go ?_ ?_) <;> intro ee f <;> (try simp only [BB] at f) <;> (try simp only [numOk, verOk] at f)) | (have ee := True.intro; first | refine call_x (hS) rfl ⟨rfl⟩ ?_ | refine call_x (hE) rfl ⟨rfl⟩ ?_ | refine call_x (hSm) rfl ⟨rfl⟩ ?_)) <;> (try simp (maxSteps := 1000000) (disch := first | omega | (simp only [LN, numOk, verOk, rfP, rvP, rhP, frP, elOk_en, elOk_nd, nfx_en, nfx_nd] <;> omega) | exact Ck.mk rfl) only [ee, VC, T, Nat.reduceMul, Nat.reduceAdd, Nat.reduceSub, Nat.reduceLT, Nat.reduceEqDiff, Nat.reduceLeDiff, Nat.reduceBEq, reduceCtorEq, Int.reduceToNat, ↓reduceIte, rfP, rvP, rhP, frP, elOk_en, elOk_nd, nfx_en, nfx_nd]) <;> (try clear ee))
            · rename_i g1 g2 g3
              refine hN (k + 1) _ ⟨by omega, hkx (by rw [hB2]; exact ⟨g1, g2, fun _ => f⟩)⟩ (by omega) ?_
              (simp (disch := first | omega | (simp only [LN, numOk, verOk] <;> omega) | exact Ck.mk rfl) only [SB, EQ, Nat.reduceMul, Nat.reduceAdd, Nat.reduceSub, Nat.reduceLT, Nat.reduceEqDiff, Nat.reduceLeDiff, Nat.reduceBEq, reduceCtorEq, Int.reduceToNat, ↓reduceIte]; try omega)
              try rfl
            · rename_i g1 g2 g3
              have e := n3 (by rw [hB2]; rintro ⟨_, _, q⟩; exact f (q (by omega)))
              simp only [e, decide_false]
            · rename_i g1 g2
              refine hN (k + 1) _ ⟨by omega, hkx (by rw [hB2]; exact ⟨g1, g2, fun h => absurd h (by omega)⟩)⟩ (by omega) ?_
              (simp (disch := first | omega | (simp only [LN, numOk, verOk] <;> omega) | exact Ck.mk rfl) only [SB, EQ, Nat.reduceMul, Nat.reduceAdd, Nat.reduceSub, Nat.reduceLT, Nat.reduceEqDiff, Nat.reduceLeDiff, Nat.reduceBEq, reduceCtorEq, Int.reduceToNat, ↓reduceIte]; try omega)
              try rfl
            · have e := n3 (by rw [hB2]; exact fun q => f q.2.1)
              simp only [e, decide_false]
            · have e := n3 (by rw [hB2]; rintro ⟨q, _⟩; rw [f] at q; exact Bool.noConfusion q)
              simp only [e, decide_false]
          · obtain rfl : k = d.2.2.2.1.length + 1 := by omega
            have e := n4 h4
            refine Wr.go ?_
            repeat' ((first | (have ee := True.intro; refine Wr.mk ?_) | ((first | refine br_go ?_ ?_ | refine pick_go ?_ ?_) <;> intro ee f <;> (try simp only [BB] at f) <;> (try simp only [numOk, verOk] at f))) <;> (try simp (maxSteps := 1000000) (disch := first | omega | (simp only [LN, numOk, verOk, rfP, rvP, rhP, frP, elOk_en, elOk_nd, nfx_en, nfx_nd] <;> omega) | exact Ck.mk rfl) only [ee, VC, T, Nat.reduceMul, Nat.reduceAdd, Nat.reduceSub, Nat.reduceLT, Nat.reduceEqDiff, Nat.reduceLeDiff, Nat.reduceBEq, reduceCtorEq, Int.reduceToNat, ↓reduceIte, rfP, rvP, rhP, frP, elOk_en, elOk_nd, nfx_en, nfx_nd]) <;> (try clear ee))
            simp only [e, decide_true]
  all_goals
    have e := n1 (by omega)
    simp only [e, decide_false]
end Go.Pv

/- What functions of the program and of the reference do, in plain values. -/
namespace Go.Pv
open Go.Proofs Go.Mth
set_option linter.unusedSimpArgs false
set_option linter.unusedVariables false
set_option maxHeartbeats 4000000
set_option maxRecDepth 4000

end Go.Pv

/- What functions of the program and of the reference do, in plain values. -/
namespace Go.Pv
open Go.Proofs Go.Mth
set_option linter.unusedSimpArgs false
set_option linter.unusedVariables false
set_option maxHeartbeats 4000000
set_option maxRecDepth 4000

end Go.Pv

/- What functions of the program and of the reference do, in plain values. -/
namespace Go.Pv
open Go.Proofs Go.Mth
set_option linter.unusedSimpArgs false
set_option linter.unusedVariables false
set_option maxHeartbeats 4000000
set_option maxRecDepth 4000

/-- A disk whose rows are one's own, from the key K on. -/
def dkR (K : Nat) (d : Dk) : PV := .agg [.row K d.1.length, .row (K + 1) d.2.1.length, .row (K + 2) d.2.2.1.length, .row (K + 3) d.2.2.2.1.length, .int .i64 d.2.2.2.2.1, .int .i64 d.2.2.2.2.2]
def dkH (d : Dk) : Hp := [(64, .row ⟨3, 0⟩ (d.1.map ndP)), (65, .row ⟨2, 0⟩ (d.2.1.map enP)), (66, .row ⟨2, 0⟩ (d.2.2.1.map enP)), (67, .row ⟨1, 0⟩ (d.2.2.2.1.map .str))]
end Go.Pv

/- What functions of the program and of the reference do, in plain values. -/
namespace Go.Pv
open Go.Proofs Go.Mth
set_option linter.unusedSimpArgs false
set_option linter.unusedVariables false
set_option maxHeartbeats 4000000
set_option maxRecDepth 4000

/-! ### the reference's deeds on disks: copies, nodes that nothing stands for -/
theorem spec_l05Copy_R (d : Dk) (h : DkOk d) : FnE Tryz.prog 93 [dkP d] [] (fun r m => r = dkR 64 d ∧ m = dkH d) := by
  have h1 := h.ns
  have h2 := h.es
  have h3 := h.os
  have h4 := h.ss
  unfold dkP
  refine fn_e tok (n := 24) (rs := [.cell 2 32]) Tryz.func93 (by decide) rfl rfl rfl rfl (low_of rfl) ?_
  refine Wr.go ?_
  repeat' ((first | (have ee := True.intro; refine Wr.mk ?_) | ((first | refine br_go ?_ ?_ | refine pick_go ?_ ?_) <;> intro ee f <;> (try simp only [BB] at f) <;> (try simp only [numOk, verOk] at f))) <;> (try simp (maxSteps := 1000000) (disch := first | omega | (simp only [LN, numOk, verOk, rfP, rvP, rhP, frP, elOk_en, elOk_nd, nfx_en, nfx_nd] <;> omega) | exact Ck.mk rfl) only [ee, VC, T, Nat.reduceMul, Nat.reduceAdd, Nat.reduceSub, Nat.reduceLT, Nat.reduceEqDiff, Nat.reduceLeDiff, Nat.reduceBEq, reduceCtorEq, Int.reduceToNat, ↓reduceIte, rfP, rvP, rhP, frP, elOk_en, elOk_nd, nfx_en, nfx_nd]) <;> (try clear ee))
  exact fin_t [some 256, some 576, some 896, some 1216] (⟨rfl, rfl⟩) rfl (by simp [RV, RV2, RVl, RV1, tau, tget, hget, data1, oneOf, dkR, dkH]) (by simp [RH, RVl, RV1, tau, hget, data1, dkR, dkH]) (by simp [Taus, hget, dkR, dkH])
def usedL (d : Dk) (id : Int) (k : Nat) : Prop := ∃ j : Nat, j < k ∧ ∃ e ∈ (stepsT d j).1, e.2 = id
theorem usedL_all (d : Dk) (id : Int) : usedL d id (d.2.2.2.1.length + 1) ↔ usedB d id := Iff.rfl
theorem usedL_some (d : Dk) (id : Int) (k : Nat) (hk : k ≤ d.2.2.2.1.length + 1) (h : usedL d id k) : usedB d id := by
  obtain ⟨j, h1, h2⟩ := h
  exact ⟨j, by omega, h2⟩
theorem usedL_succ (d : Dk) (id : Int) (k : Nat) : usedL d id (k + 1) ↔ (usedL d id k ∨ ∃ e ∈ (stepsT d k).1, e.2 = id) := by
  constructor
  · rintro ⟨j, h1, h2⟩
    by_cases e : j = k
    · subst e; exact .inr h2
    · exact .inl ⟨j, by omega, h2⟩
  · rintro (⟨j, h1, h2⟩ | h)
    · exact ⟨j, by omega, h2⟩
    · exact ⟨k, by omega, h⟩
theorem ex_snoc (L : List Et) (id : Int) (j : Nat) (h : j < L.length) : (∃ e ∈ L.take (j + 1), e.2 = id) ↔ ((∃ e ∈ L.take j, e.2 = id) ∨ (L.getD j default).2 = id) := by
  rw [take_snoc default L j h]
  have e : rdOf default L j = L.getD j default := rfl
  constructor
  · rintro ⟨x, hx, hi⟩
    rcases List.mem_append.1 hx with hx | hx
    · exact .inl ⟨x, hx, hi⟩
    · rw [List.mem_singleton] at hx; subst hx; exact .inr hi
  · rintro (⟨x, hx, hi⟩ | hi)
    · exact ⟨x, List.mem_append_left _ hx, hi⟩
    · exact ⟨_, List.mem_append_right _ (List.mem_singleton.2 rfl), hi⟩
set_option maxRecDepth 20000 in
theorem spec_l06Clean_R (d : Dk) (h : DkOk d) : FnE Tryz.prog 98 [dkR 0 d] [(0, .row ⟨3, 0⟩ (d.1.map ndP)), (1, .row ⟨2, 0⟩ (d.2.1.map enP)), (2, .row ⟨2, 0⟩ (d.2.2.1.map enP)), (3, .row ⟨1, 0⟩ (d.2.2.2.1.map .str))]
    (fun r m => r = .agg [.row 64 (cleanT d).1.length, .row 1 d.2.1.length, .row 2 d.2.2.1.length, .row 3 d.2.2.2.1.length, .int .i64 d.2.2.2.2.1, .int .i64 d.2.2.2.2.2] ∧ m = [(0, .row ⟨3, 0⟩ (d.1.map ndP)), (1, .row ⟨2, 0⟩ (d.2.1.map enP)), (2, .row ⟨2, 0⟩ (d.2.2.1.map enP)), (3, .row ⟨1, 0⟩ (d.2.2.2.1.map .str)), (64, .row ⟨3, 0⟩ ((cleanT d).1.map ndP))]) := by
  have hSD := fun k hk => spec_StepsDone_R d.2.2.1 d.2.2.2.1 k h.os h.ss h.st h.ot hk
  have hst : ∀ k, sgT d.2.2.1 (d.2.2.2.1.take k) = stepsT d k := fun k => rfl
  have hsg : ∀ k, (stepsT d k).1.length ≤ d.2.2.1.length + (d.2.2.2.1.take k).length ∧ ∀ e ∈ (stepsT d k).1, e.1.size ≤ 1048576 := fun k => sgT_le 1048576 (d.2.2.2.1.take k) d.2.2.1 h.ot (fun s hs => h.st s (List.mem_of_mem_take hs))
  have hns := h.ns
  have hss := h.ss
  have hos := h.os
  have hcl : (cleanT d).1 = d.1.filter fun x => decide (usedB d x.1) := rfl
  simp only [hst] at hSD
  unfold dkR
  refine fn_e tok (n := 71) (rs := [.cell 2 32]) Tryz.func98 (by decide) rfl rfl rfl rfl (low_of rfl) ?_
  refine Wr.go ?_
  repeat' ((first | (have ee := True.intro; refine Wr.mk ?_) | ((first | refine br_go ?_ ?_ | refine pick_go ?_ ?_) <;> intro ee f <;> (try simp only [BB] at f) <;> (try simp only [numOk, verOk] at f))) <;> (try simp (maxSteps := 1000000) (disch := first | omega | (simp only [LN, numOk, verOk, rfP, rvP, rhP, frP, elOk_en, elOk_nd, nfx_en, nfx_nd] <;> omega) | exact Ck.mk rfl) only [ee, VC, T, Nat.reduceMul, Nat.reduceAdd, Nat.reduceSub, Nat.reduceLT, Nat.reduceEqDiff, Nat.reduceLeDiff, Nat.reduceBEq, reduceCtorEq, Int.reduceToNat, ↓reduceIte, rfP, rvP, rhP, frP, elOk_en, elOk_nd, nfx_en, nfx_nd]) <;> (try clear ee))
  refine lp_go (fun i : Nat => ⟨71, [(1, .ref 128 0), (2, .ref 192 0), (3, .row 704 ((d.1.take i).filter fun x => decide (usedB d x.1)).length), (4, .int .i64 i)], [(704, .row ⟨3, 0⟩ (((d.1.take i).filter fun x => decide (usedB d x.1)).map ndP)), (192, .box 32 [.nils, .nils, .nils, .nils, .int .i64 0, .int .i64 0]), (128, .box 32 [.row 0 d.1.length, .row 1 d.2.1.length, .row 2 d.2.2.1.length, .row 3 d.2.2.2.1.length, .int .i64 d.2.2.2.2.1, .int .i64 d.2.2.2.2.2]), (0, .row ⟨3, 0⟩ (d.1.map ndP)), (1, .row ⟨2, 0⟩ (d.2.1.map enP)), (2, .row ⟨2, 0⟩ (d.2.2.1.map enP)), (3, .row ⟨1, 0⟩ (d.2.2.2.1.map .str))]⟩) (fun i => i ≤ d.1.length) (fun i => d.1.length - i) 0 ?_ (Nat.zero_le _) ?_
  · (simp (disch := first | omega | (simp only [LN, numOk, verOk] <;> omega) | exact Ck.mk rfl) only [SB, EQ, Nat.reduceMul, Nat.reduceAdd, Nat.reduceSub, Nat.reduceLT, Nat.reduceEqDiff, Nat.reduceLeDiff, Nat.reduceBEq, reduceCtorEq, Int.reduceToNat, ↓reduceIte]; try omega)
    exact ⟨rfl, rfl⟩
  · intro i hi N hN
    have hsn := flt_snoc (fun x : Nd => decide (usedB d x.1)) d.1 i
    have hfl : ((d.1.take i).filter fun x => decide (usedB d x.1)).length ≤ i := by
      have := List.length_filter_le (fun x : Nd => decide (usedB d x.1)) (d.1.take i)
      rw [List.length_take] at this
      omega
    by_cases hi2 : i < d.1.length
    · have hsn := hsn hi2
      have hg : (d.1.map ndP).getD i .junk = .agg [.int .i64 (d.1.getD i default).1, .str (d.1.getD i default).2.1, .int .i64 (d.1.getD i default).2.2] := by
        rw [List.getD_eq_getElem?_getD, List.getElem?_map, List.getElem?_eq_getElem hi2, List.getD_eq_getElem?_getD, List.getElem?_eq_getElem hi2]; rfl
      have hmap : ∀ M : List Nd, (M ++ [d.1.getD i default]).map ndP = M.map ndP ++ [.agg [.int .i64 (d.1.getD i default).1, .str (d.1.getD i default).2.1, .int .i64 (d.1.getD i default).2.2]] := fun M => by rw [List.map_append]; rfl
      generalize hM : ((d.1.take i).filter fun x => decide (usedB d x.1)) = M at *
      have next : ∀ (u : Bool) (s1 : St), (u = true ↔ usedB d (d.1.getD i default).1) → Sub (⟨71, [(1, .ref 128 0), (2, .ref 192 0), (3, .row 704 (if u = true then M ++ [d.1.getD i default] else M).length), (4, .int .i64 ((i : Int) + 1))], [(704, .row ⟨3, 0⟩ ((if u = true then M ++ [d.1.getD i default] else M).map ndP)), (192, .box 32 [.nils, .nils, .nils, .nils, .int .i64 0, .int .i64 0]), (128, .box 32 [.row 0 d.1.length, .row 1 d.2.1.length, .row 2 d.2.2.1.length, .row 3 d.2.2.2.1.length, .int .i64 d.2.2.2.2.1, .int .i64 d.2.2.2.2.2]), (0, .row ⟨3, 0⟩ (d.1.map ndP)), (1, .row ⟨2, 0⟩ (d.2.1.map enP)), (2, .row ⟨2, 0⟩ (d.2.2.1.map enP)), (3, .row ⟨1, 0⟩ (d.2.2.2.1.map .str))]⟩) s1 → N s1 := fun u s1 hu hs => by
        refine hN (i + 1) s1 (by omega) (by omega) ?_
        rw [hsn]
        have e : (M ++ if decide (usedB d (d.1.getD i default).1) = true then [d.1.getD i default] else []) = if u = true then M ++ [d.1.getD i default] else M := by
          cases u with
          | true => rw [if_pos (decide_eq_true (hu.1 rfl)), if_pos rfl]
          | false => rw [if_neg (by rw [decide_eq_false (fun h => by have := hu.2 h; exact Bool.noConfusion this)]; decide), if_neg (by decide), List.append_nil]
        rw [e]
        exact hs
      clear hN hsn
      refine Wr.go ?_
      repeat' ((first | (have ee := True.intro; refine Wr.mk ?_) | ((first | refine br_go ?_ ?_ | refine pick_go ?_ ?_) <;> intro ee f <;> (try simp only [BB] at f) <;> (try simp only [numOk, verOk] at f))) <;> (try simp (maxSteps := 1000000) (disch := first | omega | (simp only [LN, numOk, verOk, rfP, rvP, rhP, frP, elOk_en, elOk_nd, nfx_en, nfx_nd] <;> omega) | exact Ck.mk rfl) only [ee, VC, T, Nat.reduceMul, Nat.reduceAdd, Nat.reduceSub, Nat.reduceLT, Nat.reduceEqDiff, Nat.reduceLeDiff, Nat.reduceBEq, reduceCtorEq, Int.reduceToNat, ↓reduceIte, rfP, rvP, rhP, frP, elOk_en, elOk_nd, nfx_en, nfx_nd]) <;> (try clear ee))
      refine lp_go (fun x : Nat × Bool => ⟨71, [(1, .ref 128 0), (2, .ref 192 0), (3, .row 704 M.length), (4, .int .i64 i), (5, .bool x.2), (6, .int .i64 x.1)], [(704, .row ⟨3, 0⟩ (M.map ndP)), (192, .box 32 [.nils, .nils, .nils, .nils, .int .i64 0, .int .i64 0]), (128, .box 32 [.row 0 d.1.length, .row 1 d.2.1.length, .row 2 d.2.2.1.length, .row 3 d.2.2.2.1.length, .int .i64 d.2.2.2.2.1, .int .i64 d.2.2.2.2.2]), (0, .row ⟨3, 0⟩ (d.1.map ndP)), (1, .row ⟨2, 0⟩ (d.2.1.map enP)), (2, .row ⟨2, 0⟩ (d.2.2.1.map enP)), (3, .row ⟨1, 0⟩ (d.2.2.2.1.map .str))]⟩) (fun x => x.1 ≤ d.2.2.2.1.length + 1 ∧ (x.2 = true ↔ usedL d (d.1.getD i default).1 x.1)) (fun x => d.2.2.2.1.length + 1 - x.1) (0, false) ?_ ⟨Nat.zero_le _, by simp [usedL]⟩ ?_
      · (simp (disch := first | omega | (simp only [LN, numOk, verOk] <;> omega) | exact Ck.mk rfl) only [SB, EQ, Nat.reduceMul, Nat.reduceAdd, Nat.reduceSub, Nat.reduceLT, Nat.reduceEqDiff, Nat.reduceLeDiff, Nat.reduceBEq, reduceCtorEq, Int.reduceToNat, ↓reduceIte]; try omega)
      · rintro ⟨k, u⟩ ⟨h1, h2⟩ N2 hN2
        simp only at h1 h2 hN2
        have hsc := usedL_succ d (d.1.getD i default).1 k
        by_cases hk : k ≤ d.2.2.2.1.length
        · cases u with
          | true =>
            have hu : usedB d (d.1.getD i default).1 := usedL_some _ _ _ h1 (h2.1 rfl)
            refine Wr.go ?_
            repeat' ((first | (have ee := True.intro; refine Wr.mk ?_) | ((first | refine br_go ?_ ?_ | refine pick_go ?_ ?_) <;> intro ee f <;> (try simp only [BB] at f) <;> (try simp only [numOk, verOk] at f)) | (have ee := True.intro; first | refine dr_go mixed (id := 13) [([], [5], []), ([0], [44], []), ([0, 1], [7, 45], []), ([0, 1], [9, 45], []), ([0, 1, 2, 3], [45, 46, 47], []), ([0, 1, 2, 3, 4], [45, 48], []), ([0, 1, 2, 3, 4, 5], [45, 49], []), ([0, 1], [1, 45], []), ([0, 1, 7], [45, 51], []), ([0, 1], [4, 45], []), ([0, 1, 7, 8, 9], [45, 52, 53], []), ([0, 1, 7, 8, 9, 10], [45, 54], []), ([0, 1, 7, 8, 9, 10, 11], [45, 55], []), ([0, 1, 2, 3, 4, 5, 6, 7, 8, 9, 10, 11, 12], [45, 50, 56], []), ([0, 1, 2, 3, 4, 5, 6, 7, 8, 9, 10, 11, 12, 13], [45, 57], []), ([0, 1, 2, 3, 4, 5, 6, 7, 8, 9, 10, 11, 12, 13, 14], [58], [])] rfl rfl rfl ?_)) <;> (try simp (maxSteps := 1000000) (disch := first | omega | (simp only [LN, numOk, verOk, rfP, rvP, rhP, frP, elOk_en, elOk_nd, nfx_en, nfx_nd, hg] <;> omega) | exact Ck.mk rfl) only [ee, VC, T, Nat.reduceMul, Nat.reduceAdd, Nat.reduceSub, Nat.reduceLT, Nat.reduceEqDiff, Nat.reduceLeDiff, Nat.reduceBEq, reduceCtorEq, Int.reduceToNat, ↓reduceIte, rfP, rvP, rhP, frP, elOk_en, elOk_nd, nfx_en, nfx_nd, hg]) <;> (try clear ee))
            refine next true _ ⟨fun _ => hu, fun _ => rfl⟩ ?_
            rw [if_pos rfl, hmap]
            (simp (disch := first | omega | (simp only [LN, numOk, verOk, List.length_append, List.length_cons, List.length_nil] <;> omega) | exact Ck.mk rfl) only [SB, EQ, Nat.reduceMul, Nat.reduceAdd, Nat.reduceSub, Nat.reduceLT, Nat.reduceEqDiff, Nat.reduceLeDiff, Nat.reduceBEq, reduceCtorEq, Int.reduceToNat, ↓reduceIte, List.length_append, List.length_cons, List.length_nil]; try omega)
          | false =>
            have hS := hSD k hk
            have hsg := hsg k
            rw [List.length_take] at hsg
            generalize stepsT d k = p at *
            obtain ⟨L, ok⟩ := p
            simp only at *
            have hLL : L.length ≤ 2097152 := by have := hsg.1; omega
            refine Wr.go ?_
            repeat' ((first | (have ee := True.intro; refine Wr.mk ?_) | ((first | refine br_go ?_ ?_ | refine pick_go ?_ ?_) <;> intro ee f <;> (try simp only [BB] at f) <;> (try simp only [numOk, verOk] at f)) | (have ee := True.intro; first | (refine call_h [] [2,3] (hS) (by decide) ?_ rfl ?_; (focus (first | rfl | (simp (maxSteps := 1000000) (disch := first | omega | (simp only [LN, numOk, verOk, rfP, rvP, rhP, frP, elOk_en, elOk_nd, nfx_en, nfx_nd] <;> omega) | exact Ck.mk rfl) only [VC, T, Nat.reduceMul, Nat.reduceAdd, Nat.reduceSub, Nat.reduceLT, Nat.reduceEqDiff, Nat.reduceLeDiff, Nat.reduceBEq, reduceCtorEq, Int.reduceToNat, ↓reduceIte, rfP, rvP, rhP, frP, elOk_en, elOk_nd, nfx_en, nfx_nd]; done))); rintro _ _ ⟨rfl, rfl⟩))) <;> (try simp (maxSteps := 1000000) (disch := first | omega | (simp only [LN, numOk, verOk, rfP, rvP, rhP, frP, elOk_en, elOk_nd, nfx_en, nfx_nd] <;> omega) | exact Ck.mk rfl) only [ee, VC, T, Nat.reduceMul, Nat.reduceAdd, Nat.reduceSub, Nat.reduceLT, Nat.reduceEqDiff, Nat.reduceLeDiff, Nat.reduceBEq, reduceCtorEq, Int.reduceToNat, ↓reduceIte, rfP, rvP, rhP, frP, elOk_en, elOk_nd, nfx_en, nfx_nd]) <;> (try clear ee))
            refine lp_go (fun x : Nat × Bool => ⟨71, [(1, .ref 128 0), (2, .ref 192 0), (3, .row 704 M.length), (4, .int .i64 i), (5, .bool x.2), (6, .int .i64 k), (7, .row 2304 L.length), (9, .int .i64 x.1)], [(2304, .row ⟨2, 0⟩ (L.map enP)), (704, .row ⟨3, 0⟩ (M.map ndP)), (192, .box 32 [.nils, .nils, .nils, .nils, .int .i64 0, .int .i64 0]), (128, .box 32 [.row 0 d.1.length, .row 1 d.2.1.length, .row 2 d.2.2.1.length, .row 3 d.2.2.2.1.length, .int .i64 d.2.2.2.2.1, .int .i64 d.2.2.2.2.2]), (0, .row ⟨3, 0⟩ (d.1.map ndP)), (1, .row ⟨2, 0⟩ (d.2.1.map enP)), (2, .row ⟨2, 0⟩ (d.2.2.1.map enP)), (3, .row ⟨1, 0⟩ (d.2.2.2.1.map .str))]⟩) (fun x => x.1 ≤ L.length ∧ (x.2 = true ↔ ∃ e ∈ L.take x.1, e.2 = (d.1.getD i default).1)) (fun x => L.length - x.1) (0, false) ?_ ⟨Nat.zero_le _, by simp⟩ ?_
            · (simp (disch := first | omega | (simp only [LN, numOk, verOk] <;> omega) | exact Ck.mk rfl) only [SB, EQ, Nat.reduceMul, Nat.reduceAdd, Nat.reduceSub, Nat.reduceLT, Nat.reduceEqDiff, Nat.reduceLeDiff, Nat.reduceBEq, reduceCtorEq, Int.reduceToNat, ↓reduceIte]; try omega)
            · rintro ⟨j, v⟩ ⟨h3, h4⟩ N3 hN3
              simp only at h3 h4 hN3
              by_cases hj : j < L.length
              · have hx := ex_snoc L (d.1.getD i default).1 j hj
                have hgl : (L.map enP).getD j .junk = .agg [.str (L.getD j default).1, .int .i64 (L.getD j default).2] := by
                  rw [List.getD_eq_getElem?_getD, List.getElem?_map, List.getElem?_eq_getElem hj, List.getD_eq_getElem?_getD, List.getElem?_eq_getElem hj]; rfl
                cases v with
                | true =>
                  refine Wr.go ?_
                  repeat' ((first | (have ee := True.intro; refine Wr.mk ?_) | ((first | refine br_go ?_ ?_ | refine pick_go ?_ ?_) <;> intro ee f <;> (try simp only [BB] at f) <;> (try simp only [numOk, verOk] at f)) | (have ee := True.intro; first | refine dr_go mixed (id := 13) [([], [5], []), ([0], [44], []), ([0, 1], [7, 45], []), ([0, 1], [9, 45], []), ([0, 1, 2, 3], [45, 46, 47], []), ([0, 1, 2, 3, 4], [45, 48], []), ([0, 1, 2, 3, 4, 5], [45, 49], []), ([0, 1], [1, 45], []), ([0, 1, 7], [45, 51], []), ([0, 1], [4, 45], []), ([0, 1, 7, 8, 9], [45, 52, 53], []), ([0, 1, 7, 8, 9, 10], [45, 54], []), ([0, 1, 7, 8, 9, 10, 11], [45, 55], []), ([0, 1, 2, 3, 4, 5, 6, 7, 8, 9, 10, 11, 12], [45, 50, 56], []), ([0, 1, 2, 3, 4, 5, 6, 7, 8, 9, 10, 11, 12, 13], [45, 57], []), ([0, 1, 2, 3, 4, 5, 6, 7, 8, 9, 10, 11, 12, 13, 14], [58], [])] rfl rfl rfl ?_)) <;> (try simp (maxSteps := 1000000) (disch := first | omega | (simp only [LN, numOk, verOk, rfP, rvP, rhP, frP, elOk_en, elOk_nd, nfx_en, nfx_nd, hg, hgl] <;> omega) | exact Ck.mk rfl) only [ee, VC, T, Nat.reduceMul, Nat.reduceAdd, Nat.reduceSub, Nat.reduceLT, Nat.reduceEqDiff, Nat.reduceLeDiff, Nat.reduceBEq, reduceCtorEq, Int.reduceToNat, ↓reduceIte, rfP, rvP, rhP, frP, elOk_en, elOk_nd, nfx_en, nfx_nd, hg, hgl]) <;> (try clear ee))
                  refine hN3 (j + 1, true) _ ⟨by simp only; omega, ⟨fun _ => hx.2 (.inl (h4.1 rfl)), fun _ => rfl⟩⟩ (by simp only; omega) ?_
                  (simp (disch := first | omega | (simp only [LN, numOk, verOk] <;> omega) | exact Ck.mk rfl) only [SB, EQ, Nat.reduceMul, Nat.reduceAdd, Nat.reduceSub, Nat.reduceLT, Nat.reduceEqDiff, Nat.reduceLeDiff, Nat.reduceBEq, reduceCtorEq, Int.reduceToNat, ↓reduceIte]; try omega)
                | false =>
                  refine Wr.go ?_
                  repeat' ((first | (have ee := True.intro; refine Wr.mk ?_) | ((first | refine br_go ?_ ?_ | refine pick_go ?_ ?_) <;> intro ee f <;> (try simp only [BB] at f) <;> (try simp only [numOk, verOk] at f)) | (have ee := True.intro; first | refine dr_go mixed (id := 13) [([], [5], []), ([0], [44], []), ([0, 1], [7, 45], []), ([0, 1], [9, 45], []), ([0, 1, 2, 3], [45, 46, 47], []), ([0, 1, 2, 3, 4], [45, 48], []), ([0, 1, 2, 3, 4, 5], [45, 49], []), ([0, 1], [1, 45], []), ([0, 1, 7], [45, 51], []), ([0, 1], [4, 45], []), ([0, 1, 7, 8, 9], [45, 52, 53], []), ([0, 1, 7, 8, 9, 10], [45, 54], []), ([0, 1, 7, 8, 9, 10, 11], [45, 55], []), ([0, 1, 2, 3, 4, 5, 6, 7, 8, 9, 10, 11, 12], [45, 50, 56], []), ([0, 1, 2, 3, 4, 5, 6, 7, 8, 9, 10, 11, 12, 13], [45, 57], []), ([0, 1, 2, 3, 4, 5, 6, 7, 8, 9, 10, 11, 12, 13, 14], [58], [])] rfl rfl rfl ?_)) <;> (try simp (maxSteps := 1000000) (disch := first | omega | (simp only [LN, numOk, verOk, rfP, rvP, rhP, frP, elOk_en, elOk_nd, nfx_en, nfx_nd, hg, hgl] <;> omega) | exact Ck.mk rfl) only [ee, VC, T, Nat.reduceMul, Nat.reduceAdd, Nat.reduceSub, Nat.reduceLT, Nat.reduceEqDiff, Nat.reduceLeDiff, Nat.reduceBEq, reduceCtorEq, Int.reduceToNat, ↓reduceIte, rfP, rvP, rhP, frP, elOk_en, elOk_nd, nfx_en, nfx_nd, hg, hgl]) <;> (try clear ee))
                  refine hN3 (j + 1, decide ((L.getD j default).2 = (d.1.getD i default).1)) _ ⟨by simp only; omega, ?_⟩ (by simp only; omega) ?_
                  · simp only
                    rw [decide_eq_true_iff, hx]
                    exact ⟨.inr, fun h => h.resolve_left fun h => absurd (h4.2 h) (by decide)⟩
                  · (simp (disch := first | omega | (simp only [LN, numOk, verOk] <;> omega) | exact Ck.mk rfl) only [SB, EQ, Nat.reduceMul, Nat.reduceAdd, Nat.reduceSub, Nat.reduceLT, Nat.reduceEqDiff, Nat.reduceLeDiff, Nat.reduceBEq, reduceCtorEq, Int.reduceToNat, ↓reduceIte]; try omega)
              · obtain rfl : j = L.length := by omega
                refine Wr.go ?_
                repeat' ((first | (have ee := True.intro; refine Wr.mk ?_) | ((first | refine br_go ?_ ?_ | refine pick_go ?_ ?_) <;> intro ee f <;> (try simp only [BB] at f) <;> (try simp only [numOk, verOk] at f))) <;> (try simp (maxSteps := 1000000) (disch := first | omega | (simp only [LN, numOk, verOk, rfP, rvP, rhP, frP, elOk_en, elOk_nd, nfx_en, nfx_nd] <;> omega) | exact Ck.mk rfl) only [ee, VC, T, Nat.reduceMul, Nat.reduceAdd, Nat.reduceSub, Nat.reduceLT, Nat.reduceEqDiff, Nat.reduceLeDiff, Nat.reduceBEq, reduceCtorEq, Int.reduceToNat, ↓reduceIte, rfP, rvP, rhP, frP, elOk_en, elOk_nd, nfx_en, nfx_nd]) <;> (try clear ee))
                rw [List.take_length] at h4
                refine hN2 (k + 1, v) _ ⟨by simp only; omega, ?_⟩ (by simp only; omega) ?_
                · simp only
                  rw [hsc, h4]
                  exact ⟨.inr, fun h => h.resolve_left fun h => by have := h2.2 h; exact Bool.noConfusion this⟩
                · (simp (disch := first | omega | (simp only [LN, numOk, verOk] <;> omega) | exact Ck.mk rfl) only [SB, EQ, Nat.reduceMul, Nat.reduceAdd, Nat.reduceSub, Nat.reduceLT, Nat.reduceEqDiff, Nat.reduceLeDiff, Nat.reduceBEq, reduceCtorEq, Int.reduceToNat, ↓reduceIte]; try omega)
        · obtain rfl : k = d.2.2.2.1.length + 1 := by omega
          rw [usedL_all] at h2
          cases u with
          | true =>
            refine Wr.go ?_
            repeat' ((first | (have ee := True.intro; refine Wr.mk ?_) | ((first | refine br_go ?_ ?_ | refine pick_go ?_ ?_) <;> intro ee f <;> (try simp only [BB] at f) <;> (try simp only [numOk, verOk] at f)) | (have ee := True.intro; first | refine dr_go mixed (id := 13) [([], [5], []), ([0], [44], []), ([0, 1], [7, 45], []), ([0, 1], [9, 45], []), ([0, 1, 2, 3], [45, 46, 47], []), ([0, 1, 2, 3, 4], [45, 48], []), ([0, 1, 2, 3, 4, 5], [45, 49], []), ([0, 1], [1, 45], []), ([0, 1, 7], [45, 51], []), ([0, 1], [4, 45], []), ([0, 1, 7, 8, 9], [45, 52, 53], []), ([0, 1, 7, 8, 9, 10], [45, 54], []), ([0, 1, 7, 8, 9, 10, 11], [45, 55], []), ([0, 1, 2, 3, 4, 5, 6, 7, 8, 9, 10, 11, 12], [45, 50, 56], []), ([0, 1, 2, 3, 4, 5, 6, 7, 8, 9, 10, 11, 12, 13], [45, 57], []), ([0, 1, 2, 3, 4, 5, 6, 7, 8, 9, 10, 11, 12, 13, 14], [58], [])] rfl rfl rfl ?_)) <;> (try simp (maxSteps := 1000000) (disch := first | omega | (simp only [LN, numOk, verOk, rfP, rvP, rhP, frP, elOk_en, elOk_nd, nfx_en, nfx_nd, hg] <;> omega) | exact Ck.mk rfl) only [ee, VC, T, Nat.reduceMul, Nat.reduceAdd, Nat.reduceSub, Nat.reduceLT, Nat.reduceEqDiff, Nat.reduceLeDiff, Nat.reduceBEq, reduceCtorEq, Int.reduceToNat, ↓reduceIte, rfP, rvP, rhP, frP, elOk_en, elOk_nd, nfx_en, nfx_nd, hg]) <;> (try clear ee))
            refine next true _ h2 ?_
            rw [if_pos rfl, hmap]
            (simp (disch := first | omega | (simp only [LN, numOk, verOk, List.length_append, List.length_cons, List.length_nil] <;> omega) | exact Ck.mk rfl) only [SB, EQ, Nat.reduceMul, Nat.reduceAdd, Nat.reduceSub, Nat.reduceLT, Nat.reduceEqDiff, Nat.reduceLeDiff, Nat.reduceBEq, reduceCtorEq, Int.reduceToNat, ↓reduceIte, List.length_append, List.length_cons, List.length_nil]; try omega)
          | false =>
            refine Wr.go ?_
            repeat' ((first | (have ee := True.intro; refine Wr.mk ?_) | ((first | refine br_go ?_ ?_ | refine pick_go ?_ ?_) <;> intro ee f <;> (try simp only [BB] at f) <;> (try simp only [numOk, verOk] at f)) | (have ee := True.intro; first | refine dr_go mixed (id := 13) [([], [5], []), ([0], [44], []), ([0, 1], [7, 45], []), ([0, 1], [9, 45], []), ([0, 1, 2, 3], [45, 46, 47], []), ([0, 1, 2, 3, 4], [45, 48], []), ([0, 1, 2, 3, 4, 5], [45, 49], []), ([0, 1], [1, 45], []), ([0, 1, 7], [45, 51], []), ([0, 1], [4, 45], []), ([0, 1, 7, 8, 9], [45, 52, 53], []), ([0, 1, 7, 8, 9, 10], [45, 54], []), ([0, 1, 7, 8, 9, 10, 11], [45, 55], []), ([0, 1, 2, 3, 4, 5, 6, 7, 8, 9, 10, 11, 12], [45, 50, 56], []), ([0, 1, 2, 3, 4, 5, 6, 7, 8, 9, 10, 11, 12, 13], [45, 57], []), ([0, 1, 2, 3, 4, 5, 6, 7, 8, 9, 10, 11, 12, 13, 14], [58], [])] rfl rfl rfl ?_)) <;> (try simp (maxSteps := 1000000) (disch := first | omega | (simp only [LN, numOk, verOk, rfP, rvP, rhP, frP, elOk_en, elOk_nd, nfx_en, nfx_nd, hg] <;> omega) | exact Ck.mk rfl) only [ee, VC, T, Nat.reduceMul, Nat.reduceAdd, Nat.reduceSub, Nat.reduceLT, Nat.reduceEqDiff, Nat.reduceLeDiff, Nat.reduceBEq, reduceCtorEq, Int.reduceToNat, ↓reduceIte, rfP, rvP, rhP, frP, elOk_en, elOk_nd, nfx_en, nfx_nd, hg]) <;> (try clear ee))
            refine next false _ h2 ?_
            rw [if_neg (by decide)]
            (simp (disch := first | omega | (simp only [LN, numOk, verOk] <;> omega) | exact Ck.mk rfl) only [SB, EQ, Nat.reduceMul, Nat.reduceAdd, Nat.reduceSub, Nat.reduceLT, Nat.reduceEqDiff, Nat.reduceLeDiff, Nat.reduceBEq, reduceCtorEq, Int.reduceToNat, ↓reduceIte]; try omega)
    · obtain rfl : i = d.1.length := by omega
      rw [List.take_length, ← hcl] at *
      refine Wr.go ?_
      repeat' ((first | (have ee := True.intro; refine Wr.mk ?_) | ((first | refine br_go ?_ ?_ | refine pick_go ?_ ?_) <;> intro ee f <;> (try simp only [BB] at f) <;> (try simp only [numOk, verOk] at f))) <;> (try simp (maxSteps := 1000000) (disch := first | omega | (simp only [LN, numOk, verOk, rfP, rvP, rhP, frP, elOk_en, elOk_nd, nfx_en, nfx_nd] <;> omega) | exact Ck.mk rfl) only [ee, VC, T, Nat.reduceMul, Nat.reduceAdd, Nat.reduceSub, Nat.reduceLT, Nat.reduceEqDiff, Nat.reduceLeDiff, Nat.reduceBEq, reduceCtorEq, Int.reduceToNat, ↓reduceIte, rfP, rvP, rhP, frP, elOk_en, elOk_nd, nfx_en, nfx_nd]) <;> (try clear ee))
      exact fin_t [some 704] (⟨rfl, rfl⟩) rfl (by simp [RV, RV2, RVl, RV1, tau, tget, hget, data1, oneOf]) (by simp [RH, RVl, RV1, tau, hget, data1]) (by simp [Taus, hget])
end Go.Pv

/- What functions of the program and of the reference do, in plain values. -/
namespace Go.Pv
open Go.Proofs Go.Mth
set_option linter.unusedSimpArgs false
set_option linter.unusedVariables false
set_option maxHeartbeats 4000000
set_option maxRecDepth 4000

/-! ### the reference's deeds on disks -/
theorem spec_RemoveFile_R (d : Dk) (n : ByteArray) (h : DkB 1048575 1048576 d) (hn : n.size ≤ 1048575) : FnE Tryz.prog 218 [dkP d, .str n] [] (fun r m => r = .tup [dkR 64 (removeT d n).1, .int .i64 (removeT d n).2] ∧ m = dkH (removeT d n).1) := by
  have ok := h.ok (by decide) (by decide)
  have hes := h.es
  have hc := spec_l05Copy_R d ok
  have hO := spec_DiskOk d ok
  have hH : Fn Tryz.prog 95 [.far (d.2.1.map enP), .str n] [] (.bool (decide (hasT d.2.1 n))) [] := spec_l06Has d.2.1 n (by omega)
  have hD := spec_l06Drop_R d.2.1 n (by omega)
  have e1 : ¬ diskOk d → removeT d n = (d, 3) := fun a => if_pos (.inl a)
  have e2 : ¬ hasT d.2.1 n → removeT d n = (d, 3) := fun a => if_pos (.inr a)
  have e3 : diskOk d → hasT d.2.1 n → removeT d n = (cleanT (d.1, dropT d.2.1 n, d.2.2.1, d.2.2.2.1 ++ [strOf [45] ++ n], d.2.2.2.2), 0) := fun a b => if_neg (by simp [a, b])
  have hcl := spec_l06Clean_R (d.1, dropT d.2.1 n, d.2.2.1, d.2.2.2.1 ++ [strOf [45] ++ n], d.2.2.2.2) ⟨ok.ns, Nat.le_trans (dropT_len _ _) ok.es, ok.os, by rw [List.length_append, List.length_singleton]; have := h.ss; omega, ok.nt, dropT_mem ok.et, ok.ot, mem_snoc ok.st (by simp only [ByteArray.size_append, strOf_size, List.length_singleton]; omega)⟩
  have hs0 : strOf [45] = ⟨#[45]⟩ := rfl
  rw [hs0] at hcl e3
  have hcc : ∀ x, (cleanT (d.1, x)) = ((cleanT (d.1, x)).1, x) := fun x => rfl
  have hss := h.ss
  have hns := h.ns
  have hos := h.os
  rw [hcc] at e3
  generalize (cleanT (d.1, dropT d.2.1 n, d.2.2.1, d.2.2.2.1 ++ [⟨#[45]⟩ ++ n], d.2.2.2.2)).1 = C at *
  have hq2 := hn
  generalize removeT d n = q at *
  have hdl := dropT_len d.2.1 n
  unfold dkP dkR dkH at *
  simp only [List.length_append, List.length_singleton] at hcl
  refine fn_e tok (n := 33) (rs := [.cell 4 32, .tmp 5]) Tryz.func218 (by decide) rfl rfl rfl rfl (low_of rfl) ?_
  refine Wr.go ?_
  repeat' ((first | (have ee := True.intro; refine Wr.mk ?_) | ((first | refine br_go ?_ ?_ | refine pick_go ?_ ?_) <;> intro ee f <;> (try simp only [BB] at f) <;> (try simp only [numOk, verOk] at f)) | (have ee := True.intro; first | (refine call_h [] [] (hc) (by decide) rfl rfl ?_; rintro _ _ ⟨rfl, rfl⟩) | (refine call_hx [] [512,513,514,515] (hO) (by decide) ?_ rfl ?_; (focus (first | rfl | (simp (maxSteps := 1000000) (disch := first | omega | (simp only [LN, numOk, verOk, rfP, rvP, rhP, frP, elOk_en, elOk_nd, nfx_en, nfx_nd] <;> omega) | exact Ck.mk rfl) only [VC, T, Nat.reduceMul, Nat.reduceAdd, Nat.reduceSub, Nat.reduceLT, Nat.reduceEqDiff, Nat.reduceLeDiff, Nat.reduceBEq, reduceCtorEq, Int.reduceToNat, ↓reduceIte, rfP, rvP, rhP, frP, elOk_en, elOk_nd, nfx_en, nfx_nd]; done)))) | (refine call_hx [] [513] (hH) (by decide) ?_ rfl ?_; (focus (first | rfl | (simp (maxSteps := 1000000) (disch := first | omega | (simp only [LN, numOk, verOk, rfP, rvP, rhP, frP, elOk_en, elOk_nd, nfx_en, nfx_nd] <;> omega) | exact Ck.mk rfl) only [VC, T, Nat.reduceMul, Nat.reduceAdd, Nat.reduceSub, Nat.reduceLT, Nat.reduceEqDiff, Nat.reduceLeDiff, Nat.reduceBEq, reduceCtorEq, Int.reduceToNat, ↓reduceIte, rfP, rvP, rhP, frP, elOk_en, elOk_nd, nfx_en, nfx_nd]; done)))) | (refine call_h [] [513] (hD) (by decide) ?_ rfl ?_; (focus (first | rfl | (simp (maxSteps := 1000000) (disch := first | omega | (simp only [LN, numOk, verOk, rfP, rvP, rhP, frP, elOk_en, elOk_nd, nfx_en, nfx_nd] <;> omega) | exact Ck.mk rfl) only [VC, T, Nat.reduceMul, Nat.reduceAdd, Nat.reduceSub, Nat.reduceLT, Nat.reduceEqDiff, Nat.reduceLeDiff, Nat.reduceBEq, reduceCtorEq, Int.reduceToNat, ↓reduceIte, rfP, rvP, rhP, frP, elOk_en, elOk_nd, nfx_en, nfx_nd]; done))); rintro _ _ ⟨rfl, rfl⟩) | (refine call_h [512,1472,514,515] [] (hcl) (by decide) rfl rfl ?_; rintro _ _ ⟨rfl, rfl⟩))) <;> (try simp (maxSteps := 1000000) (disch := first | omega | (simp only [LN, numOk, verOk, rfP, rvP, rhP, frP, elOk_en, elOk_nd, nfx_en, nfx_nd] <;> omega) | exact Ck.mk rfl) only [ee, VC, T, Nat.reduceMul, Nat.reduceAdd, Nat.reduceSub, Nat.reduceLT, Nat.reduceEqDiff, Nat.reduceLeDiff, Nat.reduceBEq, reduceCtorEq, Int.reduceToNat, ↓reduceIte, rfP, rvP, rhP, frP, elOk_en, elOk_nd, nfx_en, nfx_nd]) <;> (try clear ee))
  · cases e3 (by assumption) f
    exact fin_t [some 2112, some 1472, some 514, some 515] (⟨rfl, rfl⟩) rfl (by simp [RV, RV2, RVl, RV1, tau, tget, hget, data1, oneOf, List.length_append]) (by simp [RH, RVl, RV1, tau, hget, data1, List.length_append]) (by simp [Taus, hget, List.length_append])
  · cases e2 f
    exact fin_t [some 512, some 513, some 514, some 515] (⟨rfl, rfl⟩) rfl (by simp [RV, RV2, RVl, RV1, tau, tget, hget, data1, oneOf]) (by simp [RH, RVl, RV1, tau, hget, data1]) (by simp [Taus, hget])
  · cases e1 f
    exact fin_t [some 512, some 513, some 514, some 515] (⟨rfl, rfl⟩) rfl (by simp [RV, RV2, RVl, RV1, tau, tget, hget, data1, oneOf]) (by simp [RH, RVl, RV1, tau, hget, data1]) (by simp [Taus, hget])
theorem spec_RemoveFile (d : Dk) (n : ByteArray) (h : DkB 1048575 1048576 d) (hn : n.size ≤ 1048575) : Fn Tryz.prog 218 [dkP d, .str n] [] (.tup [dkP (removeT d n).1, .int .i64 (removeT d n).2]) [] := by
  obtain ⟨_, _, ⟨rfl, rfl⟩, k⟩ := spec_RemoveFile_R d n h hn
  refine k.far ?_
  simp [fz, fz2, fz1, cvtl, elems, dkR, dkH, dkP, hget, data1]
theorem spec_DiskNew_N (n : Int) : FnE Tryz.prog 37 [.int .i64 n] [] (fun r m => r = .agg [.nils, .nils, .nils, .nils, .int .i64 (if n < 0 then 0 else n), .int .i64 1] ∧ m = []) := by
  refine fn_e tok (n := 7) (rs := [.cell 2 32]) Tryz.func37 (by decide) rfl rfl rfl rfl (low_of rfl) ?_
  refine Wr.go ?_
  repeat' ((first | (have ee := True.intro; refine Wr.mk ?_) | ((first | refine br_go ?_ ?_ | refine pick_go ?_ ?_) <;> intro ee f <;> (try simp only [BB] at f) <;> (try simp only [numOk, verOk] at f))) <;> (try simp (maxSteps := 1000000) (disch := first | omega | (simp only [LN, numOk, verOk, rfP, rvP, rhP, frP, elOk_en, elOk_nd, nfx_en, nfx_nd] <;> omega) | exact Ck.mk rfl) only [ee, VC, T, Nat.reduceMul, Nat.reduceAdd, Nat.reduceSub, Nat.reduceLT, Nat.reduceEqDiff, Nat.reduceLeDiff, Nat.reduceBEq, reduceCtorEq, Int.reduceToNat, ↓reduceIte, rfP, rvP, rhP, frP, elOk_en, elOk_nd, nfx_en, nfx_nd]) <;> (try clear ee))
  · rw [if_pos f]
    exact fin_t [] (⟨rfl, rfl⟩) rfl (by simp [RV, RV2, RVl, RV1, tau, tget, hget, data1, oneOf]) (by simp [RH, RVl, RV1, tau, hget, data1]) (by simp [Taus, hget])
  · rw [if_neg (by omega)]
    exact fin_t [] (⟨rfl, rfl⟩) rfl (by simp [RV, RV2, RVl, RV1, tau, tget, hget, data1, oneOf]) (by simp [RH, RVl, RV1, tau, hget, data1]) (by simp [Taus, hget])
theorem spec_DiskNew (n : Int) : Fn Tryz.prog 37 [.int .i64 n] [] (dkP (newT n)) [] := by
  unfold newT dkP
  refine fn_x tok (n := 7) (rs := [.cell 2 32]) Tryz.func37 (by decide) rfl rfl rfl rfl ?_
  refine Wr.go ?_
  repeat' ((first | (have ee := True.intro; refine Wr.mk ?_) | ((first | refine br_go ?_ ?_ | refine pick_go ?_ ?_) <;> intro ee f <;> (try simp only [BB] at f) <;> (try simp only [numOk, verOk] at f))) <;> (try simp (maxSteps := 1000000) (disch := first | omega | (simp only [LN, numOk, verOk, rfP, rvP, rhP, frP, elOk_en, elOk_nd, nfx_en, nfx_nd] <;> omega) | exact Ck.mk rfl) only [ee, VC, T, Nat.reduceMul, Nat.reduceAdd, Nat.reduceSub, Nat.reduceLT, Nat.reduceEqDiff, Nat.reduceLeDiff, Nat.reduceBEq, reduceCtorEq, Int.reduceToNat, ↓reduceIte, rfP, rvP, rhP, frP, elOk_en, elOk_nd, nfx_en, nfx_nd]) <;> (try clear ee))
  · rw [if_pos f]
  · rw [if_neg (by omega)]
theorem usedT_nn (d : Dk) : 0 ≤ usedT d := by
  unfold usedT
  induction d.1 with
  | nil => exact Int.le_refl _
  | cons x r ih =>
    rw [List.map_cons, List.sum_cons]
    omega
theorem spec_CreateFile_R (d : Dk) (n : ByteArray) (h : DkB 1048575 1048576 d) (hn : n.size ≤ 1048576) : FnE Tryz.prog 36 [dkP d, .str n] [] (fun r m => r = .tup [dkR 64 (createT d n).1, .int .i64 (createT d n).2] ∧ m = dkH (createT d n).1) := by
  have ok := h.ok (by decide) (by decide)
  have hes := h.es
  have hss := h.ss
  have hns := h.ns
  have hos := h.os
  have hc := spec_l05Copy_R d ok
  have hO := spec_DiskOk d ok
  have hH : Fn Tryz.prog 95 [.far (d.2.1.map enP), .str n] [] (.bool (decide (hasT d.2.1 n))) [] := spec_l06Has d.2.1 n (by omega)
  have hN := spec_NameOk n (by omega)
  have hP : FnE Tryz.prog 96 [.far (d.2.1.map enP), .agg [.str n, .int .i64 d.2.2.2.2.2]] [] (fun r m => r = .row 64 (putT d.2.1 (n, d.2.2.2.2.2)).length ∧ m = [(64, .row ⟨2, 0⟩ ((putT d.2.1 (n, d.2.2.2.2.2)).map enP))]) := spec_l06Put_R d.2.1 (n, d.2.2.2.2.2) (by omega)
  have hpl := putT_len d.2.1 (n, d.2.2.2.2.2)
  have e1 : ¬ diskOk d → createT d n = (d, 3) := fun a => if_pos a
  have e2 : diskOk d → ¬ nmOk n → createT d n = (d, 1) := fun a b => by unfold createT; rw [if_neg (fun k => k a), if_pos b]
  have e3 : diskOk d → nmOk n → hasT d.2.1 n → createT d n = (d, 2) := fun a b c => by unfold createT; rw [if_neg (fun k => k a), if_neg (fun k => k b), if_pos c]
  have e4 : diskOk d → nmOk n → ¬ hasT d.2.1 n → (16 ≤ d.2.1.length ∨ 64 ≤ d.1.length ∨ 1000000000 ≤ d.2.2.2.2.2) → createT d n = (d, 4) := fun a b c e => by unfold createT; rw [if_neg (fun k => k a), if_neg (fun k => k b), if_neg c, if_pos e]
  have e5 : diskOk d → nmOk n → ¬ hasT d.2.1 n → ¬ (16 ≤ d.2.1.length ∨ 64 ≤ d.1.length ∨ 1000000000 ≤ d.2.2.2.2.2) → createT d n = (cleanT (d.1 ++ [(d.2.2.2.2.2, ⟨#[]⟩, 0)], putT d.2.1 (n, d.2.2.2.2.2), d.2.2.1, d.2.2.2.1 ++ [strOf [43] ++ n ++ strOf [58] ++ decT d.2.2.2.2.2], d.2.2.2.2.1, d.2.2.2.2.2 + 1), 0) := fun a b c e => by unfold createT; rw [if_neg (fun k => k a), if_neg (fun k => k b), if_neg c, if_neg e]
  have hrg : diskOk d → 1 ≤ d.2.2.2.2.2 ∧ d.2.2.2.2.2 ≤ 1000000000 := fun k => k.1.2.2.1
  have hcl : nmOk n → FnE Tryz.prog 98 _ _ _ := fun hnm => spec_l06Clean_R (d.1 ++ [(d.2.2.2.2.2, ⟨#[]⟩, 0)], putT d.2.1 (n, d.2.2.2.2.2), d.2.2.1, d.2.2.2.1 ++ [strOf [43] ++ n ++ strOf [58] ++ decT d.2.2.2.2.2], d.2.2.2.2.1, d.2.2.2.2.2 + 1) ⟨by simp only [List.length_append, List.length_singleton]; omega, by simp only; omega, ok.os, by simp only [List.length_append, List.length_singleton]; omega, mem_snoc ok.nt (Nat.zero_le _), putT_mem ok.et hn, ok.ot, mem_snoc ok.st (by have := decT_le d.2.2.2.2.2; have := hnm.2.2; simp only [ByteArray.size_append, strOf_size, List.length_singleton]; omega)⟩
  have hs0 : strOf [43] = ⟨#[43]⟩ := rfl
  have hs1 : strOf [58] = ⟨#[58]⟩ := rfl
  have hm1 : (d.1 ++ [((d.2.2.2.2.2, ⟨#[]⟩, 0) : Nd)]).map ndP = d.1.map ndP ++ [.agg [.int .i64 d.2.2.2.2.2, .str ByteArray.empty, .int .i64 0]] := by rw [List.map_append]; rfl
  rw [hs0, hs1] at hcl e5
  have hcc : ∀ x y, (cleanT (y, x)) = ((cleanT (y, x)).1, x) := fun x y => rfl
  rw [hcc] at e5
  generalize (cleanT (d.1 ++ [(d.2.2.2.2.2, ⟨#[]⟩, 0)], putT d.2.1 (n, d.2.2.2.2.2), d.2.2.1, d.2.2.2.1 ++ [⟨#[43]⟩ ++ n ++ ⟨#[58]⟩ ++ decT d.2.2.2.2.2], d.2.2.2.2.1, d.2.2.2.2.2 + 1)).1 = C at *
  generalize createT d n = q at *
  by_cases a1 : diskOk d
  · have hrg := hrg a1
    have e2 := e2 a1
    have e3 := e3 a1
    have e4 := e4 a1
    have e5 := e5 a1
    have hDc := spec_Decimal d.2.2.2.2.2 (by omega)
    rw [decide_eq_true a1] at hO
    by_cases a2 : nmOk n
    · have hcl := hcl a2
      have e3 := e3 a2
      have e4 := e4 a2
      have e5 := e5 a2
      have hn20 := a2.2.2
      rw [decide_eq_true a2] at hN
      unfold dkP dkR dkH at *
      simp only [hm1, List.length_append, List.length_singleton] at hcl
      have hDz := decT_le d.2.2.2.2.2
      generalize decT d.2.2.2.2.2 = D at *
      refine fn_e tok (n := 71) (rs := [.cell 4 32, .tmp 5]) Tryz.func36 (by decide) rfl rfl rfl rfl (low_of rfl) ?_
      refine Wr.go ?_
      repeat' ((first | (have ee := True.intro; refine Wr.mk ?_) | ((first | refine br_go ?_ ?_ | refine pick_go ?_ ?_) <;> intro ee f <;> (try simp only [BB] at f) <;> (try simp only [numOk, verOk] at f)) | (have ee := True.intro; first | refine dr_go mixed (id := 12) [([], [2], []), ([0], [53], []), ([], [1], []), ([2], [55], []), ([2, 3], [56], []), ([], [2], []), ([5], [58], []), ([5, 6], [59], []), ([2, 3, 4, 5, 6, 7], [57, 60], []), ([2, 3, 4, 5, 6, 7, 8], [61], []), ([0, 1, 2, 3, 4, 5, 6, 7, 8, 9], [54, 62], []), ([0, 1, 2, 3, 4, 5, 6, 7, 8, 9, 10], [2], []), ([0, 1, 2, 3, 4, 5, 6, 7, 8, 9, 10, 11], [63, 64], [])] rfl rfl rfl ?_ | (refine call_h [] [] (hc) (by decide) rfl rfl ?_; rintro _ _ ⟨rfl, rfl⟩) | (refine call_hx [] [512,513,514,515] (hO) (by decide) ?_ rfl ?_; (focus (first | rfl | (simp (maxSteps := 1000000) (disch := first | omega | (simp only [LN, numOk, verOk, rfP, rvP, rhP, frP, elOk_en, elOk_nd, nfx_en, nfx_nd] <;> omega) | exact Ck.mk rfl) only [VC, T, Nat.reduceMul, Nat.reduceAdd, Nat.reduceSub, Nat.reduceLT, Nat.reduceEqDiff, Nat.reduceLeDiff, Nat.reduceBEq, reduceCtorEq, Int.reduceToNat, ↓reduceIte, rfP, rvP, rhP, frP, elOk_en, elOk_nd, nfx_en, nfx_nd]; done)))) | refine call_x (hN) rfl ⟨rfl⟩ ?_ | (refine call_hx [] [513] (hH) (by decide) ?_ rfl ?_; (focus (first | rfl | (simp (maxSteps := 1000000) (disch := first | omega | (simp only [LN, numOk, verOk, rfP, rvP, rhP, frP, elOk_en, elOk_nd, nfx_en, nfx_nd] <;> omega) | exact Ck.mk rfl) only [VC, T, Nat.reduceMul, Nat.reduceAdd, Nat.reduceSub, Nat.reduceLT, Nat.reduceEqDiff, Nat.reduceLeDiff, Nat.reduceBEq, reduceCtorEq, Int.reduceToNat, ↓reduceIte, rfP, rvP, rhP, frP, elOk_en, elOk_nd, nfx_en, nfx_nd]; done)))) | (refine call_h [] [513] (hP) (by decide) ?_ rfl ?_; (focus (first | rfl | (simp (maxSteps := 1000000) (disch := first | omega | (simp only [LN, numOk, verOk, rfP, rvP, rhP, frP, elOk_en, elOk_nd, nfx_en, nfx_nd] <;> omega) | exact Ck.mk rfl) only [VC, T, Nat.reduceMul, Nat.reduceAdd, Nat.reduceSub, Nat.reduceLT, Nat.reduceEqDiff, Nat.reduceLeDiff, Nat.reduceBEq, reduceCtorEq, Int.reduceToNat, ↓reduceIte, rfP, rvP, rhP, frP, elOk_en, elOk_nd, nfx_en, nfx_nd]; done))); rintro _ _ ⟨rfl, rfl⟩) | refine call_x (hDc) rfl ⟨rfl⟩ ?_ | (refine call_h [512,3328,514,515] [] (hcl) (by decide) rfl rfl ?_; rintro _ _ ⟨rfl, rfl⟩))) <;> (try simp (maxSteps := 1000000) (disch := first | omega | (simp only [LN, numOk, verOk, rfP, rvP, rhP, frP, elOk_en, elOk_nd, nfx_en, nfx_nd] <;> omega) | exact Ck.mk rfl) only [ee, VC, T, Nat.reduceMul, Nat.reduceAdd, Nat.reduceSub, Nat.reduceLT, Nat.reduceEqDiff, Nat.reduceLeDiff, Nat.reduceBEq, reduceCtorEq, Int.reduceToNat, ↓reduceIte, rfP, rvP, rhP, frP, elOk_en, elOk_nd, nfx_en, nfx_nd]) <;> (try clear ee))
      · cases e3 f
        exact fin_t [some 512, some 513, some 514, some 515] (⟨rfl, rfl⟩) rfl (by simp [RV, RV2, RVl, RV1, tau, tget, hget, data1, oneOf]) (by simp [RH, RVl, RV1, tau, hget, data1]) (by simp [Taus, hget])
      · cases e4 (by assumption) (by omega)
        exact fin_t [some 512, some 513, some 514, some 515] (⟨rfl, rfl⟩) rfl (by simp [RV, RV2, RVl, RV1, tau, tget, hget, data1, oneOf]) (by simp [RH, RVl, RV1, tau, hget, data1]) (by simp [Taus, hget])
      · cases e4 (by assumption) (by omega)
        exact fin_t [some 512, some 513, some 514, some 515] (⟨rfl, rfl⟩) rfl (by simp [RV, RV2, RVl, RV1, tau, tget, hget, data1, oneOf]) (by simp [RH, RVl, RV1, tau, hget, data1]) (by simp [Taus, hget])
      · cases e4 (by assumption) (by omega)
        exact fin_t [some 512, some 513, some 514, some 515] (⟨rfl, rfl⟩) rfl (by simp [RV, RV2, RVl, RV1, tau, tget, hget, data1, oneOf]) (by simp [RH, RVl, RV1, tau, hget, data1]) (by simp [Taus, hget])
      · cases e5 (by assumption) (by omega)
        exact fin_t [some 4544, some 3328, some 514, some 515] (⟨rfl, rfl⟩) rfl (by simp [RV, RV2, RVl, RV1, tau, tget, hget, data1, oneOf, List.length_append]) (by simp [RH, RVl, RV1, tau, hget, data1, List.length_append]) (by simp [Taus, hget, List.length_append])
    · rw [decide_eq_false a2] at hN
      cases e2 a2
      unfold dkP dkR dkH at *
      refine fn_e tok (n := 71) (rs := [.cell 4 32, .tmp 5]) Tryz.func36 (by decide) rfl rfl rfl rfl (low_of rfl) ?_
      refine Wr.go ?_
      repeat' ((first | (have ee := True.intro; refine Wr.mk ?_) | ((first | refine br_go ?_ ?_ | refine pick_go ?_ ?_) <;> intro ee f <;> (try simp only [BB] at f) <;> (try simp only [numOk, verOk] at f)) | (have ee := True.intro; first | (refine call_h [] [] (hc) (by decide) rfl rfl ?_; rintro _ _ ⟨rfl, rfl⟩) | (refine call_hx [] [512,513,514,515] (hO) (by decide) ?_ rfl ?_; (focus (first | rfl | (simp (maxSteps := 1000000) (disch := first | omega | (simp only [LN, numOk, verOk, rfP, rvP, rhP, frP, elOk_en, elOk_nd, nfx_en, nfx_nd] <;> omega) | exact Ck.mk rfl) only [VC, T, Nat.reduceMul, Nat.reduceAdd, Nat.reduceSub, Nat.reduceLT, Nat.reduceEqDiff, Nat.reduceLeDiff, Nat.reduceBEq, reduceCtorEq, Int.reduceToNat, ↓reduceIte, rfP, rvP, rhP, frP, elOk_en, elOk_nd, nfx_en, nfx_nd]; done)))) | refine call_x (hN) rfl ⟨rfl⟩ ?_)) <;> (try simp (maxSteps := 1000000) (disch := first | omega | (simp only [LN, numOk, verOk, rfP, rvP, rhP, frP, elOk_en, elOk_nd, nfx_en, nfx_nd] <;> omega) | exact Ck.mk rfl) only [ee, VC, T, Nat.reduceMul, Nat.reduceAdd, Nat.reduceSub, Nat.reduceLT, Nat.reduceEqDiff, Nat.reduceLeDiff, Nat.reduceBEq, reduceCtorEq, Int.reduceToNat, ↓reduceIte, rfP, rvP, rhP, frP, elOk_en, elOk_nd, nfx_en, nfx_nd]) <;> (try clear ee))
      exact fin_t [some 512, some 513, some 514, some 515] (⟨rfl, rfl⟩) rfl (by simp [RV, RV2, RVl, RV1, tau, tget, hget, data1, oneOf]) (by simp [RH, RVl, RV1, tau, hget, data1]) (by simp [Taus, hget])
  · rw [decide_eq_false a1] at hO
    cases e1 a1
    unfold dkP dkR dkH at *
    refine fn_e tok (n := 71) (rs := [.cell 4 32, .tmp 5]) Tryz.func36 (by decide) rfl rfl rfl rfl (low_of rfl) ?_
    refine Wr.go ?_
    repeat' ((first | (have ee := True.intro; refine Wr.mk ?_) | ((first | refine br_go ?_ ?_ | refine pick_go ?_ ?_) <;> intro ee f <;> (try simp only [BB] at f) <;> (try simp only [numOk, verOk] at f)) | (have ee := True.intro; first | (refine call_h [] [] (hc) (by decide) rfl rfl ?_; rintro _ _ ⟨rfl, rfl⟩) | (refine call_hx [] [512,513,514,515] (hO) (by decide) ?_ rfl ?_; (focus (first | rfl | (simp (maxSteps := 1000000) (disch := first | omega | (simp only [LN, numOk, verOk, rfP, rvP, rhP, frP, elOk_en, elOk_nd, nfx_en, nfx_nd] <;> omega) | exact Ck.mk rfl) only [VC, T, Nat.reduceMul, Nat.reduceAdd, Nat.reduceSub, Nat.reduceLT, Nat.reduceEqDiff, Nat.reduceLeDiff, Nat.reduceBEq, reduceCtorEq, Int.reduceToNat, ↓reduceIte, rfP, rvP, rhP, frP, elOk_en, elOk_nd, nfx_en, nfx_nd]; done)))))) <;> (try simp (maxSteps := 1000000) (disch := first | omega | (simp only [LN, numOk, verOk, rfP, rvP, rhP, frP, elOk_en, elOk_nd, nfx_en, nfx_nd] <;> omega) | exact Ck.mk rfl) only [ee, VC, T, Nat.reduceMul, Nat.reduceAdd, Nat.reduceSub, Nat.reduceLT, Nat.reduceEqDiff, Nat.reduceLeDiff, Nat.reduceBEq, reduceCtorEq, Int.reduceToNat, ↓reduceIte, rfP, rvP, rhP, frP, elOk_en, elOk_nd, nfx_en, nfx_nd]) <;> (try clear ee))
    exact fin_t [some 512, some 513, some 514, some 515] (⟨rfl, rfl⟩) rfl (by simp [RV, RV2, RVl, RV1, tau, tget, hget, data1, oneOf]) (by simp [RH, RVl, RV1, tau, hget, data1]) (by simp [Taus, hget])
theorem spec_SyncNames_R (d : Dk) (h : DkB 1048575 1048576 d) : FnE Tryz.prog 219 [dkP d] [] (fun r m => r = dkR 64 (syncNamesT d) ∧ m = dkH (syncNamesT d)) := by
  have ok := h.ok (by decide) (by decide)
  have hes := h.es
  have hss := h.ss
  have hns := h.ns
  have hos := h.os
  have hc := spec_l05Copy_R d ok
  have hO := spec_DiskOk d ok
  have e1 : ¬ diskOk d → syncNamesT d = d := fun a => if_pos a
  have e2 : diskOk d → syncNamesT d = cleanT (d.1, d.2.1, d.2.1, [], d.2.2.2.2) := fun a => if_neg fun k => k a
  have hcl := spec_l06Clean_R (d.1, d.2.1, d.2.1, [], d.2.2.2.2) ⟨ok.ns, ok.es, ok.es, Nat.zero_le _, ok.nt, ok.et, ok.et, fun x hx => absurd hx (by simp)⟩
  have hcc : ∀ x y, (cleanT (y, x)) = ((cleanT (y, x)).1, x) := fun x y => rfl
  rw [hcc] at e2
  generalize (cleanT (d.1, d.2.1, d.2.1, [], d.2.2.2.2)).1 = C at *
  generalize syncNamesT d = q at *
  unfold dkP dkR dkH at *
  simp only [List.map_nil, List.length_nil] at hcl
  refine fn_e tok (n := 18) (rs := [.cell 2 32]) Tryz.func219 (by decide) rfl rfl rfl rfl (low_of rfl) ?_
  refine Wr.go ?_
  repeat' ((first | (have ee := True.intro; refine Wr.mk ?_) | ((first | refine br_go ?_ ?_ | refine pick_go ?_ ?_) <;> intro ee f <;> (try simp only [BB] at f) <;> (try simp only [numOk, verOk] at f)) | (have ee := True.intro; first | (refine call_h [] [] (hc) (by decide) rfl rfl ?_; rintro _ _ ⟨rfl, rfl⟩) | (refine call_hx [] [320,321,322,323] (hO) (by decide) ?_ rfl ?_; (focus (first | rfl | (simp (maxSteps := 1000000) (disch := first | omega | (simp only [LN, numOk, verOk, rfP, rvP, rhP, frP, elOk_en, elOk_nd, nfx_en, nfx_nd] <;> omega) | exact Ck.mk rfl) only [VC, T, Nat.reduceMul, Nat.reduceAdd, Nat.reduceSub, Nat.reduceLT, Nat.reduceEqDiff, Nat.reduceLeDiff, Nat.reduceBEq, reduceCtorEq, Int.reduceToNat, ↓reduceIte, rfP, rvP, rhP, frP, elOk_en, elOk_nd, nfx_en, nfx_nd]; done)))) | (refine call_h [320,321,640,960] [] (hcl) (by decide) rfl rfl ?_; rintro _ _ ⟨rfl, rfl⟩))) <;> (try simp (maxSteps := 1000000) (disch := first | omega | (simp only [LN, numOk, verOk, rfP, rvP, rhP, frP, elOk_en, elOk_nd, nfx_en, nfx_nd] <;> omega) | exact Ck.mk rfl) only [ee, VC, T, Nat.reduceMul, Nat.reduceAdd, Nat.reduceSub, Nat.reduceLT, Nat.reduceEqDiff, Nat.reduceLeDiff, Nat.reduceBEq, reduceCtorEq, Int.reduceToNat, ↓reduceIte, rfP, rvP, rhP, frP, elOk_en, elOk_nd, nfx_en, nfx_nd]) <;> (try clear ee))
  · cases e2 f
    exact fin_t [some 1152, some 321, some 640, some 960] (⟨rfl, rfl⟩) rfl (by simp [RV, RV2, RVl, RV1, tau, tget, hget, data1, oneOf]) (by simp [RH, RVl, RV1, tau, hget, data1]) (by simp [Taus, hget])
  · cases e1 f
    exact fin_t [some 320, some 321, some 322, some 323] (⟨rfl, rfl⟩) rfl (by simp [RV, RV2, RVl, RV1, tau, tget, hget, data1, oneOf]) (by simp [RH, RVl, RV1, tau, hget, data1]) (by simp [Taus, hget])
theorem spec_SyncNames (d : Dk) (h : DkB 1048575 1048576 d) : Fn Tryz.prog 219 [dkP d] [] (dkP (syncNamesT d)) [] := by
  obtain ⟨_, _, ⟨rfl, rfl⟩, k⟩ := spec_SyncNames_R d h
  refine k.far ?_
  simp [fz, fz2, fz1, cvtl, elems, dkR, dkH, dkP, hget, data1]
theorem spec_CreateFile (d : Dk) (n : ByteArray) (h : DkB 1048575 1048576 d) (hn : n.size ≤ 1048576) : Fn Tryz.prog 36 [dkP d, .str n] [] (.tup [dkP (createT d n).1, .int .i64 (createT d n).2]) [] := by
  obtain ⟨_, _, ⟨rfl, rfl⟩, k⟩ := spec_CreateFile_R d n h hn
  refine k.far ?_
  simp [fz, fz2, fz1, cvtl, elems, dkR, dkH, dkP, hget, data1]
theorem spec_SyncFile_R (d : Dk) (n : ByteArray) (h : DkB 1048575 1048576 d) : FnE Tryz.prog 220 [dkP d, .str n] [] (fun r m => r = .tup [dkR 64 (syncT d n).1, .int .i64 (syncT d n).2] ∧ m = dkH (syncT d n).1) := by
  have ok := h.ok (by decide) (by decide)
  have hes := h.es
  have hss := h.ss
  have hns := h.ns
  have hos := h.os
  have hc := spec_l05Copy_R d ok
  have hO := spec_DiskOk d ok
  have hH : Fn Tryz.prog 95 [.far (d.2.1.map enP), .str n] [] (.bool (decide (hasT d.2.1 n))) [] := spec_l06Has d.2.1 n (by omega)
  have hE := spec_EntryAt d.2.1 n (by omega)
  have hNd := spec_l05Node d (entT d.2.1 n) (by omega)
  have e1 : ¬ diskOk d → syncT d n = (d, 3) := fun a => if_pos (.inl a)
  have e2 : ¬ hasT d.2.1 n → syncT d n = (d, 3) := fun a => if_pos (.inr a)
  by_cases a1 : diskOk d
  · rw [decide_eq_true a1] at hO
    by_cases a2 : hasT d.2.1 n
    · rw [decide_eq_true a2] at hH
      obtain ⟨t1, t2⟩ := node_there a1 a2
      have e3 : syncT d n = (setNd d (nodeI d.1 (entT d.2.1 n)).toNat ((d.1.getD (nodeI d.1 (entT d.2.1 n)).toNat default).1, (d.1.getD (nodeI d.1 (entT d.2.1 n)).toNat default).2.1, (d.1.getD (nodeI d.1 (entT d.2.1 n)).toNat default).2.1.size), 0) := if_neg (by simp [a1, a2])
      obtain ⟨k, hk⟩ : ∃ k : Nat, nodeI d.1 (entT d.2.1 n) = k := ⟨_, (Int.toNat_of_nonneg t1).symm⟩
      rw [hk] at t1 t2 e3 hNd
      rw [Int.toNat_natCast] at e3
      have hg : (d.1.map ndP).getD k .junk = .agg [.int .i64 (d.1.getD k default).1, .str (d.1.getD k default).2.1, .int .i64 (d.1.getD k default).2.2] := by
        rw [List.getD_eq_getElem?_getD, List.getElem?_map, List.getElem?_eq_getElem (by omega), List.getD_eq_getElem?_getD, List.getElem?_eq_getElem (by omega)]; rfl
      have hu : ∀ a b c z : PV, upd (.agg [a, b, c]) 2 [z] = .agg [a, b, z] := fun _ _ _ _ => rfl
      have hset : (d.1.map ndP).set k (.agg [.int .i64 (d.1.getD k default).1, .str (d.1.getD k default).2.1, .int .i64 (d.1.getD k default).2.1.size]) = (d.1.set k ((d.1.getD k default).1, (d.1.getD k default).2.1, (d.1.getD k default).2.1.size)).map ndP := by rw [List.map_set]; rfl
      have hz := nd_le h k
      rw [e3]
      unfold setNd dkP dkR dkH at *
      generalize entT d.2.1 n = en at *
      refine fn_e tok (n := 39) (rs := [.cell 4 32, .tmp 5]) Tryz.func220 (by decide) rfl rfl rfl rfl (low_of rfl) ?_
      refine Wr.go ?_
      repeat' ((first | (have ee := True.intro; refine Wr.mk ?_) | ((first | refine br_go ?_ ?_ | refine pick_go ?_ ?_) <;> intro ee f <;> (try simp only [BB] at f) <;> (try simp only [numOk, verOk] at f)) | (have ee := True.intro; first | refine dr_go mixed (id := 4) [([], [2], []), ([], [2], []), ([1], [21], []), ([], [1], []), ([1, 2, 3], [22, 23], []), ([0, 1, 2, 3, 4], [20, 24], []), ([0, 1, 2, 3, 4, 5], [25], [])] rfl rfl rfl ?_ | refine dr_go mixed (id := 5) [([], [2], []), ([0], [26], []), ([], [6], []), ([], [2], []), ([3], [29], []), ([], [6], []), ([3, 4, 5], [30, 31], []), ([3, 4, 5, 6], [32], []), ([3, 4, 5, 6, 7], [33], []), ([3, 4, 5, 6, 7, 8], [34], []), ([0, 1, 2, 3, 4, 5, 6, 7, 8, 9], [27, 28], []), ([0, 1, 2, 3, 4, 5, 6, 7, 8, 9, 10], [36], []), ([0, 1, 2, 3, 4, 5, 6, 7, 8, 9, 10, 11], [35, 37], [])] rfl rfl rfl ?_ | (refine call_h [] [] (hc) (by decide) rfl rfl ?_; rintro _ _ ⟨rfl, rfl⟩) | (refine call_hx [] [576,577,578,579] (hO) (by decide) ?_ rfl ?_; (focus (first | rfl | (simp (maxSteps := 1000000) (disch := first | omega | (simp only [LN, numOk, verOk, rfP, rvP, rhP, frP, elOk_en, elOk_nd, nfx_en, nfx_nd, hg, hu, hset] <;> omega) | exact Ck.mk rfl) only [VC, T, Nat.reduceMul, Nat.reduceAdd, Nat.reduceSub, Nat.reduceLT, Nat.reduceEqDiff, Nat.reduceLeDiff, Nat.reduceBEq, reduceCtorEq, Int.reduceToNat, ↓reduceIte, rfP, rvP, rhP, frP, elOk_en, elOk_nd, nfx_en, nfx_nd, hg, hu, hset]; done)))) | (refine call_hx [] [577] (hH) (by decide) ?_ rfl ?_; (focus (first | rfl | (simp (maxSteps := 1000000) (disch := first | omega | (simp only [LN, numOk, verOk, rfP, rvP, rhP, frP, elOk_en, elOk_nd, nfx_en, nfx_nd, hg, hu, hset] <;> omega) | exact Ck.mk rfl) only [VC, T, Nat.reduceMul, Nat.reduceAdd, Nat.reduceSub, Nat.reduceLT, Nat.reduceEqDiff, Nat.reduceLeDiff, Nat.reduceBEq, reduceCtorEq, Int.reduceToNat, ↓reduceIte, rfP, rvP, rhP, frP, elOk_en, elOk_nd, nfx_en, nfx_nd, hg, hu, hset]; done)))) | (refine call_hx [] [577] (hE) (by decide) ?_ rfl ?_; (focus (first | rfl | (simp (maxSteps := 1000000) (disch := first | omega | (simp only [LN, numOk, verOk, rfP, rvP, rhP, frP, elOk_en, elOk_nd, nfx_en, nfx_nd, hg, hu, hset] <;> omega) | exact Ck.mk rfl) only [VC, T, Nat.reduceMul, Nat.reduceAdd, Nat.reduceSub, Nat.reduceLT, Nat.reduceEqDiff, Nat.reduceLeDiff, Nat.reduceBEq, reduceCtorEq, Int.reduceToNat, ↓reduceIte, rfP, rvP, rhP, frP, elOk_en, elOk_nd, nfx_en, nfx_nd, hg, hu, hset]; done)))) | (refine call_hx [] [576,577,578,579] (hNd) (by decide) ?_ rfl ?_; (focus (first | rfl | (simp (maxSteps := 1000000) (disch := first | omega | (simp only [LN, numOk, verOk, rfP, rvP, rhP, frP, elOk_en, elOk_nd, nfx_en, nfx_nd, hg, hu, hset] <;> omega) | exact Ck.mk rfl) only [VC, T, Nat.reduceMul, Nat.reduceAdd, Nat.reduceSub, Nat.reduceLT, Nat.reduceEqDiff, Nat.reduceLeDiff, Nat.reduceBEq, reduceCtorEq, Int.reduceToNat, ↓reduceIte, rfP, rvP, rhP, frP, elOk_en, elOk_nd, nfx_en, nfx_nd, hg, hu, hset]; done)))))) <;> (try simp (maxSteps := 1000000) (disch := first | omega | (simp only [LN, numOk, verOk, rfP, rvP, rhP, frP, elOk_en, elOk_nd, nfx_en, nfx_nd, hg, hu, hset] <;> omega) | exact Ck.mk rfl) only [ee, VC, T, Nat.reduceMul, Nat.reduceAdd, Nat.reduceSub, Nat.reduceLT, Nat.reduceEqDiff, Nat.reduceLeDiff, Nat.reduceBEq, reduceCtorEq, Int.reduceToNat, ↓reduceIte, rfP, rvP, rhP, frP, elOk_en, elOk_nd, nfx_en, nfx_nd, hg, hu, hset]) <;> (try clear ee))
      exact fin_t [some 576, some 577, some 578, some 579] (⟨rfl, rfl⟩) rfl (by simp [RV, RV2, RVl, RV1, tau, tget, hget, data1, oneOf, List.length_set]) (by simp [RH, RVl, RV1, tau, hget, data1, List.length_set]) (by simp [Taus, hget, List.length_set])
    · rw [decide_eq_false a2] at hH
      rw [e2 a2]
      unfold dkP dkR dkH at *
      refine fn_e tok (n := 39) (rs := [.cell 4 32, .tmp 5]) Tryz.func220 (by decide) rfl rfl rfl rfl (low_of rfl) ?_
      refine Wr.go ?_
      repeat' ((first | (have ee := True.intro; refine Wr.mk ?_) | ((first | refine br_go ?_ ?_ | refine pick_go ?_ ?_) <;> intro ee f <;> (try simp only [BB] at f) <;> (try simp only [numOk, verOk] at f)) | (have ee := True.intro; first | (refine call_h [] [] (hc) (by decide) rfl rfl ?_; rintro _ _ ⟨rfl, rfl⟩) | (refine call_hx [] [576,577,578,579] (hO) (by decide) ?_ rfl ?_; (focus (first | rfl | (simp (maxSteps := 1000000) (disch := first | omega | (simp only [LN, numOk, verOk, rfP, rvP, rhP, frP, elOk_en, elOk_nd, nfx_en, nfx_nd] <;> omega) | exact Ck.mk rfl) only [VC, T, Nat.reduceMul, Nat.reduceAdd, Nat.reduceSub, Nat.reduceLT, Nat.reduceEqDiff, Nat.reduceLeDiff, Nat.reduceBEq, reduceCtorEq, Int.reduceToNat, ↓reduceIte, rfP, rvP, rhP, frP, elOk_en, elOk_nd, nfx_en, nfx_nd]; done)))) | (refine call_hx [] [577] (hH) (by decide) ?_ rfl ?_; (focus (first | rfl | (simp (maxSteps := 1000000) (disch := first | omega | (simp only [LN, numOk, verOk, rfP, rvP, rhP, frP, elOk_en, elOk_nd, nfx_en, nfx_nd] <;> omega) | exact Ck.mk rfl) only [VC, T, Nat.reduceMul, Nat.reduceAdd, Nat.reduceSub, Nat.reduceLT, Nat.reduceEqDiff, Nat.reduceLeDiff, Nat.reduceBEq, reduceCtorEq, Int.reduceToNat, ↓reduceIte, rfP, rvP, rhP, frP, elOk_en, elOk_nd, nfx_en, nfx_nd]; done)))))) <;> (try simp (maxSteps := 1000000) (disch := first | omega | (simp only [LN, numOk, verOk, rfP, rvP, rhP, frP, elOk_en, elOk_nd, nfx_en, nfx_nd] <;> omega) | exact Ck.mk rfl) only [ee, VC, T, Nat.reduceMul, Nat.reduceAdd, Nat.reduceSub, Nat.reduceLT, Nat.reduceEqDiff, Nat.reduceLeDiff, Nat.reduceBEq, reduceCtorEq, Int.reduceToNat, ↓reduceIte, rfP, rvP, rhP, frP, elOk_en, elOk_nd, nfx_en, nfx_nd]) <;> (try clear ee))
      exact fin_t [some 576, some 577, some 578, some 579] (⟨rfl, rfl⟩) rfl (by simp [RV, RV2, RVl, RV1, tau, tget, hget, data1, oneOf]) (by simp [RH, RVl, RV1, tau, hget, data1]) (by simp [Taus, hget])
  · rw [decide_eq_false a1] at hO
    rw [e1 a1]
    unfold dkP dkR dkH at *
    refine fn_e tok (n := 39) (rs := [.cell 4 32, .tmp 5]) Tryz.func220 (by decide) rfl rfl rfl rfl (low_of rfl) ?_
    refine Wr.go ?_
    repeat' ((first | (have ee := True.intro; refine Wr.mk ?_) | ((first | refine br_go ?_ ?_ | refine pick_go ?_ ?_) <;> intro ee f <;> (try simp only [BB] at f) <;> (try simp only [numOk, verOk] at f)) | (have ee := True.intro; first | (refine call_h [] [] (hc) (by decide) rfl rfl ?_; rintro _ _ ⟨rfl, rfl⟩) | (refine call_hx [] [576,577,578,579] (hO) (by decide) ?_ rfl ?_; (focus (first | rfl | (simp (maxSteps := 1000000) (disch := first | omega | (simp only [LN, numOk, verOk, rfP, rvP, rhP, frP, elOk_en, elOk_nd, nfx_en, nfx_nd] <;> omega) | exact Ck.mk rfl) only [VC, T, Nat.reduceMul, Nat.reduceAdd, Nat.reduceSub, Nat.reduceLT, Nat.reduceEqDiff, Nat.reduceLeDiff, Nat.reduceBEq, reduceCtorEq, Int.reduceToNat, ↓reduceIte, rfP, rvP, rhP, frP, elOk_en, elOk_nd, nfx_en, nfx_nd]; done)))))) <;> (try simp (maxSteps := 1000000) (disch := first | omega | (simp only [LN, numOk, verOk, rfP, rvP, rhP, frP, elOk_en, elOk_nd, nfx_en, nfx_nd] <;> omega) | exact Ck.mk rfl) only [ee, VC, T, Nat.reduceMul, Nat.reduceAdd, Nat.reduceSub, Nat.reduceLT, Nat.reduceEqDiff, Nat.reduceLeDiff, Nat.reduceBEq, reduceCtorEq, Int.reduceToNat, ↓reduceIte, rfP, rvP, rhP, frP, elOk_en, elOk_nd, nfx_en, nfx_nd]) <;> (try clear ee))
    exact fin_t [some 576, some 577, some 578, some 579] (⟨rfl, rfl⟩) rfl (by simp [RV, RV2, RVl, RV1, tau, tget, hget, data1, oneOf]) (by simp [RH, RVl, RV1, tau, hget, data1]) (by simp [Taus, hget])
theorem spec_SyncFile (d : Dk) (n : ByteArray) (h : DkB 1048575 1048576 d) : Fn Tryz.prog 220 [dkP d, .str n] [] (.tup [dkP (syncT d n).1, .int .i64 (syncT d n).2]) [] := by
  obtain ⟨_, _, ⟨rfl, rfl⟩, k⟩ := spec_SyncFile_R d n h
  refine k.far ?_
  simp [fz, fz2, fz1, cvtl, elems, dkR, dkH, dkP, hget, data1]
theorem spec_AppendFile_R (d : Dk) (n t : ByteArray) (h : DkB 1048575 1048576 d) (ht : t.size ≤ 1048576) : FnE Tryz.prog 38 [dkP d, .str n, .str t] [] (fun r m => r = .tup [dkR 64 (appendT d n t).1, .int .i64 (appendT d n t).2] ∧ m = dkH (appendT d n t).1) := by
  have ok := h.ok (by decide) (by decide)
  have hes := h.es
  have hss := h.ss
  have hns := h.ns
  have hos := h.os
  have hc := spec_l05Copy_R d ok
  have hO := spec_DiskOk d ok
  have hH : Fn Tryz.prog 95 [.far (d.2.1.map enP), .str n] [] (.bool (decide (hasT d.2.1 n))) [] := spec_l06Has d.2.1 n (by omega)
  have hE := spec_EntryAt d.2.1 n (by omega)
  have hNd := spec_l05Node d (entT d.2.1 n) (by omega)
  have hU := spec_UsedOn d ok
  have hu0 := usedT_nn d
  have e1 : ¬ diskOk d → appendT d n t = (d, 3) := fun a => if_pos (.inl a)
  have e2 : ¬ hasT d.2.1 n → appendT d n t = (d, 3) := fun a => if_pos (.inr a)
  by_cases a1 : diskOk d
  · rw [decide_eq_true a1] at hO
    by_cases a2 : hasT d.2.1 n
    · rw [decide_eq_true a2] at hH
      obtain ⟨t1, t2⟩ := node_there a1 a2
      obtain ⟨_, hr1, _, hr2⟩ := a1.1
      obtain ⟨k, hk⟩ : ∃ k : Nat, nodeI d.1 (entT d.2.1 n) = k := ⟨_, (Int.toNat_of_nonneg t1).symm⟩
      have e3 : (t.size : Int) > d.2.2.2.2.1 - usedT d → appendT d n t = (setNd d k ((d.1.getD k default).1, (d.1.getD k default).2.1 ++ t.extract 0 (d.2.2.2.2.1 - usedT d).toNat, (d.1.getD k default).2.2), 5) := fun q => by
        unfold appendT
        rw [if_neg (by simp [a1, a2]), if_pos q, hk, Int.toNat_natCast]
      have e4 : ¬ (t.size : Int) > d.2.2.2.2.1 - usedT d → appendT d n t = (setNd d k ((d.1.getD k default).1, (d.1.getD k default).2.1 ++ t, (d.1.getD k default).2.2), 0) := fun q => by
        unfold appendT
        rw [if_neg (by simp [a1, a2]), if_neg q, hk, Int.toNat_natCast]
      rw [hk] at t1 t2 hNd
      have hg : (d.1.map ndP).getD k .junk = .agg [.int .i64 (d.1.getD k default).1, .str (d.1.getD k default).2.1, .int .i64 (d.1.getD k default).2.2] := by
        rw [List.getD_eq_getElem?_getD, List.getElem?_map, List.getElem?_eq_getElem (by omega), List.getD_eq_getElem?_getD, List.getElem?_eq_getElem (by omega)]; rfl
      have hu : ∀ a b c z : PV, upd (.agg [a, b, c]) 1 [z] = .agg [a, z, c] := fun _ _ _ _ => rfl
      have hset : ∀ s, (d.1.map ndP).set k (.agg [.int .i64 (d.1.getD k default).1, .str s, .int .i64 (d.1.getD k default).2.2]) = (d.1.set k ((d.1.getD k default).1, s, (d.1.getD k default).2.2)).map ndP := fun s => by rw [List.map_set]; rfl
      have hz := nd_le h k
      have hex := ex_le t 0 (d.2.2.2.2.1 - usedT d).toNat
      generalize appendT d n t = q at *
      unfold setNd at *
      unfold dkP dkR dkH at *
      generalize entT d.2.1 n = en at *
      generalize usedT d = u at *
      refine fn_e tok (n := 68) (rs := [.cell 6 32, .tmp 7]) Tryz.func38 (by decide) rfl rfl rfl rfl (low_of rfl) ?_
      refine Wr.go ?_
      repeat' ((first | (have ee := True.intro; refine Wr.mk ?_) | ((first | refine br_go ?_ ?_ | refine pick_go ?_ ?_) <;> intro ee f <;> (try simp only [BB] at f) <;> (try simp only [numOk, verOk] at f)) | (have ee := True.intro; first | refine dr_go mixed (id := 4) [([], [3], []), ([], [3], []), ([1], [24], []), ([], [1], []), ([1, 2, 3], [25, 26], []), ([0, 1, 2, 3, 4], [23, 27], []), ([0, 1, 2, 3, 4, 5], [28], [])] rfl rfl rfl ?_ | refine dr_go mixed (id := 5) [([], [3], []), ([0], [29], []), ([], [3], []), ([2], [31], []), ([0, 1, 2, 3], [30, 32], []), ([0, 1, 2, 3, 4], [33], [])] rfl rfl rfl ?_ | refine dr_go mixed (id := 7) [([], [3], []), ([0], [38], []), ([], [8], []), ([], [3], []), ([3], [41], []), ([], [8], []), ([3, 4, 5], [42, 43], []), ([3, 4, 5, 6], [44], []), ([3, 4, 5, 6, 7], [45], []), ([], [2], []), ([], [9], []), ([9, 10], [47, 48], []), ([3, 4, 5, 6, 7, 8, 9, 10, 11], [46, 49], []), ([0, 1, 2, 3, 4, 5, 6, 7, 8, 9, 10, 11, 12], [39, 40], []), ([0, 1, 2, 3, 4, 5, 6, 7, 8, 9, 10, 11, 12, 13], [51], []), ([0, 1, 2, 3, 4, 5, 6, 7, 8, 9, 10, 11, 12, 13, 14], [50, 52], [])] rfl rfl rfl ?_ | refine dr_go mixed (id := 9) [([], [3], []), ([0], [54], []), ([], [8], []), ([], [3], []), ([3], [57], []), ([], [8], []), ([3, 4, 5], [58, 59], []), ([3, 4, 5, 6], [60], []), ([3, 4, 5, 6, 7], [61], []), ([], [2], []), ([3, 4, 5, 6, 7, 8, 9], [62, 63], []), ([0, 1, 2, 3, 4, 5, 6, 7, 8, 9, 10], [55, 56], []), ([0, 1, 2, 3, 4, 5, 6, 7, 8, 9, 10, 11], [65], []), ([0, 1, 2, 3, 4, 5, 6, 7, 8, 9, 10, 11, 12], [64, 66], [])] rfl rfl rfl ?_ | (refine call_h [] [] (hc) (by decide) rfl rfl ?_; rintro _ _ ⟨rfl, rfl⟩) | (refine call_hx [] [768,769,770,771] (hO) (by decide) ?_ rfl ?_; (focus (first | rfl | (simp (maxSteps := 1000000) (disch := first | omega | (simp only [LN, numOk, verOk, rfP, rvP, rhP, frP, elOk_en, elOk_nd, nfx_en, nfx_nd, hg, hu, hset] <;> omega) | exact Ck.mk rfl) only [VC, T, Nat.reduceMul, Nat.reduceAdd, Nat.reduceSub, Nat.reduceLT, Nat.reduceEqDiff, Nat.reduceLeDiff, Nat.reduceBEq, reduceCtorEq, Int.reduceToNat, ↓reduceIte, rfP, rvP, rhP, frP, elOk_en, elOk_nd, nfx_en, nfx_nd, hg, hu, hset]; done)))) | (refine call_hx [] [769] (hH) (by decide) ?_ rfl ?_; (focus (first | rfl | (simp (maxSteps := 1000000) (disch := first | omega | (simp only [LN, numOk, verOk, rfP, rvP, rhP, frP, elOk_en, elOk_nd, nfx_en, nfx_nd, hg, hu, hset] <;> omega) | exact Ck.mk rfl) only [VC, T, Nat.reduceMul, Nat.reduceAdd, Nat.reduceSub, Nat.reduceLT, Nat.reduceEqDiff, Nat.reduceLeDiff, Nat.reduceBEq, reduceCtorEq, Int.reduceToNat, ↓reduceIte, rfP, rvP, rhP, frP, elOk_en, elOk_nd, nfx_en, nfx_nd, hg, hu, hset]; done)))) | (refine call_hx [] [769] (hE) (by decide) ?_ rfl ?_; (focus (first | rfl | (simp (maxSteps := 1000000) (disch := first | omega | (simp only [LN, numOk, verOk, rfP, rvP, rhP, frP, elOk_en, elOk_nd, nfx_en, nfx_nd, hg, hu, hset] <;> omega) | exact Ck.mk rfl) only [VC, T, Nat.reduceMul, Nat.reduceAdd, Nat.reduceSub, Nat.reduceLT, Nat.reduceEqDiff, Nat.reduceLeDiff, Nat.reduceBEq, reduceCtorEq, Int.reduceToNat, ↓reduceIte, rfP, rvP, rhP, frP, elOk_en, elOk_nd, nfx_en, nfx_nd, hg, hu, hset]; done)))) | (refine call_hx [] [768,769,770,771] (hNd) (by decide) ?_ rfl ?_; (focus (first | rfl | (simp (maxSteps := 1000000) (disch := first | omega | (simp only [LN, numOk, verOk, rfP, rvP, rhP, frP, elOk_en, elOk_nd, nfx_en, nfx_nd, hg, hu, hset] <;> omega) | exact Ck.mk rfl) only [VC, T, Nat.reduceMul, Nat.reduceAdd, Nat.reduceSub, Nat.reduceLT, Nat.reduceEqDiff, Nat.reduceLeDiff, Nat.reduceBEq, reduceCtorEq, Int.reduceToNat, ↓reduceIte, rfP, rvP, rhP, frP, elOk_en, elOk_nd, nfx_en, nfx_nd, hg, hu, hset]; done)))) | (refine call_hx [] [768,769,770,771] (hU) (by decide) ?_ rfl ?_; (focus (first | rfl | (simp (maxSteps := 1000000) (disch := first | omega | (simp only [LN, numOk, verOk, rfP, rvP, rhP, frP, elOk_en, elOk_nd, nfx_en, nfx_nd, hg, hu, hset] <;> omega) | exact Ck.mk rfl) only [VC, T, Nat.reduceMul, Nat.reduceAdd, Nat.reduceSub, Nat.reduceLT, Nat.reduceEqDiff, Nat.reduceLeDiff, Nat.reduceBEq, reduceCtorEq, Int.reduceToNat, ↓reduceIte, rfP, rvP, rhP, frP, elOk_en, elOk_nd, nfx_en, nfx_nd, hg, hu, hset]; done)))))) <;> (try simp (maxSteps := 1000000) (disch := first | omega | (simp only [LN, numOk, verOk, rfP, rvP, rhP, frP, elOk_en, elOk_nd, nfx_en, nfx_nd, hg, hu, hset] <;> omega) | exact Ck.mk rfl) only [ee, VC, T, Nat.reduceMul, Nat.reduceAdd, Nat.reduceSub, Nat.reduceLT, Nat.reduceEqDiff, Nat.reduceLeDiff, Nat.reduceBEq, reduceCtorEq, Int.reduceToNat, ↓reduceIte, rfP, rvP, rhP, frP, elOk_en, elOk_nd, nfx_en, nfx_nd, hg, hu, hset]) <;> (try clear ee))
      · cases e3 (by omega)
        exact fin_t [some 768, some 769, some 770, some 771] (⟨rfl, rfl⟩) rfl (by simp [RV, RV2, RVl, RV1, tau, tget, hget, data1, oneOf, List.length_set]) (by simp [RH, RVl, RV1, tau, hget, data1, List.length_set]) (by simp [Taus, hget, List.length_set])
      · cases e4 (by omega)
        exact fin_t [some 768, some 769, some 770, some 771] (⟨rfl, rfl⟩) rfl (by simp [RV, RV2, RVl, RV1, tau, tget, hget, data1, oneOf, List.length_set]) (by simp [RH, RVl, RV1, tau, hget, data1, List.length_set]) (by simp [Taus, hget, List.length_set])
    · rw [decide_eq_false a2] at hH
      rw [e2 a2]
      unfold dkP dkR dkH at *
      refine fn_e tok (n := 68) (rs := [.cell 6 32, .tmp 7]) Tryz.func38 (by decide) rfl rfl rfl rfl (low_of rfl) ?_
      refine Wr.go ?_
      repeat' ((first | (have ee := True.intro; refine Wr.mk ?_) | ((first | refine br_go ?_ ?_ | refine pick_go ?_ ?_) <;> intro ee f <;> (try simp only [BB] at f) <;> (try simp only [numOk, verOk] at f)) | (have ee := True.intro; first | (refine call_h [] [] (hc) (by decide) rfl rfl ?_; rintro _ _ ⟨rfl, rfl⟩) | (refine call_hx [] [768,769,770,771] (hO) (by decide) ?_ rfl ?_; (focus (first | rfl | (simp (maxSteps := 1000000) (disch := first | omega | (simp only [LN, numOk, verOk, rfP, rvP, rhP, frP, elOk_en, elOk_nd, nfx_en, nfx_nd] <;> omega) | exact Ck.mk rfl) only [VC, T, Nat.reduceMul, Nat.reduceAdd, Nat.reduceSub, Nat.reduceLT, Nat.reduceEqDiff, Nat.reduceLeDiff, Nat.reduceBEq, reduceCtorEq, Int.reduceToNat, ↓reduceIte, rfP, rvP, rhP, frP, elOk_en, elOk_nd, nfx_en, nfx_nd]; done)))) | (refine call_hx [] [769] (hH) (by decide) ?_ rfl ?_; (focus (first | rfl | (simp (maxSteps := 1000000) (disch := first | omega | (simp only [LN, numOk, verOk, rfP, rvP, rhP, frP, elOk_en, elOk_nd, nfx_en, nfx_nd] <;> omega) | exact Ck.mk rfl) only [VC, T, Nat.reduceMul, Nat.reduceAdd, Nat.reduceSub, Nat.reduceLT, Nat.reduceEqDiff, Nat.reduceLeDiff, Nat.reduceBEq, reduceCtorEq, Int.reduceToNat, ↓reduceIte, rfP, rvP, rhP, frP, elOk_en, elOk_nd, nfx_en, nfx_nd]; done)))))) <;> (try simp (maxSteps := 1000000) (disch := first | omega | (simp only [LN, numOk, verOk, rfP, rvP, rhP, frP, elOk_en, elOk_nd, nfx_en, nfx_nd] <;> omega) | exact Ck.mk rfl) only [ee, VC, T, Nat.reduceMul, Nat.reduceAdd, Nat.reduceSub, Nat.reduceLT, Nat.reduceEqDiff, Nat.reduceLeDiff, Nat.reduceBEq, reduceCtorEq, Int.reduceToNat, ↓reduceIte, rfP, rvP, rhP, frP, elOk_en, elOk_nd, nfx_en, nfx_nd]) <;> (try clear ee))
      exact fin_t [some 768, some 769, some 770, some 771] (⟨rfl, rfl⟩) rfl (by simp [RV, RV2, RVl, RV1, tau, tget, hget, data1, oneOf]) (by simp [RH, RVl, RV1, tau, hget, data1]) (by simp [Taus, hget])
  · rw [decide_eq_false a1] at hO
    rw [e1 a1]
    unfold dkP dkR dkH at *
    refine fn_e tok (n := 68) (rs := [.cell 6 32, .tmp 7]) Tryz.func38 (by decide) rfl rfl rfl rfl (low_of rfl) ?_
    refine Wr.go ?_
    repeat' ((first | (have ee := True.intro; refine Wr.mk ?_) | ((first | refine br_go ?_ ?_ | refine pick_go ?_ ?_) <;> intro ee f <;> (try simp only [BB] at f) <;> (try simp only [numOk, verOk] at f)) | (have ee := True.intro; first | (refine call_h [] [] (hc) (by decide) rfl rfl ?_; rintro _ _ ⟨rfl, rfl⟩) | (refine call_hx [] [768,769,770,771] (hO) (by decide) ?_ rfl ?_; (focus (first | rfl | (simp (maxSteps := 1000000) (disch := first | omega | (simp only [LN, numOk, verOk, rfP, rvP, rhP, frP, elOk_en, elOk_nd, nfx_en, nfx_nd] <;> omega) | exact Ck.mk rfl) only [VC, T, Nat.reduceMul, Nat.reduceAdd, Nat.reduceSub, Nat.reduceLT, Nat.reduceEqDiff, Nat.reduceLeDiff, Nat.reduceBEq, reduceCtorEq, Int.reduceToNat, ↓reduceIte, rfP, rvP, rhP, frP, elOk_en, elOk_nd, nfx_en, nfx_nd]; done)))))) <;> (try simp (maxSteps := 1000000) (disch := first | omega | (simp only [LN, numOk, verOk, rfP, rvP, rhP, frP, elOk_en, elOk_nd, nfx_en, nfx_nd] <;> omega) | exact Ck.mk rfl) only [ee, VC, T, Nat.reduceMul, Nat.reduceAdd, Nat.reduceSub, Nat.reduceLT, Nat.reduceEqDiff, Nat.reduceLeDiff, Nat.reduceBEq, reduceCtorEq, Int.reduceToNat, ↓reduceIte, rfP, rvP, rhP, frP, elOk_en, elOk_nd, nfx_en, nfx_nd]) <;> (try clear ee))
    exact fin_t [some 768, some 769, some 770, some 771] (⟨rfl, rfl⟩) rfl (by simp [RV, RV2, RVl, RV1, tau, tget, hget, data1, oneOf]) (by simp [RH, RVl, RV1, tau, hget, data1]) (by simp [Taus, hget])
theorem spec_AppendFile (d : Dk) (n t : ByteArray) (h : DkB 1048575 1048576 d) (ht : t.size ≤ 1048576) : Fn Tryz.prog 38 [dkP d, .str n, .str t] [] (.tup [dkP (appendT d n t).1, .int .i64 (appendT d n t).2]) [] := by
  obtain ⟨_, _, ⟨rfl, rfl⟩, k⟩ := spec_AppendFile_R d n t h ht
  refine k.far ?_
  simp [fz, fz2, fz1, cvtl, elems, dkR, dkH, dkP, hget, data1]
theorem spec_RenameFile_R (d : Dk) (n to : ByteArray) (h : DkB 1048575 1048576 d) (hn : n.size + to.size + 2 ≤ 1048576) : FnE Tryz.prog 221 [dkP d, .str n, .str to] [] (fun r m => r = .tup [dkR 64 (renameT d n to).1, .int .i64 (renameT d n to).2] ∧ m = dkH (renameT d n to).1) := by
  have ok := h.ok (by decide) (by decide)
  have hes := h.es
  have hss := h.ss
  have hns := h.ns
  have hos := h.os
  have hc := spec_l05Copy_R d ok
  have hO := spec_DiskOk d ok
  have hH : Fn Tryz.prog 95 [.far (d.2.1.map enP), .str n] [] (.bool (decide (hasT d.2.1 n))) [] := spec_l06Has d.2.1 n (by omega)
  have hN := spec_NameOk to (by omega)
  have hE := spec_EntryAt d.2.1 n (by omega)
  have hD := spec_l06Drop_R d.2.1 n (by omega)
  have hdl := dropT_len d.2.1 n
  have hpl := putT_len (dropT d.2.1 n) (to, entT d.2.1 n)
  have hP : FnE Tryz.prog 96 [.far ((dropT d.2.1 n).map enP), .agg [.str to, .int .i64 (entT d.2.1 n)]] [] (fun r m => r = .row 64 (putT (dropT d.2.1 n) (to, entT d.2.1 n)).length ∧ m = [(64, .row ⟨2, 0⟩ ((putT (dropT d.2.1 n) (to, entT d.2.1 n)).map enP))]) := spec_l06Put_R (dropT d.2.1 n) (to, entT d.2.1 n) (by omega)
  have e1 : ¬ diskOk d → renameT d n to = (d, 3) := fun a => if_pos (.inl a)
  have e2 : ¬ hasT d.2.1 n → renameT d n to = (d, 3) := fun a => if_pos (.inr a)
  have e3 : diskOk d → hasT d.2.1 n → (¬ nmOk to ∨ n = to) → renameT d n to = (d, 1) := fun a b c => by unfold renameT; rw [if_neg (by simp [a, b]), if_pos c]
  have e4 : diskOk d → hasT d.2.1 n → ¬ (¬ nmOk to ∨ n = to) → renameT d n to = (cleanT (d.1, putT (dropT d.2.1 n) (to, entT d.2.1 n), d.2.2.1, d.2.2.2.1 ++ [strOf [62] ++ n ++ strOf [58] ++ to], d.2.2.2.2), 0) := fun a b c => by unfold renameT; rw [if_neg (by simp [a, b]), if_neg c]
  have hcl := spec_l06Clean_R (d.1, putT (dropT d.2.1 n) (to, entT d.2.1 n), d.2.2.1, d.2.2.2.1 ++ [strOf [62] ++ n ++ strOf [58] ++ to], d.2.2.2.2) ⟨ok.ns, by simp only; omega, ok.os, by simp only [List.length_append, List.length_singleton]; omega, ok.nt, putT_mem (dropT_mem ok.et) (by simp only; omega), ok.ot, mem_snoc ok.st (by simp only [ByteArray.size_append, strOf_size, List.length_singleton]; omega)⟩
  have hs0 : strOf [62] = ⟨#[62]⟩ := rfl
  have hs1 : strOf [58] = ⟨#[58]⟩ := rfl
  rw [hs0, hs1] at hcl e4
  have hcc : ∀ x y, (cleanT (y, x)) = ((cleanT (y, x)).1, x) := fun x y => rfl
  rw [hcc] at e4
  generalize (cleanT (d.1, putT (dropT d.2.1 n) (to, entT d.2.1 n), d.2.2.1, d.2.2.2.1 ++ [⟨#[62]⟩ ++ n ++ ⟨#[58]⟩ ++ to], d.2.2.2.2)).1 = C at *
  generalize renameT d n to = q at *
  generalize entT d.2.1 n = en at *
  unfold dkP dkR dkH at *
  simp only [List.length_append, List.length_singleton] at hcl
  refine fn_e tok (n := 56) (rs := [.cell 6 32, .tmp 7]) Tryz.func221 (by decide) rfl rfl rfl rfl (low_of rfl) ?_
  refine Wr.go ?_
  repeat' ((first | (have ee := True.intro; refine Wr.mk ?_) | ((first | refine br_go ?_ ?_ | refine pick_go ?_ ?_) <;> intro ee f <;> (try simp only [BB] at f) <;> (try simp only [numOk, verOk] at f)) | (have ee := True.intro; first | (refine call_h [] [] (hc) (by decide) rfl rfl ?_; rintro _ _ ⟨rfl, rfl⟩) | (refine call_hx [] [704,705,706,707] (hO) (by decide) ?_ rfl ?_; (focus (first | rfl | (simp (maxSteps := 1000000) (disch := first | omega | (simp only [LN, numOk, verOk, rfP, rvP, rhP, frP, elOk_en, elOk_nd, nfx_en, nfx_nd] <;> omega) | exact Ck.mk rfl) only [VC, T, Nat.reduceMul, Nat.reduceAdd, Nat.reduceSub, Nat.reduceLT, Nat.reduceEqDiff, Nat.reduceLeDiff, Nat.reduceBEq, reduceCtorEq, Int.reduceToNat, ↓reduceIte, rfP, rvP, rhP, frP, elOk_en, elOk_nd, nfx_en, nfx_nd]; done)))) | (refine call_hx [] [705] (hH) (by decide) ?_ rfl ?_; (focus (first | rfl | (simp (maxSteps := 1000000) (disch := first | omega | (simp only [LN, numOk, verOk, rfP, rvP, rhP, frP, elOk_en, elOk_nd, nfx_en, nfx_nd] <;> omega) | exact Ck.mk rfl) only [VC, T, Nat.reduceMul, Nat.reduceAdd, Nat.reduceSub, Nat.reduceLT, Nat.reduceEqDiff, Nat.reduceLeDiff, Nat.reduceBEq, reduceCtorEq, Int.reduceToNat, ↓reduceIte, rfP, rvP, rhP, frP, elOk_en, elOk_nd, nfx_en, nfx_nd]; done)))) | refine call_x (hN) rfl ⟨rfl⟩ ?_ | (refine call_hx [] [705] (hE) (by decide) ?_ rfl ?_; (focus (first | rfl | (simp (maxSteps := 1000000) (disch := first | omega | (simp only [LN, numOk, verOk, rfP, rvP, rhP, frP, elOk_en, elOk_nd, nfx_en, nfx_nd] <;> omega) | exact Ck.mk rfl) only [VC, T, Nat.reduceMul, Nat.reduceAdd, Nat.reduceSub, Nat.reduceLT, Nat.reduceEqDiff, Nat.reduceLeDiff, Nat.reduceBEq, reduceCtorEq, Int.reduceToNat, ↓reduceIte, rfP, rvP, rhP, frP, elOk_en, elOk_nd, nfx_en, nfx_nd]; done)))) | (refine call_h [] [705] (hD) (by decide) ?_ rfl ?_; (focus (first | rfl | (simp (maxSteps := 1000000) (disch := first | omega | (simp only [LN, numOk, verOk, rfP, rvP, rhP, frP, elOk_en, elOk_nd, nfx_en, nfx_nd] <;> omega) | exact Ck.mk rfl) only [VC, T, Nat.reduceMul, Nat.reduceAdd, Nat.reduceSub, Nat.reduceLT, Nat.reduceEqDiff, Nat.reduceLeDiff, Nat.reduceBEq, reduceCtorEq, Int.reduceToNat, ↓reduceIte, rfP, rvP, rhP, frP, elOk_en, elOk_nd, nfx_en, nfx_nd]; done))); rintro _ _ ⟨rfl, rfl⟩) | (refine call_h [] [2496] (hP) (by decide) ?_ rfl ?_; (focus (first | rfl | (simp (maxSteps := 1000000) (disch := first | omega | (simp only [LN, numOk, verOk, rfP, rvP, rhP, frP, elOk_en, elOk_nd, nfx_en, nfx_nd] <;> omega) | exact Ck.mk rfl) only [VC, T, Nat.reduceMul, Nat.reduceAdd, Nat.reduceSub, Nat.reduceLT, Nat.reduceEqDiff, Nat.reduceLeDiff, Nat.reduceBEq, reduceCtorEq, Int.reduceToNat, ↓reduceIte, rfP, rvP, rhP, frP, elOk_en, elOk_nd, nfx_en, nfx_nd]; done))); rintro _ _ ⟨rfl, rfl⟩) | (refine call_h [704,2752,706,707] [] (hcl) (by decide) rfl rfl ?_; rintro _ _ ⟨rfl, rfl⟩))) <;> (try simp (maxSteps := 1000000) (disch := first | omega | (simp only [LN, numOk, verOk, rfP, rvP, rhP, frP, elOk_en, elOk_nd, nfx_en, nfx_nd] <;> omega) | exact Ck.mk rfl) only [ee, VC, T, Nat.reduceMul, Nat.reduceAdd, Nat.reduceSub, Nat.reduceLT, Nat.reduceEqDiff, Nat.reduceLeDiff, Nat.reduceBEq, reduceCtorEq, Int.reduceToNat, ↓reduceIte, rfP, rvP, rhP, frP, elOk_en, elOk_nd, nfx_en, nfx_nd]) <;> (try clear ee))
  · cases e3 (by assumption) (by assumption) (.inr f)
    exact fin_t [some 704, some 705, some 706, some 707] (⟨rfl, rfl⟩) rfl (by simp [RV, RV2, RVl, RV1, tau, tget, hget, data1, oneOf]) (by simp [RH, RVl, RV1, tau, hget, data1]) (by simp [Taus, hget])
  · cases e4 (by assumption) (by assumption) (fun k => k.elim (fun q => q (by assumption)) f)
    exact fin_t [some 3584, some 2752, some 706, some 707] (⟨rfl, rfl⟩) rfl (by simp [RV, RV2, RVl, RV1, tau, tget, hget, data1, oneOf, List.length_append]) (by simp [RH, RVl, RV1, tau, hget, data1, List.length_append]) (by simp [Taus, hget, List.length_append])
  · cases e3 (by assumption) (by assumption) (.inl f)
    exact fin_t [some 704, some 705, some 706, some 707] (⟨rfl, rfl⟩) rfl (by simp [RV, RV2, RVl, RV1, tau, tget, hget, data1, oneOf]) (by simp [RH, RVl, RV1, tau, hget, data1]) (by simp [Taus, hget])
  · cases e2 f
    exact fin_t [some 704, some 705, some 706, some 707] (⟨rfl, rfl⟩) rfl (by simp [RV, RV2, RVl, RV1, tau, tget, hget, data1, oneOf]) (by simp [RH, RVl, RV1, tau, hget, data1]) (by simp [Taus, hget])
  · cases e1 f
    exact fin_t [some 704, some 705, some 706, some 707] (⟨rfl, rfl⟩) rfl (by simp [RV, RV2, RVl, RV1, tau, tget, hget, data1, oneOf]) (by simp [RH, RVl, RV1, tau, hget, data1]) (by simp [Taus, hget])
end Go.Pv

/- What functions of the program and of the reference do, in plain values. -/
namespace Go.Pv
open Go.Proofs Go.Mth
set_option linter.unusedSimpArgs false
set_option linter.unusedVariables false
set_option maxHeartbeats 4000000
set_option maxRecDepth 4000

/-! ### draws of disks -/
def isDk (a b : Nat) (r : PV) : Prop := ∃ d, r = dkP d ∧ DkB a b d
theorem l14Put (code : List Int) (hb : Bytes code) (a b : Nat) (d : Dk) (hd : DkB a b d) (n t : ByteArray) (hn : n.size + 24 ≤ b) (hz : b + t.size ≤ 1048576) (ha : a + 2 ≤ 1048575) (i h : Int) (hc : CurOk code i h) : FnE Tryz.prog 187 [.ref 0 0, dkP d, .str n, .str t] [(0, curB code i h)] (CQ code (isDk (a + 2) (b + t.size))) := by
  have k1 := spec_RemoveFile d n (hd.mono (by omega) (by omega)) (by omega)
  have h1 := removeT_B hd n (by omega)
  generalize removeT d n = p1 at *
  obtain ⟨d1, c1⟩ := p1
  simp only at h1
  have k2 := spec_CreateFile d1 n (h1.mono (by omega) (by omega)) (by omega)
  have h2 := createT_B h1 n hn
  generalize createT d1 n = p2 at *
  obtain ⟨d2, c2⟩ := p2
  simp only at h2
  have k3 := spec_AppendFile d2 n t (h2.mono (by omega) (by omega)) (by omega)
  have h3 := appendT_B h2 n t
  generalize appendT d2 n t = p3 at *
  obtain ⟨d3, c3⟩ := p3
  simp only at h3
  have k4 := spec_SyncFile d3 n (h3.mono (by omega) (by omega))
  have h4 := syncT_B h3 n
  generalize syncT d3 n = p4 at *
  obtain ⟨d4, c4⟩ := p4
  simp only at h4
  have k5 := spec_SyncNames d3 (h3.mono (by omega) (by omega))
  have k6 := spec_SyncNames d4 (h4.mono (by omega) (by omega))
  have h5 := syncNamesT_B h3
  have h6 := syncNamesT_B h4
  generalize syncNamesT d3 = d5 at *
  generalize syncNamesT d4 = d6 at *
  unfold dkP at *
  refine fn_e tok (n := 43) (rs := [.cell 8 32]) Tryz.func187 (by decide) rfl rfl rfl rfl (low_of rfl) ?_
  refine Wr.go ?_
  repeat' ((first | (have ee := True.intro; refine Wr.mk ?_) | ((first | refine br_go ?_ ?_ | refine pick_go ?_ ?_) <;> intro ee f <;> (try simp only [BB] at f) <;> (try simp only [numOk, verOk] at f)) | (have ee := True.intro; first | refine call_x (k1) rfl ⟨rfl⟩ ?_ | refine call_x (k2) rfl ⟨rfl⟩ ?_ | refine call_x (k3) rfl ⟨rfl⟩ ?_ | refine call_x (k4) rfl ⟨rfl⟩ ?_ | refine call_x (k5) rfl ⟨rfl⟩ ?_ | refine call_x (k6) rfl ⟨rfl⟩ ?_ | (refine call_h [0] [] (l01Once code hb 4 (by decide) _ _ (by assumption)) (by decide) rfl rfl ?_; rintro _ _ ⟨⟨x, rfl⟩, i', h', rfl, hc'⟩))) <;> (try simp (maxSteps := 1000000) (disch := first | omega | (simp only [LN, numOk, verOk, rfP, rvP, rhP, frP, curB, bkd, elOk_en, elOk_nd, nfx_en, nfx_nd] <;> omega) | exact Ck.mk rfl) only [ee, VC, T, Nat.reduceMul, Nat.reduceAdd, Nat.reduceSub, Nat.reduceLT, Nat.reduceEqDiff, Nat.reduceLeDiff, Nat.reduceBEq, reduceCtorEq, Int.reduceToNat, ↓reduceIte, rfP, rvP, rhP, frP, curB, bkd, elOk_en, elOk_nd, nfx_en, nfx_nd]) <;> (try clear ee))
  all_goals
    refine fin_c rfl (by first | rfl | (simp (maxSteps := 1000000) (disch := first | omega | (simp only [LN, numOk, verOk, rfP, rvP, rhP, frP, curB, bkd, elOk_en, elOk_nd, nfx_en, nfx_nd] <;> omega) | exact Ck.mk rfl) only [VC, T, Nat.reduceMul, Nat.reduceAdd, Nat.reduceSub, Nat.reduceLT, Nat.reduceEqDiff, Nat.reduceLeDiff, Nat.reduceBEq, reduceCtorEq, Int.reduceToNat, ↓reduceIte, rfP, rvP, rhP, frP, curB, bkd, elOk_en, elOk_nd, nfx_en, nfx_nd]; done)) rfl rfl ?_
    first
      | exact ⟨⟨d3, rfl, h3⟩, _, _, rfl, by assumption⟩
      | exact ⟨⟨d4, rfl, h4⟩, _, _, rfl, by assumption⟩
      | exact ⟨⟨d5, rfl, h5⟩, _, _, rfl, by assumption⟩
      | exact ⟨⟨d6, rfl, h6⟩, _, _, rfl, by assumption⟩
def isDkR (code : List Int) (a b : Nat) (r : PV) (m : Hp) : Prop := ∃ (d : Dk) (i h : Int), r = dkR 64 d ∧ m = (0, curB code i h) :: dkH d ∧ DkB a b d ∧ CurOk code i h
theorem names_le (t : ByteArray) (h : MemT [⟨#[97]⟩, ⟨#[98]⟩, ⟨#[115, 48, 48, 48, 48, 48, 48, 48, 48, 46, 115, 101, 103]⟩, ⟨#[115, 48, 48, 48, 48, 48, 48, 48, 51, 46, 115, 101, 103]⟩, ⟨#[115, 48, 48, 48, 48, 48, 48, 48, 48, 46, 115, 101, 103, 46, 116, 109, 112]⟩, ⟨#[99]⟩] t) : t.size ≤ 17 := by
  simp only [MemT, List.mem_cons, List.not_mem_nil, or_false] at h
  rcases h with rfl | rfl | rfl | rfl | rfl | rfl <;> decide
theorem tos_le (t : ByteArray) (h : MemT [⟨#[98]⟩, ⟨#[120]⟩, ⟨#[115, 48, 48, 48, 48, 48, 48, 48, 51, 46, 115, 101, 103]⟩] t) : t.size ≤ 13 := by
  simp only [MemT, List.mem_cons, List.not_mem_nil, or_false] at h
  rcases h with rfl | rfl | rfl <;> decide
set_option maxRecDepth 20000 in
theorem l05Disk_R (code : List Int) (hb : Bytes code) (i h : Int) (hc : CurOk code i h) : FnE Tryz.prog 181 [.ref 0 0] [(0, curB code i h)] (isDkR code 16 160) := by
  refine fn_e tok (n := 78) (rs := [.cell 2 32]) Tryz.func181 (by decide) rfl rfl rfl rfl (low_of rfl) ?_
  refine Wr.go ?_
  repeat' ((first | (have ee := True.intro; refine Wr.mk ?_) | ((first | refine br_go ?_ ?_ | refine pick_go ?_ ?_) <;> intro ee f <;> (try simp only [BB] at f) <;> (try simp only [numOk, verOk] at f)) | (have ee := True.intro; first | (refine call_hd [0] [512] (l01PickInt code hb [4000, 4000, 4000, 300, 100] (by simp) (by simp) _ _ (by assumption)) (by decide) ?_ rfl ?_; (focus (first | rfl | (simp (maxSteps := 1000000) (disch := first | omega | (simp only [LN, numOk, verOk, rfP, rvP, rhP, frP, curB, bkd, elOk_en, elOk_nd, nfx_en, nfx_nd] <;> omega) | exact Ck.mk rfl) only [VC, T, Nat.reduceMul, Nat.reduceAdd, Nat.reduceSub, Nat.reduceLT, Nat.reduceEqDiff, Nat.reduceLeDiff, Nat.reduceBEq, reduceCtorEq, Int.reduceToNat, ↓reduceIte, rfP, rvP, rhP, frP, curB, bkd, elOk_en, elOk_nd, nfx_en, nfx_nd]; done))); rintro _ _ ⟨⟨y, rfl, hy⟩, i', h', rfl, hc'⟩) | (refine call_h [] [] (spec_DiskNew_N _) (by decide) rfl rfl ?_; rintro _ _ ⟨rfl, rfl⟩))) <;> (try simp (maxSteps := 1000000) (disch := first | omega | (simp only [LN, numOk, verOk, rfP, rvP, rhP, frP, curB, bkd, elOk_en, elOk_nd, nfx_en, nfx_nd] <;> omega) | exact Ck.mk rfl) only [ee, VC, T, Nat.reduceMul, Nat.reduceAdd, Nat.reduceSub, Nat.reduceLT, Nat.reduceEqDiff, Nat.reduceLeDiff, Nat.reduceBEq, reduceCtorEq, Int.reduceToNat, ↓reduceIte, rfP, rvP, rhP, frP, curB, bkd, elOk_en, elOk_nd, nfx_en, nfx_nd]) <;> (try clear ee))
  refine lp_im (fun x : Nat × Dk × Int × Int => ⟨78, [(0, .ref 0 0), (2, .ref 192 0), (3, .ref 256 0), (4, .int .i64 x.1)], [(0, curB code x.2.2.1 x.2.2.2), (192, .box 32 [.nils, .nils, .nils, .nils, .int .i64 0, .int .i64 0]), (256, .box 32 [.row 9000 x.2.1.1.length, .row 9001 x.2.1.2.1.length, .row 9002 x.2.1.2.2.1.length, .row 9003 x.2.1.2.2.2.1.length, .int .i64 x.2.1.2.2.2.2.1, .int .i64 x.2.1.2.2.2.2.2]), (9000, .row ⟨3, 0⟩ (x.2.1.1.map ndP)), (9001, .row ⟨2, 0⟩ (x.2.1.2.1.map enP)), (9002, .row ⟨2, 0⟩ (x.2.1.2.2.1.map enP)), (9003, .row ⟨1, 0⟩ (x.2.1.2.2.2.1.map .str))]⟩) (fun x => x.1 ≤ 8 ∧ DkB (2 * x.1) (64 + 12 * x.1) x.2.1 ∧ CurOk code x.2.2.1 x.2.2.2) (fun x => 8 - x.1) (0, newT y, i', h') ?_ ⟨Nat.zero_le _, newT_B _ _ _, hc'⟩ ?_
  · refine Im.trans ?_ (Im.nilB 256 9000 ⟨3, 0⟩ 0 (by decide) rfl rfl rfl)
    refine Im.trans ?_ (Im.nilB 256 9001 ⟨2, 0⟩ 1 (by decide) rfl rfl rfl)
    refine Im.trans ?_ (Im.nilB 256 9002 ⟨2, 0⟩ 2 (by decide) rfl rfl rfl)
    refine Im.trans ?_ (Im.nilB 256 9003 ⟨1, 0⟩ 3 (by decide) rfl rfl rfl)
    refine Im.sub ?_
    unfold newT
    (simp (disch := first | omega | (simp only [LN, numOk, verOk, curB] <;> omega) | exact Ck.mk rfl) only [SB, EQ, Nat.reduceMul, Nat.reduceAdd, Nat.reduceSub, Nat.reduceLT, Nat.reduceEqDiff, Nat.reduceLeDiff, Nat.reduceBEq, reduceCtorEq, Int.reduceToNat, ↓reduceIte, curB]; try omega)
    rfl
  · rintro ⟨k, d, i, h⟩ ⟨hk, hd, hc⟩ N hN
    simp only at hk hd hc hN ⊢
    refine Wr.go ?_
    repeat' ((first | (have ee := True.intro; refine Wr.mk ?_) | ((first | refine br_go ?_ ?_ | refine pick_go ?_ ?_) <;> intro ee f <;> (try simp only [BB] at f) <;> (try simp only [numOk, verOk] at f)) | (have ee := True.intro; first | refine dr_go mixed (id := 16) [([], [3], [0, 4096]), ([], [5], []), ([], [0], []), ([], [], []), ([2, 3], [62, 63], []), ([0, 1, 2, 3, 4], [60, 61, 64], []), ([0, 1, 2, 3, 4, 5], [65], []), ([0, 1, 2, 3, 4, 5, 6], [59], []), ([0, 1, 2, 3, 4, 5, 6], [59], [256]), ([0, 1, 2, 3, 4, 5, 6, 7], [3, 66], [])] rfl rfl rfl ?_ | refine dr_go mixed (id := 8) [([], [3], [0]), ([], [5], []), ([], [0], []), ([], [0], []), ([3], [31], []), ([2, 3, 4], [30, 32], []), ([0, 1, 2, 3, 4, 5], [28, 29, 33], []), ([0, 1, 2, 3, 4, 5, 6], [34], []), ([0, 1, 2, 3, 4, 5, 6, 7], [27], []), ([0, 1, 2, 3, 4, 5, 6, 7], [27], [256]), ([0, 1, 2, 3, 4, 5, 6, 7, 8], [3, 35], [])] rfl rfl rfl ?_ | (refine call_h [0] [] (l01Below code hb _ (by omega) _ _ (by assumption)) (by decide) rfl rfl ?_; rintro _ _ ⟨⟨x, rfl, hx1, hx2⟩, i', h', rfl, hc'⟩) | (refine call_hd [0] [1152] (l01Pick code hb [⟨#[97]⟩, ⟨#[98]⟩, ⟨#[115, 48, 48, 48, 48, 48, 48, 48, 48, 46, 115, 101, 103]⟩, ⟨#[115, 48, 48, 48, 48, 48, 48, 48, 51, 46, 115, 101, 103]⟩, ⟨#[115, 48, 48, 48, 48, 48, 48, 48, 48, 46, 115, 101, 103, 46, 116, 109, 112]⟩, ⟨#[99]⟩] (by simp) (by simp) _ _ (by assumption)) (by decide) ?_ rfl ?_; (focus (first | rfl | (simp (maxSteps := 1000000) (disch := first | omega | (simp only [LN, numOk, verOk, rfP, rvP, rhP, frP, curB, bkd, elOk_en, elOk_nd, nfx_en, nfx_nd, dkP, dkR, dkH] <;> omega) | exact Ck.mk rfl) only [VC, T, Nat.reduceMul, Nat.reduceAdd, Nat.reduceSub, Nat.reduceLT, Nat.reduceEqDiff, Nat.reduceLeDiff, Nat.reduceBEq, reduceCtorEq, Int.reduceToNat, ↓reduceIte, rfP, rvP, rhP, frP, curB, bkd, elOk_en, elOk_nd, nfx_en, nfx_nd, dkP, dkR, dkH]; done))); rintro _ _ ⟨⟨t, rfl, ht⟩, i', h', rfl, hc'⟩) | (refine call_hd [0] [4096] (l01Pick code hb [⟨#[98]⟩, ⟨#[120]⟩, ⟨#[115, 48, 48, 48, 48, 48, 48, 48, 51, 46, 115, 101, 103]⟩] (by simp) (by simp) _ _ (by assumption)) (by decide) ?_ rfl ?_; (focus (first | rfl | (simp (maxSteps := 1000000) (disch := first | omega | (simp only [LN, numOk, verOk, rfP, rvP, rhP, frP, curB, bkd, elOk_en, elOk_nd, nfx_en, nfx_nd, dkP, dkR, dkH] <;> omega) | exact Ck.mk rfl) only [VC, T, Nat.reduceMul, Nat.reduceAdd, Nat.reduceSub, Nat.reduceLT, Nat.reduceEqDiff, Nat.reduceLeDiff, Nat.reduceBEq, reduceCtorEq, Int.reduceToNat, ↓reduceIte, rfP, rvP, rhP, frP, curB, bkd, elOk_en, elOk_nd, nfx_en, nfx_nd, dkP, dkR, dkH]; done))); rintro _ _ ⟨⟨t2, rfl, ht2⟩, i', h', rfl, hc'⟩) | (refine call_h [0] [] (l01Text code hb _ (by omega) _ _ (by assumption)) (by decide) rfl rfl ?_; rintro _ _ ⟨⟨u, rfl, hu⟩, i', h', rfl, hc'⟩) | (refine call_h [] [9000,9001,9002,9003] (spec_RemoveFile_R d t (hd.mono (by omega) (by omega)) (by have := names_le t ht; omega)) (by decide) ?_ rfl ?_; (focus (first | rfl | (simp (maxSteps := 1000000) (disch := first | omega | (simp only [LN, numOk, verOk, rfP, rvP, rhP, frP, curB, bkd, elOk_en, elOk_nd, nfx_en, nfx_nd, dkP, dkR, dkH] <;> omega) | exact Ck.mk rfl) only [VC, T, Nat.reduceMul, Nat.reduceAdd, Nat.reduceSub, Nat.reduceLT, Nat.reduceEqDiff, Nat.reduceLeDiff, Nat.reduceBEq, reduceCtorEq, Int.reduceToNat, ↓reduceIte, rfP, rvP, rhP, frP, curB, bkd, elOk_en, elOk_nd, nfx_en, nfx_nd, dkP, dkR, dkH]; done))); rintro _ _ ⟨rfl, rfl⟩) | (refine call_h [] [9000,9001,9002,9003] (spec_SyncNames_R d (hd.mono (by omega) (by omega))) (by decide) ?_ rfl ?_; (focus (first | rfl | (simp (maxSteps := 1000000) (disch := first | omega | (simp only [LN, numOk, verOk, rfP, rvP, rhP, frP, curB, bkd, elOk_en, elOk_nd, nfx_en, nfx_nd, dkP, dkR, dkH] <;> omega) | exact Ck.mk rfl) only [VC, T, Nat.reduceMul, Nat.reduceAdd, Nat.reduceSub, Nat.reduceLT, Nat.reduceEqDiff, Nat.reduceLeDiff, Nat.reduceBEq, reduceCtorEq, Int.reduceToNat, ↓reduceIte, rfP, rvP, rhP, frP, curB, bkd, elOk_en, elOk_nd, nfx_en, nfx_nd, dkP, dkR, dkH]; done))); rintro _ _ ⟨rfl, rfl⟩) | (refine call_h [] [9000,9001,9002,9003] (spec_SyncFile_R d t (hd.mono (by omega) (by omega))) (by decide) ?_ rfl ?_; (focus (first | rfl | (simp (maxSteps := 1000000) (disch := first | omega | (simp only [LN, numOk, verOk, rfP, rvP, rhP, frP, curB, bkd, elOk_en, elOk_nd, nfx_en, nfx_nd, dkP, dkR, dkH] <;> omega) | exact Ck.mk rfl) only [VC, T, Nat.reduceMul, Nat.reduceAdd, Nat.reduceSub, Nat.reduceLT, Nat.reduceEqDiff, Nat.reduceLeDiff, Nat.reduceBEq, reduceCtorEq, Int.reduceToNat, ↓reduceIte, rfP, rvP, rhP, frP, curB, bkd, elOk_en, elOk_nd, nfx_en, nfx_nd, dkP, dkR, dkH]; done))); rintro _ _ ⟨rfl, rfl⟩) | (refine call_h [] [9000,9001,9002,9003] (spec_RenameFile_R d t t2 (hd.mono (by omega) (by omega)) (by have := names_le t ht; have := tos_le t2 ht2; omega)) (by decide) ?_ rfl ?_; (focus (first | rfl | (simp (maxSteps := 1000000) (disch := first | omega | (simp only [LN, numOk, verOk, rfP, rvP, rhP, frP, curB, bkd, elOk_en, elOk_nd, nfx_en, nfx_nd, dkP, dkR, dkH] <;> omega) | exact Ck.mk rfl) only [VC, T, Nat.reduceMul, Nat.reduceAdd, Nat.reduceSub, Nat.reduceLT, Nat.reduceEqDiff, Nat.reduceLeDiff, Nat.reduceBEq, reduceCtorEq, Int.reduceToNat, ↓reduceIte, rfP, rvP, rhP, frP, curB, bkd, elOk_en, elOk_nd, nfx_en, nfx_nd, dkP, dkR, dkH]; done))); rintro _ _ ⟨rfl, rfl⟩) | (refine call_h [] [9000,9001,9002,9003] (spec_CreateFile_R d t (hd.mono (by omega) (by omega)) (by have := names_le t ht; omega)) (by decide) ?_ rfl ?_; (focus (first | rfl | (simp (maxSteps := 1000000) (disch := first | omega | (simp only [LN, numOk, verOk, rfP, rvP, rhP, frP, curB, bkd, elOk_en, elOk_nd, nfx_en, nfx_nd, dkP, dkR, dkH] <;> omega) | exact Ck.mk rfl) only [VC, T, Nat.reduceMul, Nat.reduceAdd, Nat.reduceSub, Nat.reduceLT, Nat.reduceEqDiff, Nat.reduceLeDiff, Nat.reduceBEq, reduceCtorEq, Int.reduceToNat, ↓reduceIte, rfP, rvP, rhP, frP, curB, bkd, elOk_en, elOk_nd, nfx_en, nfx_nd, dkP, dkR, dkH]; done))); rintro _ _ ⟨rfl, rfl⟩) | (refine call_h [] [1600,1601,1602,1603] (spec_AppendFile_R (createT d t).1 t u ((createT_B hd t (by have := names_le t ht; omega)).mono (by omega) (by omega)) (by unfold SzIn at hu; omega)) (by decide) ?_ rfl ?_; (focus (first | rfl | (simp (maxSteps := 1000000) (disch := first | omega | (simp only [LN, numOk, verOk, rfP, rvP, rhP, frP, curB, bkd, elOk_en, elOk_nd, nfx_en, nfx_nd, dkP, dkR, dkH] <;> omega) | exact Ck.mk rfl) only [VC, T, Nat.reduceMul, Nat.reduceAdd, Nat.reduceSub, Nat.reduceLT, Nat.reduceEqDiff, Nat.reduceLeDiff, Nat.reduceBEq, reduceCtorEq, Int.reduceToNat, ↓reduceIte, rfP, rvP, rhP, frP, curB, bkd, elOk_en, elOk_nd, nfx_en, nfx_nd, dkP, dkR, dkH]; done))); rintro _ _ ⟨rfl, rfl⟩))) <;> (try simp (maxSteps := 1000000) (disch := first | omega | (simp only [LN, numOk, verOk, rfP, rvP, rhP, frP, curB, bkd, elOk_en, elOk_nd, nfx_en, nfx_nd, dkP, dkR, dkH] <;> omega) | exact Ck.mk rfl) only [ee, VC, T, Nat.reduceMul, Nat.reduceAdd, Nat.reduceSub, Nat.reduceLT, Nat.reduceEqDiff, Nat.reduceLeDiff, Nat.reduceBEq, reduceCtorEq, Int.reduceToNat, ↓reduceIte, rfP, rvP, rhP, frP, curB, bkd, elOk_en, elOk_nd, nfx_en, nfx_nd, dkP, dkR, dkH]) <;> (try clear ee))
    · refine hN (k + 1, (removeT d t).1, i', h') _ ⟨by simp only; omega, (removeT_B hd t (by have := names_le t ht; omega)).mono (by simp only; omega) (by simp only; omega), by assumption⟩ (by simp only; omega) (Im.trans (Im.sub ?_) (Im.trans (Im.renB 256 2755 9003 (by rfl) (by rfl) (by rfl) (by decide)) (Im.trans (Im.renB 256 2754 9002 (by rfl) (by rfl) (by rfl) (by decide)) (Im.trans (Im.renB 256 2753 9001 (by rfl) (by rfl) (by rfl) (by decide)) (Im.trans (Im.renB 256 2752 9000 (by rfl) (by rfl) (by rfl) (by decide)) (Im.sub (s' := ⟨78, [(0, .ref 0 0), (2, .ref 192 0), (3, .ref 256 0), (4, .int .i64 ((k : Int) + 1))], [(0, curB code i' h'), (192, .box 32 [.nils, .nils, .nils, .nils, .int .i64 0, .int .i64 0]), (256, .box 32 [.row 2752 (removeT d t).1.1.length, .row 2753 (removeT d t).1.2.1.length, .row 2754 (removeT d t).1.2.2.1.length, .row 2755 (removeT d t).1.2.2.2.1.length, .int .i64 (removeT d t).1.2.2.2.2.1, .int .i64 (removeT d t).1.2.2.2.2.2]), (2752, .row ⟨3, 0⟩ ((removeT d t).1.1.map ndP)), (2753, .row ⟨2, 0⟩ ((removeT d t).1.2.1.map enP)), (2754, .row ⟨2, 0⟩ ((removeT d t).1.2.2.1.map enP)), (2755, .row ⟨1, 0⟩ ((removeT d t).1.2.2.2.1.map .str))]⟩) ?_))))))
      · (simp (disch := first | omega | (simp only [LN, numOk, verOk, mvH, rn1, curB] <;> omega) | exact Ck.mk rfl) only [SB, EQ, Nat.reduceMul, Nat.reduceAdd, Nat.reduceSub, Nat.reduceLT, Nat.reduceEqDiff, Nat.reduceLeDiff, Nat.reduceBEq, reduceCtorEq, Int.reduceToNat, ↓reduceIte, mvH, rn1, curB]; try omega)
        rfl
      · (simp (disch := first | omega | (simp only [LN, numOk, verOk, curB] <;> omega) | exact Ck.mk rfl) only [SB, EQ, Nat.reduceMul, Nat.reduceAdd, Nat.reduceSub, Nat.reduceLT, Nat.reduceEqDiff, Nat.reduceLeDiff, Nat.reduceBEq, reduceCtorEq, Int.reduceToNat, ↓reduceIte, curB]; try omega)
    · refine hN (k + 1, (syncNamesT d), i', h') _ ⟨by simp only; omega, (syncNamesT_B hd).mono (by simp only; omega) (by simp only; omega), by assumption⟩ (by simp only; omega) (Im.trans (Im.sub ?_) (Im.trans (Im.renB 256 3139 9003 (by rfl) (by rfl) (by rfl) (by decide)) (Im.trans (Im.renB 256 3138 9002 (by rfl) (by rfl) (by rfl) (by decide)) (Im.trans (Im.renB 256 3137 9001 (by rfl) (by rfl) (by rfl) (by decide)) (Im.trans (Im.renB 256 3136 9000 (by rfl) (by rfl) (by rfl) (by decide)) (Im.sub (s' := ⟨78, [(0, .ref 0 0), (2, .ref 192 0), (3, .ref 256 0), (4, .int .i64 ((k : Int) + 1))], [(0, curB code i' h'), (192, .box 32 [.nils, .nils, .nils, .nils, .int .i64 0, .int .i64 0]), (256, .box 32 [.row 3136 (syncNamesT d).1.length, .row 3137 (syncNamesT d).2.1.length, .row 3138 (syncNamesT d).2.2.1.length, .row 3139 (syncNamesT d).2.2.2.1.length, .int .i64 (syncNamesT d).2.2.2.2.1, .int .i64 (syncNamesT d).2.2.2.2.2]), (3136, .row ⟨3, 0⟩ ((syncNamesT d).1.map ndP)), (3137, .row ⟨2, 0⟩ ((syncNamesT d).2.1.map enP)), (3138, .row ⟨2, 0⟩ ((syncNamesT d).2.2.1.map enP)), (3139, .row ⟨1, 0⟩ ((syncNamesT d).2.2.2.1.map .str))]⟩) ?_))))))
      · (simp (disch := first | omega | (simp only [LN, numOk, verOk, mvH, rn1, curB] <;> omega) | exact Ck.mk rfl) only [SB, EQ, Nat.reduceMul, Nat.reduceAdd, Nat.reduceSub, Nat.reduceLT, Nat.reduceEqDiff, Nat.reduceLeDiff, Nat.reduceBEq, reduceCtorEq, Int.reduceToNat, ↓reduceIte, mvH, rn1, curB]; try omega)
        rfl
      · (simp (disch := first | omega | (simp only [LN, numOk, verOk, curB] <;> omega) | exact Ck.mk rfl) only [SB, EQ, Nat.reduceMul, Nat.reduceAdd, Nat.reduceSub, Nat.reduceLT, Nat.reduceEqDiff, Nat.reduceLeDiff, Nat.reduceBEq, reduceCtorEq, Int.reduceToNat, ↓reduceIte, curB]; try omega)
    · refine hN (k + 1, (syncT d t).1, i', h') _ ⟨by simp only; omega, (syncT_B hd t).mono (by simp only; omega) (by simp only; omega), by assumption⟩ (by simp only; omega) (Im.trans (Im.sub ?_) (Im.trans (Im.renB 256 3523 9003 (by rfl) (by rfl) (by rfl) (by decide)) (Im.trans (Im.renB 256 3522 9002 (by rfl) (by rfl) (by rfl) (by decide)) (Im.trans (Im.renB 256 3521 9001 (by rfl) (by rfl) (by rfl) (by decide)) (Im.trans (Im.renB 256 3520 9000 (by rfl) (by rfl) (by rfl) (by decide)) (Im.sub (s' := ⟨78, [(0, .ref 0 0), (2, .ref 192 0), (3, .ref 256 0), (4, .int .i64 ((k : Int) + 1))], [(0, curB code i' h'), (192, .box 32 [.nils, .nils, .nils, .nils, .int .i64 0, .int .i64 0]), (256, .box 32 [.row 3520 (syncT d t).1.1.length, .row 3521 (syncT d t).1.2.1.length, .row 3522 (syncT d t).1.2.2.1.length, .row 3523 (syncT d t).1.2.2.2.1.length, .int .i64 (syncT d t).1.2.2.2.2.1, .int .i64 (syncT d t).1.2.2.2.2.2]), (3520, .row ⟨3, 0⟩ ((syncT d t).1.1.map ndP)), (3521, .row ⟨2, 0⟩ ((syncT d t).1.2.1.map enP)), (3522, .row ⟨2, 0⟩ ((syncT d t).1.2.2.1.map enP)), (3523, .row ⟨1, 0⟩ ((syncT d t).1.2.2.2.1.map .str))]⟩) ?_))))))
      · (simp (disch := first | omega | (simp only [LN, numOk, verOk, mvH, rn1, curB] <;> omega) | exact Ck.mk rfl) only [SB, EQ, Nat.reduceMul, Nat.reduceAdd, Nat.reduceSub, Nat.reduceLT, Nat.reduceEqDiff, Nat.reduceLeDiff, Nat.reduceBEq, reduceCtorEq, Int.reduceToNat, ↓reduceIte, mvH, rn1, curB]; try omega)
        rfl
      · (simp (disch := first | omega | (simp only [LN, numOk, verOk, curB] <;> omega) | exact Ck.mk rfl) only [SB, EQ, Nat.reduceMul, Nat.reduceAdd, Nat.reduceSub, Nat.reduceLT, Nat.reduceEqDiff, Nat.reduceLeDiff, Nat.reduceBEq, reduceCtorEq, Int.reduceToNat, ↓reduceIte, curB]; try omega)
    · refine hN (k + 1, (renameT d t t2).1, i', h') _ ⟨by simp only; omega, (renameT_B hd t t2 (by have := names_le t ht; have := tos_le t2 ht2; omega)).mono (by simp only; omega) (by simp only; omega), by assumption⟩ (by simp only; omega) (Im.trans (Im.sub ?_) (Im.trans (Im.renB 256 4227 9003 (by rfl) (by rfl) (by rfl) (by decide)) (Im.trans (Im.renB 256 4226 9002 (by rfl) (by rfl) (by rfl) (by decide)) (Im.trans (Im.renB 256 4225 9001 (by rfl) (by rfl) (by rfl) (by decide)) (Im.trans (Im.renB 256 4224 9000 (by rfl) (by rfl) (by rfl) (by decide)) (Im.sub (s' := ⟨78, [(0, .ref 0 0), (2, .ref 192 0), (3, .ref 256 0), (4, .int .i64 ((k : Int) + 1))], [(0, curB code i' h'), (192, .box 32 [.nils, .nils, .nils, .nils, .int .i64 0, .int .i64 0]), (256, .box 32 [.row 4224 (renameT d t t2).1.1.length, .row 4225 (renameT d t t2).1.2.1.length, .row 4226 (renameT d t t2).1.2.2.1.length, .row 4227 (renameT d t t2).1.2.2.2.1.length, .int .i64 (renameT d t t2).1.2.2.2.2.1, .int .i64 (renameT d t t2).1.2.2.2.2.2]), (4224, .row ⟨3, 0⟩ ((renameT d t t2).1.1.map ndP)), (4225, .row ⟨2, 0⟩ ((renameT d t t2).1.2.1.map enP)), (4226, .row ⟨2, 0⟩ ((renameT d t t2).1.2.2.1.map enP)), (4227, .row ⟨1, 0⟩ ((renameT d t t2).1.2.2.2.1.map .str))]⟩) ?_))))))
      · (simp (disch := first | omega | (simp only [LN, numOk, verOk, mvH, rn1, curB] <;> omega) | exact Ck.mk rfl) only [SB, EQ, Nat.reduceMul, Nat.reduceAdd, Nat.reduceSub, Nat.reduceLT, Nat.reduceEqDiff, Nat.reduceLeDiff, Nat.reduceBEq, reduceCtorEq, Int.reduceToNat, ↓reduceIte, mvH, rn1, curB]; try omega)
        rfl
      · (simp (disch := first | omega | (simp only [LN, numOk, verOk, curB] <;> omega) | exact Ck.mk rfl) only [SB, EQ, Nat.reduceMul, Nat.reduceAdd, Nat.reduceSub, Nat.reduceLT, Nat.reduceEqDiff, Nat.reduceLeDiff, Nat.reduceBEq, reduceCtorEq, Int.reduceToNat, ↓reduceIte, curB]; try omega)
    · refine hN (k + 1, (createT d t).1, i', h') _ ⟨by simp only; omega, (createT_B hd t (by have := names_le t ht; omega)).mono (by simp only; omega) (by simp only; omega), by assumption⟩ (by simp only; omega) (Im.trans (Im.sub ?_) (Im.trans (Im.renB 256 4803 9003 (by rfl) (by rfl) (by rfl) (by decide)) (Im.trans (Im.renB 256 4802 9002 (by rfl) (by rfl) (by rfl) (by decide)) (Im.trans (Im.renB 256 4801 9001 (by rfl) (by rfl) (by rfl) (by decide)) (Im.trans (Im.renB 256 4800 9000 (by rfl) (by rfl) (by rfl) (by decide)) (Im.sub (s' := ⟨78, [(0, .ref 0 0), (2, .ref 192 0), (3, .ref 256 0), (4, .int .i64 ((k : Int) + 1))], [(0, curB code i' h'), (192, .box 32 [.nils, .nils, .nils, .nils, .int .i64 0, .int .i64 0]), (256, .box 32 [.row 4800 (createT d t).1.1.length, .row 4801 (createT d t).1.2.1.length, .row 4802 (createT d t).1.2.2.1.length, .row 4803 (createT d t).1.2.2.2.1.length, .int .i64 (createT d t).1.2.2.2.2.1, .int .i64 (createT d t).1.2.2.2.2.2]), (4800, .row ⟨3, 0⟩ ((createT d t).1.1.map ndP)), (4801, .row ⟨2, 0⟩ ((createT d t).1.2.1.map enP)), (4802, .row ⟨2, 0⟩ ((createT d t).1.2.2.1.map enP)), (4803, .row ⟨1, 0⟩ ((createT d t).1.2.2.2.1.map .str))]⟩) ?_))))))
      · (simp (disch := first | omega | (simp only [LN, numOk, verOk, mvH, rn1, curB] <;> omega) | exact Ck.mk rfl) only [SB, EQ, Nat.reduceMul, Nat.reduceAdd, Nat.reduceSub, Nat.reduceLT, Nat.reduceEqDiff, Nat.reduceLeDiff, Nat.reduceBEq, reduceCtorEq, Int.reduceToNat, ↓reduceIte, mvH, rn1, curB]; try omega)
        rfl
      · (simp (disch := first | omega | (simp only [LN, numOk, verOk, curB] <;> omega) | exact Ck.mk rfl) only [SB, EQ, Nat.reduceMul, Nat.reduceAdd, Nat.reduceSub, Nat.reduceLT, Nat.reduceEqDiff, Nat.reduceLeDiff, Nat.reduceBEq, reduceCtorEq, Int.reduceToNat, ↓reduceIte, curB]; try omega)
    · refine hN (k + 1, (createT d t).1, i', h') _ ⟨by simp only; omega, (createT_B hd t (by have := names_le t ht; omega)).mono (by simp only; omega) (by simp only; omega), by assumption⟩ (by simp only; omega) (Im.trans (Im.sub ?_) (Im.trans (Im.renB 256 4803 9003 (by rfl) (by rfl) (by rfl) (by decide)) (Im.trans (Im.renB 256 4802 9002 (by rfl) (by rfl) (by rfl) (by decide)) (Im.trans (Im.renB 256 4801 9001 (by rfl) (by rfl) (by rfl) (by decide)) (Im.trans (Im.renB 256 4800 9000 (by rfl) (by rfl) (by rfl) (by decide)) (Im.sub (s' := ⟨78, [(0, .ref 0 0), (2, .ref 192 0), (3, .ref 256 0), (4, .int .i64 ((k : Int) + 1))], [(0, curB code i' h'), (192, .box 32 [.nils, .nils, .nils, .nils, .int .i64 0, .int .i64 0]), (256, .box 32 [.row 4800 (createT d t).1.1.length, .row 4801 (createT d t).1.2.1.length, .row 4802 (createT d t).1.2.2.1.length, .row 4803 (createT d t).1.2.2.2.1.length, .int .i64 (createT d t).1.2.2.2.2.1, .int .i64 (createT d t).1.2.2.2.2.2]), (4800, .row ⟨3, 0⟩ ((createT d t).1.1.map ndP)), (4801, .row ⟨2, 0⟩ ((createT d t).1.2.1.map enP)), (4802, .row ⟨2, 0⟩ ((createT d t).1.2.2.1.map enP)), (4803, .row ⟨1, 0⟩ ((createT d t).1.2.2.2.1.map .str))]⟩) ?_))))))
      · (simp (disch := first | omega | (simp only [LN, numOk, verOk, mvH, rn1, curB] <;> omega) | exact Ck.mk rfl) only [SB, EQ, Nat.reduceMul, Nat.reduceAdd, Nat.reduceSub, Nat.reduceLT, Nat.reduceEqDiff, Nat.reduceLeDiff, Nat.reduceBEq, reduceCtorEq, Int.reduceToNat, ↓reduceIte, mvH, rn1, curB]; try omega)
        rfl
      · (simp (disch := first | omega | (simp only [LN, numOk, verOk, curB] <;> omega) | exact Ck.mk rfl) only [SB, EQ, Nat.reduceMul, Nat.reduceAdd, Nat.reduceSub, Nat.reduceLT, Nat.reduceEqDiff, Nat.reduceLeDiff, Nat.reduceBEq, reduceCtorEq, Int.reduceToNat, ↓reduceIte, curB]; try omega)
    · refine hN (k + 1, (appendT (createT d t).1 t u).1, i', h') _ ⟨by simp only; omega, (appendT_B (createT_B hd t (by have := names_le t ht; omega)) t u).mono (by simp only; omega) (by unfold SzIn at hu; simp only; omega), by assumption⟩ (by simp only; omega) (Im.trans (Im.sub ?_) (Im.trans (Im.renB 256 2243 9003 (by rfl) (by rfl) (by rfl) (by decide)) (Im.trans (Im.renB 256 2242 9002 (by rfl) (by rfl) (by rfl) (by decide)) (Im.trans (Im.renB 256 2241 9001 (by rfl) (by rfl) (by rfl) (by decide)) (Im.trans (Im.renB 256 2240 9000 (by rfl) (by rfl) (by rfl) (by decide)) (Im.sub (s' := ⟨78, [(0, .ref 0 0), (2, .ref 192 0), (3, .ref 256 0), (4, .int .i64 ((k : Int) + 1))], [(0, curB code i' h'), (192, .box 32 [.nils, .nils, .nils, .nils, .int .i64 0, .int .i64 0]), (256, .box 32 [.row 2240 (appendT (createT d t).1 t u).1.1.length, .row 2241 (appendT (createT d t).1 t u).1.2.1.length, .row 2242 (appendT (createT d t).1 t u).1.2.2.1.length, .row 2243 (appendT (createT d t).1 t u).1.2.2.2.1.length, .int .i64 (appendT (createT d t).1 t u).1.2.2.2.2.1, .int .i64 (appendT (createT d t).1 t u).1.2.2.2.2.2]), (2240, .row ⟨3, 0⟩ ((appendT (createT d t).1 t u).1.1.map ndP)), (2241, .row ⟨2, 0⟩ ((appendT (createT d t).1 t u).1.2.1.map enP)), (2242, .row ⟨2, 0⟩ ((appendT (createT d t).1 t u).1.2.2.1.map enP)), (2243, .row ⟨1, 0⟩ ((appendT (createT d t).1 t u).1.2.2.2.1.map .str))]⟩) ?_))))))
      · (simp (disch := first | omega | (simp only [LN, numOk, verOk, mvH, rn1, curB] <;> omega) | exact Ck.mk rfl) only [SB, EQ, Nat.reduceMul, Nat.reduceAdd, Nat.reduceSub, Nat.reduceLT, Nat.reduceEqDiff, Nat.reduceLeDiff, Nat.reduceBEq, reduceCtorEq, Int.reduceToNat, ↓reduceIte, mvH, rn1, curB]; try omega)
        rfl
      · (simp (disch := first | omega | (simp only [LN, numOk, verOk, curB] <;> omega) | exact Ck.mk rfl) only [SB, EQ, Nat.reduceMul, Nat.reduceAdd, Nat.reduceSub, Nat.reduceLT, Nat.reduceEqDiff, Nat.reduceLeDiff, Nat.reduceBEq, reduceCtorEq, Int.reduceToNat, ↓reduceIte, curB]; try omega)
    · exact fin_t [some 9000, some 9001, some 9002, some 9003] (⟨d, _, _, rfl, rfl, hd.mono (by omega) (by omega), by assumption⟩) rfl (by simp [RV, RV2, RVl, RV1, tau, tget, hget, data1, oneOf, curB, dkR, dkH]) (by simp [RH, RVl, RV1, tau, hget, data1, curB, dkR, dkH]) (by simp [Taus, hget, curB, dkR, dkH])
end Go.Pv

/- What functions of the program and of the reference do, in plain values. -/
namespace Go.Pv
open Go.Proofs Go.Mth
set_option linter.unusedSimpArgs false
set_option linter.unusedVariables false
set_option maxHeartbeats 4000000
set_option maxRecDepth 4000

/-! ### draws of disks: any disk -/
theorem steps_le (t : ByteArray) (h : MemT [⟨#[45, 97]⟩, ⟨#[43, 113, 58, 49]⟩, ⟨#[120]⟩, ⟨#[]⟩, ⟨#[43, 113, 58, 57]⟩, ⟨#[45, 122, 122]⟩, ⟨#[43, 58, 49]⟩, ⟨#[43, 113, 58]⟩] t) : t.size ≤ 4 := by
  simp only [MemT, List.mem_cons, List.not_mem_nil, or_false] at h
  rcases h with rfl | rfl | rfl | rfl | rfl | rfl | rfl | rfl <;> decide
set_option maxRecDepth 20000 in
theorem l05Any (code : List Int) (hb : Bytes code) (i h : Int) (hc : CurOk code i h) : FnE Tryz.prog 138 [.ref 0 0] [(0, curB code i h)] (CQ code (isDk 17 160)) := by
  have hg : ∀ (d : Dk) (j : Nat), j < d.1.length → (d.1.map ndP).getD j .junk = .agg [.int .i64 (d.1.getD j default).1, .str (d.1.getD j default).2.1, .int .i64 (d.1.getD j default).2.2] := fun d j h => by
    rw [List.getD_eq_getElem?_getD, List.getElem?_map, List.getElem?_eq_getElem h, List.getD_eq_getElem?_getD, List.getElem?_eq_getElem h]; rfl
  have hu0 : ∀ a b c z : PV, upd (.agg [a, b, c]) 0 [z] = .agg [z, b, c] := fun _ _ _ _ => rfl
  have hu2 : ∀ a b c z : PV, upd (.agg [a, b, c]) 2 [z] = .agg [a, b, z] := fun _ _ _ _ => rfl
  refine fn_e tok (n := 77) (rs := [.cell 2 32]) Tryz.func138 (by decide) rfl rfl rfl rfl (low_of rfl) ?_
  refine Wr.go ?_
  repeat' ((first | (have ee := True.intro; refine Wr.mk ?_) | ((first | refine br_go ?_ ?_ | refine pick_go ?_ ?_) <;> intro ee f <;> (try simp only [BB] at f) <;> (try simp only [numOk, verOk] at f)) | (have ee := True.intro; first | (refine call_h [0] [] (l05Disk_R code hb _ _ (by assumption)) (by decide) rfl rfl ?_; rintro _ _ ⟨d, i', h', rfl, rfl, hd, hc'⟩))) <;> (try simp (maxSteps := 1000000) (disch := first | omega | (simp only [LN, numOk, verOk, rfP, rvP, rhP, frP, curB, bkd, elOk_en, elOk_nd, nfx_en, nfx_nd, dkR, dkH] <;> omega) | exact Ck.mk rfl) only [ee, VC, T, Nat.reduceMul, Nat.reduceAdd, Nat.reduceSub, Nat.reduceLT, Nat.reduceEqDiff, Nat.reduceLeDiff, Nat.reduceBEq, reduceCtorEq, Int.reduceToNat, ↓reduceIte, rfP, rvP, rhP, frP, curB, bkd, elOk_en, elOk_nd, nfx_en, nfx_nd, dkR, dkH]) <;> (try clear ee))
  have hq := (hd.mono (by decide) (by decide) : DkB 17 160 d)
  have hd1 := hd.ns
  have hd2 := hd.es
  have hd3 := hd.os
  have hd4 := hd.ss
  refine Wr.go ?_
  repeat' ((first | (have ee := True.intro; refine Wr.mk ?_) | ((first | refine br_go ?_ ?_ | refine pick_go ?_ ?_) <;> intro ee f <;> (try simp only [BB] at f) <;> (try simp only [numOk, verOk] at f)) | (have ee := True.intro; first | refine dr_go mixed (id := 8) [([], [3], [0]), ([0], [22], [0]), ([], [0], []), ([2], [24], []), ([2, 3], [25], []), ([2, 3, 4], [26], []), ([0, 1, 2, 3, 4, 5], [23, 27], []), ([0, 1, 2, 3, 4, 5, 6], [3], []), ([0, 1, 2, 3, 4, 5, 6, 7], [28, 29], [])] rfl rfl rfl ?_ | refine dr_go mixed (id := 12) [([], [3], [0, 2816]), ([0], [40], [0, 2816]), ([], [0], []), ([], [], []), ([2, 3], [42, 43], []), ([2, 3, 4], [44], []), ([0, 1, 2, 3, 4, 5], [41, 45], []), ([0, 1, 2, 3, 4, 5, 6], [3], []), ([0, 1, 2, 3, 4, 5, 6, 7], [46, 47], [])] rfl rfl rfl ?_ | refine dr_go mixed (id := 15) [([], [3], [0, 3712]), ([0], [54], [0, 3712]), ([], [0], []), ([], [], []), ([2, 3], [56, 57], []), ([0, 1, 2, 3, 4], [55], []), ([0, 1, 2, 3, 4, 5], [59], []), ([0, 1, 2, 3, 4, 5, 6], [58, 60], [])] rfl rfl rfl ?_ | refine dr_go mixed (id := 18) [([], [3], []), ([0], [67], []), ([], [3], []), ([2], [69], []), ([2, 3], [70], []), ([2, 3, 4], [71], []), ([2, 3, 4, 5], [72], []), ([0, 1, 2, 3, 4, 5, 6], [68], []), ([0, 1, 2, 3, 4, 5, 6, 7], [74], []), ([0, 1, 2, 3, 4, 5, 6, 7, 8], [73, 75], [])] rfl rfl rfl ?_ | (refine call_h [0] [] (l01Below code hb _ (by omega) _ _ (by assumption)) (by decide) rfl rfl ?_; rintro _ _ ⟨⟨x, rfl, hx1, hx2⟩, i', h', rfl, hc'⟩) | (refine call_hd [0] [768] (l01PickInt code hb [-1, 0, 5, 1000000001] (by simp) (by simp) _ _ (by assumption)) (by decide) ?_ rfl ?_; (focus (first | rfl | (simp (maxSteps := 1000000) (disch := first | omega | (simp only [LN, numOk, verOk, rfP, rvP, rhP, frP, curB, bkd, elOk_en, elOk_nd, nfx_en, nfx_nd, hg, hu0, hu2] <;> omega) | exact Ck.mk rfl) only [VC, T, Nat.reduceMul, Nat.reduceAdd, Nat.reduceSub, Nat.reduceLT, Nat.reduceEqDiff, Nat.reduceLeDiff, Nat.reduceBEq, reduceCtorEq, Int.reduceToNat, ↓reduceIte, rfP, rvP, rhP, frP, curB, bkd, elOk_en, elOk_nd, nfx_en, nfx_nd, hg, hu0, hu2]; done))); rintro _ _ ⟨⟨y, rfl, hy⟩, i', h', rfl, hc'⟩) | (refine call_hd [0] [1152] (l01PickInt code hb [0, 1, 2, -1, 9223372036854775807] (by simp) (by simp) _ _ (by assumption)) (by decide) ?_ rfl ?_; (focus (first | rfl | (simp (maxSteps := 1000000) (disch := first | omega | (simp only [LN, numOk, verOk, rfP, rvP, rhP, frP, curB, bkd, elOk_en, elOk_nd, nfx_en, nfx_nd, hg, hu0, hu2] <;> omega) | exact Ck.mk rfl) only [VC, T, Nat.reduceMul, Nat.reduceAdd, Nat.reduceSub, Nat.reduceLT, Nat.reduceEqDiff, Nat.reduceLeDiff, Nat.reduceBEq, reduceCtorEq, Int.reduceToNat, ↓reduceIte, rfP, rvP, rhP, frP, curB, bkd, elOk_en, elOk_nd, nfx_en, nfx_nd, hg, hu0, hu2]; done))); rintro _ _ ⟨⟨y, rfl, hy⟩, i', h', rfl, hc'⟩) | (refine call_hd [0] [2816] (l01Pick code hb [⟨#[45, 97]⟩, ⟨#[43, 113, 58, 49]⟩, ⟨#[120]⟩, ⟨#[]⟩, ⟨#[43, 113, 58, 57]⟩, ⟨#[45, 122, 122]⟩, ⟨#[43, 58, 49]⟩, ⟨#[43, 113, 58]⟩] (by simp) (by simp) _ _ (by assumption)) (by decide) ?_ rfl ?_; (focus (first | rfl | (simp (maxSteps := 1000000) (disch := first | omega | (simp only [LN, numOk, verOk, rfP, rvP, rhP, frP, curB, bkd, elOk_en, elOk_nd, nfx_en, nfx_nd, hg, hu0, hu2] <;> omega) | exact Ck.mk rfl) only [VC, T, Nat.reduceMul, Nat.reduceAdd, Nat.reduceSub, Nat.reduceLT, Nat.reduceEqDiff, Nat.reduceLeDiff, Nat.reduceBEq, reduceCtorEq, Int.reduceToNat, ↓reduceIte, rfP, rvP, rhP, frP, curB, bkd, elOk_en, elOk_nd, nfx_en, nfx_nd, hg, hu0, hu2]; done))); rintro _ _ ⟨⟨u, rfl, hu⟩, i', h', rfl, hc'⟩) | (refine call_hd [0] [3712] (l01PickInt code hb [-1, 0, 99] (by simp) (by simp) _ _ (by assumption)) (by decide) ?_ rfl ?_; (focus (first | rfl | (simp (maxSteps := 1000000) (disch := first | omega | (simp only [LN, numOk, verOk, rfP, rvP, rhP, frP, curB, bkd, elOk_en, elOk_nd, nfx_en, nfx_nd, hg, hu0, hu2] <;> omega) | exact Ck.mk rfl) only [VC, T, Nat.reduceMul, Nat.reduceAdd, Nat.reduceSub, Nat.reduceLT, Nat.reduceEqDiff, Nat.reduceLeDiff, Nat.reduceBEq, reduceCtorEq, Int.reduceToNat, ↓reduceIte, rfP, rvP, rhP, frP, curB, bkd, elOk_en, elOk_nd, nfx_en, nfx_nd, hg, hu0, hu2]; done))); rintro _ _ ⟨⟨y, rfl, hy⟩, i', h', rfl, hc'⟩))) <;> (try simp (maxSteps := 1000000) (disch := first | omega | (simp only [LN, numOk, verOk, rfP, rvP, rhP, frP, curB, bkd, elOk_en, elOk_nd, nfx_en, nfx_nd, hg, hu0, hu2] <;> omega) | exact Ck.mk rfl) only [ee, VC, T, Nat.reduceMul, Nat.reduceAdd, Nat.reduceSub, Nat.reduceLT, Nat.reduceEqDiff, Nat.reduceLeDiff, Nat.reduceBEq, reduceCtorEq, Int.reduceToNat, ↓reduceIte, rfP, rvP, rhP, frP, curB, bkd, elOk_en, elOk_nd, nfx_en, nfx_nd, hg, hu0, hu2]) <;> (try clear ee))
  · refine fin_c (y := .agg [.far (d.1.map ndP), .far (d.2.1.map enP), .far (d.2.2.1.map enP), .far (d.2.2.2.1.map .str), .int .i64 (y), .int .i64 (d.2.2.2.2.2)]) rfl (by first | rfl | (simp (maxSteps := 1000000) (disch := first | omega | (simp only [LN, numOk, verOk, rfP, rvP, rhP, frP, curB, bkd, elOk_en, elOk_nd, nfx_en, nfx_nd] <;> omega) | exact Ck.mk rfl) only [VC, T, Nat.reduceMul, Nat.reduceAdd, Nat.reduceSub, Nat.reduceLT, Nat.reduceEqDiff, Nat.reduceLeDiff, Nat.reduceBEq, reduceCtorEq, Int.reduceToNat, ↓reduceIte, rfP, rvP, rhP, frP, curB, bkd, elOk_en, elOk_nd, nfx_en, nfx_nd]; done)) rfl rfl ?_
    exact ⟨⟨(d.1, d.2.1, d.2.2.1, d.2.2.2.1, y, d.2.2.2.2.2), rfl, ⟨hq.ns, hq.es, hq.os, hq.ss, hq.nt, hq.et, hq.ot, hq.st⟩⟩, _, _, rfl, by assumption⟩
  · refine fin_c (y := .agg [.far (d.1.map ndP), .far (d.2.1.map enP), .far (d.2.2.1.map enP), .far (d.2.2.2.1.map .str), .int .i64 (d.2.2.2.2.1), .int .i64 (y)]) rfl (by first | rfl | (simp (maxSteps := 1000000) (disch := first | omega | (simp only [LN, numOk, verOk, rfP, rvP, rhP, frP, curB, bkd, elOk_en, elOk_nd, nfx_en, nfx_nd] <;> omega) | exact Ck.mk rfl) only [VC, T, Nat.reduceMul, Nat.reduceAdd, Nat.reduceSub, Nat.reduceLT, Nat.reduceEqDiff, Nat.reduceLeDiff, Nat.reduceBEq, reduceCtorEq, Int.reduceToNat, ↓reduceIte, rfP, rvP, rhP, frP, curB, bkd, elOk_en, elOk_nd, nfx_en, nfx_nd]; done)) rfl rfl ?_
    exact ⟨⟨(d.1, d.2.1, d.2.2.1, d.2.2.2.1, d.2.2.2.2.1, y), rfl, ⟨hq.ns, hq.es, hq.os, hq.ss, hq.nt, hq.et, hq.ot, hq.st⟩⟩, _, _, rfl, by assumption⟩
  · refine fin_c (y := .agg [.far (d.1.map ndP), .far (d.2.1.map enP ++ [.agg [.str ⟨#[122]⟩, .int .i64 x]]), .far (d.2.2.1.map enP), .far (d.2.2.2.1.map .str), .int .i64 (d.2.2.2.2.1), .int .i64 (d.2.2.2.2.2)]) rfl (by first | rfl | (simp (maxSteps := 1000000) (disch := first | omega | (simp only [LN, numOk, verOk, rfP, rvP, rhP, frP, curB, bkd, elOk_en, elOk_nd, nfx_en, nfx_nd] <;> omega) | exact Ck.mk rfl) only [VC, T, Nat.reduceMul, Nat.reduceAdd, Nat.reduceSub, Nat.reduceLT, Nat.reduceEqDiff, Nat.reduceLeDiff, Nat.reduceBEq, reduceCtorEq, Int.reduceToNat, ↓reduceIte, rfP, rvP, rhP, frP, curB, bkd, elOk_en, elOk_nd, nfx_en, nfx_nd]; done)) rfl rfl ?_
    exact ⟨⟨(d.1, d.2.1 ++ [(⟨#[122]⟩, x)], d.2.2.1, d.2.2.2.1, d.2.2.2.2.1, d.2.2.2.2.2), by unfold dkP; rw [List.map_append]; rfl, ⟨hq.ns, by rw [List.length_append, List.length_singleton]; omega, hq.os, hq.ss, hq.nt, mem_snoc hq.et (y := ((⟨#[122]⟩ : ByteArray), x)) (by show 1 ≤ 160; decide), hq.ot, hq.st⟩⟩, _, _, rfl, by assumption⟩
  · refine fin_c (y := .agg [.far (d.1.map ndP), .far (d.2.1.map enP), .far (d.2.2.1.map enP ++ [.agg [.str ⟨#[122]⟩, .int .i64 1]]), .far (d.2.2.2.1.map .str), .int .i64 (d.2.2.2.2.1), .int .i64 (d.2.2.2.2.2)]) rfl (by first | rfl | (simp (maxSteps := 1000000) (disch := first | omega | (simp only [LN, numOk, verOk, rfP, rvP, rhP, frP, curB, bkd, elOk_en, elOk_nd, nfx_en, nfx_nd] <;> omega) | exact Ck.mk rfl) only [VC, T, Nat.reduceMul, Nat.reduceAdd, Nat.reduceSub, Nat.reduceLT, Nat.reduceEqDiff, Nat.reduceLeDiff, Nat.reduceBEq, reduceCtorEq, Int.reduceToNat, ↓reduceIte, rfP, rvP, rhP, frP, curB, bkd, elOk_en, elOk_nd, nfx_en, nfx_nd]; done)) rfl rfl ?_
    exact ⟨⟨(d.1, d.2.1, d.2.2.1 ++ [(⟨#[122]⟩, 1)], d.2.2.2.1, d.2.2.2.2.1, d.2.2.2.2.2), by unfold dkP; rw [List.map_append]; rfl, ⟨hq.ns, hq.es, by rw [List.length_append, List.length_singleton]; omega, hq.ss, hq.nt, hq.et, mem_snoc hq.ot (by decide), hq.st⟩⟩, _, _, rfl, by assumption⟩
  · refine fin_c (y := .agg [.far (d.1.map ndP), .far (d.2.1.map enP), .far (d.2.2.1.map enP), .far ((d.2.2.2.1 ++ [u]).map .str), .int .i64 (d.2.2.2.2.1), .int .i64 (d.2.2.2.2.2)]) rfl (by first | rfl | (simp (maxSteps := 1000000) (disch := first | omega | (simp only [LN, numOk, verOk, rfP, rvP, rhP, frP, curB, bkd, elOk_en, elOk_nd, nfx_en, nfx_nd] <;> omega) | exact Ck.mk rfl) only [VC, T, Nat.reduceMul, Nat.reduceAdd, Nat.reduceSub, Nat.reduceLT, Nat.reduceEqDiff, Nat.reduceLeDiff, Nat.reduceBEq, reduceCtorEq, Int.reduceToNat, ↓reduceIte, rfP, rvP, rhP, frP, curB, bkd, elOk_en, elOk_nd, nfx_en, nfx_nd]; done)) rfl rfl ?_
    exact ⟨⟨(d.1, d.2.1, d.2.2.1, d.2.2.2.1 ++ [u], d.2.2.2.2.1, d.2.2.2.2.2), rfl, ⟨hq.ns, hq.es, hq.os, by rw [List.length_append, List.length_singleton]; omega, hq.nt, hq.et, hq.ot, mem_snoc hq.st (by have := steps_le u hu; omega)⟩⟩, _, _, rfl, by assumption⟩
  · refine fin_c (y := .agg [.far ((d.1.map ndP).set 0 (.agg [.int .i64 (d.1.getD 0 default).1, .str (d.1.getD 0 default).2.1, .int .i64 y])), .far (d.2.1.map enP), .far (d.2.2.1.map enP), .far (d.2.2.2.1.map .str), .int .i64 (d.2.2.2.2.1), .int .i64 (d.2.2.2.2.2)]) rfl (by first | rfl | (simp (maxSteps := 1000000) (disch := first | omega | (simp only [LN, numOk, verOk, rfP, rvP, rhP, frP, curB, bkd, elOk_en, elOk_nd, nfx_en, nfx_nd] <;> omega) | exact Ck.mk rfl) only [VC, T, Nat.reduceMul, Nat.reduceAdd, Nat.reduceSub, Nat.reduceLT, Nat.reduceEqDiff, Nat.reduceLeDiff, Nat.reduceBEq, reduceCtorEq, Int.reduceToNat, ↓reduceIte, rfP, rvP, rhP, frP, curB, bkd, elOk_en, elOk_nd, nfx_en, nfx_nd]; done)) rfl rfl ?_
    exact ⟨⟨(d.1.set 0 ((d.1.getD 0 default).1, (d.1.getD 0 default).2.1, y), d.2.1, d.2.2.1, d.2.2.2.1, d.2.2.2.2.1, d.2.2.2.2.2), by unfold dkP; rw [List.map_set]; rfl, setNd_B hq 0 _ (nd_le hq 0)⟩, _, _, rfl, by assumption⟩
  · refine fin_c (y := .agg [.far (d.1.map ndP), .far (d.2.1.map enP), .far (d.2.2.1.map enP), .far (d.2.2.2.1.map .str), .int .i64 (d.2.2.2.2.1), .int .i64 (d.2.2.2.2.2)]) rfl (by first | rfl | (simp (maxSteps := 1000000) (disch := first | omega | (simp only [LN, numOk, verOk, rfP, rvP, rhP, frP, curB, bkd, elOk_en, elOk_nd, nfx_en, nfx_nd] <;> omega) | exact Ck.mk rfl) only [VC, T, Nat.reduceMul, Nat.reduceAdd, Nat.reduceSub, Nat.reduceLT, Nat.reduceEqDiff, Nat.reduceLeDiff, Nat.reduceBEq, reduceCtorEq, Int.reduceToNat, ↓reduceIte, rfP, rvP, rhP, frP, curB, bkd, elOk_en, elOk_nd, nfx_en, nfx_nd]; done)) rfl rfl ?_
    exact ⟨⟨d, rfl, hq⟩, _, _, rfl, by assumption⟩
  · refine fin_c (y := .agg [.far ((d.1.map ndP).set 1 (.agg [.int .i64 (d.1.getD 0 default).1, .str (d.1.getD 1 default).2.1, .int .i64 (d.1.getD 1 default).2.2])), .far (d.2.1.map enP), .far (d.2.2.1.map enP), .far (d.2.2.2.1.map .str), .int .i64 (d.2.2.2.2.1), .int .i64 (d.2.2.2.2.2)]) rfl (by first | rfl | (simp (maxSteps := 1000000) (disch := first | omega | (simp only [LN, numOk, verOk, rfP, rvP, rhP, frP, curB, bkd, elOk_en, elOk_nd, nfx_en, nfx_nd] <;> omega) | exact Ck.mk rfl) only [VC, T, Nat.reduceMul, Nat.reduceAdd, Nat.reduceSub, Nat.reduceLT, Nat.reduceEqDiff, Nat.reduceLeDiff, Nat.reduceBEq, reduceCtorEq, Int.reduceToNat, ↓reduceIte, rfP, rvP, rhP, frP, curB, bkd, elOk_en, elOk_nd, nfx_en, nfx_nd]; done)) rfl rfl ?_
    exact ⟨⟨(d.1.set 1 ((d.1.getD 0 default).1, (d.1.getD 1 default).2.1, (d.1.getD 1 default).2.2), d.2.1, d.2.2.1, d.2.2.2.1, d.2.2.2.2.1, d.2.2.2.2.2), by unfold dkP; rw [List.map_set]; rfl, setNd_B hq 1 _ (nd_le hq 1)⟩, _, _, rfl, by assumption⟩
  · refine fin_c (y := .agg [.far (d.1.map ndP), .far (d.2.1.map enP), .far (d.2.2.1.map enP), .far (d.2.2.2.1.map .str), .int .i64 (d.2.2.2.2.1), .int .i64 (d.2.2.2.2.2)]) rfl (by first | rfl | (simp (maxSteps := 1000000) (disch := first | omega | (simp only [LN, numOk, verOk, rfP, rvP, rhP, frP, curB, bkd, elOk_en, elOk_nd, nfx_en, nfx_nd] <;> omega) | exact Ck.mk rfl) only [VC, T, Nat.reduceMul, Nat.reduceAdd, Nat.reduceSub, Nat.reduceLT, Nat.reduceEqDiff, Nat.reduceLeDiff, Nat.reduceBEq, reduceCtorEq, Int.reduceToNat, ↓reduceIte, rfP, rvP, rhP, frP, curB, bkd, elOk_en, elOk_nd, nfx_en, nfx_nd]; done)) rfl rfl ?_
    exact ⟨⟨d, rfl, hq⟩, _, _, rfl, by assumption⟩
  · refine fin_c (y := .agg [.far (d.1.map ndP), .far (d.2.1.map enP), .far (d.2.2.1.map enP), .far (d.2.2.2.1.map .str), .int .i64 (d.2.2.2.2.1), .int .i64 (d.2.2.2.2.2)]) rfl (by first | rfl | (simp (maxSteps := 1000000) (disch := first | omega | (simp only [LN, numOk, verOk, rfP, rvP, rhP, frP, curB, bkd, elOk_en, elOk_nd, nfx_en, nfx_nd] <;> omega) | exact Ck.mk rfl) only [VC, T, Nat.reduceMul, Nat.reduceAdd, Nat.reduceSub, Nat.reduceLT, Nat.reduceEqDiff, Nat.reduceLeDiff, Nat.reduceBEq, reduceCtorEq, Int.reduceToNat, ↓reduceIte, rfP, rvP, rhP, frP, curB, bkd, elOk_en, elOk_nd, nfx_en, nfx_nd]; done)) rfl rfl ?_
    exact ⟨⟨d, rfl, hq⟩, _, _, rfl, by assumption⟩
end Go.Pv

/- What functions of the program and of the reference do, in plain values. -/
namespace Go.Pv
open Go.Proofs Go.Mth
set_option linter.unusedSimpArgs false
set_option linter.unusedVariables false
set_option maxHeartbeats 4000000
set_option maxRecDepth 4000

/-! ### the files that go on from one another -/
def lkP (d : Dk) (b : Int) : PV := .agg (.int .i64 b :: .str (textT d b) :: flat (scanP (scan (textT d b))))
theorem goOk_iff (t : ByteArray) (b l : Int) (g : Bool) (h : ((rHead t).2.2.2.2 && decide ((rHead t).2.2.1 = b) && decide ((rHead t).2.2.2.1 = l)) = g) : goOk t b l ↔ g = true ∧ 0 < (recs t).length := by
  subst h
  unfold goOk
  simp only [Bool.and_eq_true, decide_eq_true_eq, and_assoc]
theorem impl_links (d : Dk) (h : DkOk d) : Fn Tryz.prog 87 [dkP d] [] (.far ((chainT d).map (lkP d))) [] := by
  have hT := fun b hb => impl_TextAt d b h hb
  have hle := textT_le h
  have hsn := chGo_snoc d
  have hsp := chGo_stop d
  have hlk : ∀ b, lkP d b = .agg (.int .i64 b :: .str (textT d b) :: flat (scanP (scan (textT d b)))) := fun _ => rfl
  obtain ⟨ns, es, os, ss, r, x⟩ := d
  generalize hd : ((ns, es, os, ss, r, x) : Dk) = d at *
  have hdk : dkP d = .agg [.far (ns.map ndP), .far (es.map enP), .far (os.map enP), .far (ss.map .str), .int .i64 r, .int .i64 x] := by rw [← hd]; rfl
  rw [hdk] at hT ⊢
  refine fn_x tok (n := 45) (rs := [.tmp 2]) Tryz.func87 (by decide) rfl rfl rfl rfl ?_
  refine Wr.go ?_
  repeat' ((first | (have ee := True.intro; refine Wr.mk ?_) | ((first | refine br_go ?_ ?_ | refine pick_go ?_ ?_) <;> intro ee f <;> (try simp only [BB] at f) <;> (try simp only [numOk, verOk] at f))) <;> (try simp (maxSteps := 1000000) (disch := first | omega | (simp only [LN, numOk, verOk, rfP, rvP, rhP, frP] <;> omega) | exact Ck.mk rfl) only [ee, VC, T, Nat.reduceMul, Nat.reduceAdd, Nat.reduceSub, Nat.reduceLT, Nat.reduceEqDiff, Nat.reduceLeDiff, Nat.reduceBEq, reduceCtorEq, Int.reduceToNat, ↓reduceIte, rfP, rvP, rhP, frP]) <;> (try clear ee))
  refine lp_go (fun x' : List Int × Int × Int => ⟨45, [(1, .ref 128 0), (3, .row 576 x'.1.length), (4, .int .i64 x'.2.1), (5, .int .i64 x'.2.2)], [(128, .box 32 [.far (ns.map ndP), .far (es.map enP), .far (os.map enP), .far (ss.map .str), .int .i64 r, .int .i64 x]), (576, .row ⟨11, 0⟩ (x'.1.map (lkP d)))]⟩) (fun x => x.1.length ≤ 16 ∧ (0 ≤ x.2.1 ∧ x.2.1 ≤ 1048576 * x.1.length) ∧ chainT d = x.1 ++ chGo d (16 - x.1.length) x.2.1 x.2.2) (fun x => 16 - x.1.length) ([], 0, 0) ?_ ⟨by simp, by simp, rfl⟩ ?_
  · (simp (disch := first | omega | (simp only [LN, numOk, verOk] <;> omega) | exact Ck.mk rfl) only [SB, EQ, Nat.reduceMul, Nat.reduceAdd, Nat.reduceSub, Nat.reduceLT, Nat.reduceEqDiff, Nat.reduceLeDiff, Nat.reduceBEq, reduceCtorEq, Int.reduceToNat, ↓reduceIte]; try omega)
  · rintro ⟨L, b, l⟩ ⟨h1, h2, h3⟩ N hN
    simp only at h1 h2 h3 hN
    have hT := hT b ⟨by omega, by omega⟩
    have hle := hle b
    have hsn := hsn L b l h3
    have hsp := hsp L b l h3
    have hlk := hlk b
    have hnx := fun s1 (q1 : L.length < 16) (q2 : goOk (textT d b) b l) => hN (L ++ [b], b + (recs (textT d b)).length, linkAll l (recs (textT d b))) s1 ⟨by simp only [List.length_append, List.length_singleton]; omega, ⟨by simp only; omega, by have := (recs_le (textT d b)).1; simp only [List.length_append, List.length_singleton]; omega⟩, hsn q1 q2⟩ (by simp only [List.length_append, List.length_singleton]; omega)
    generalize textT d b = t at *
    have hS := impl_Scan t (by omega)
    have hG := impl_GoesOn t b l (by omega)
    obtain ⟨z1, z2⟩ := recs_le t
    generalize hg : ((rHead t).2.2.2.2 && decide ((rHead t).2.2.1 = b) && decide ((rHead t).2.2.2.1 = l)) = g at *
    have hgo := goOk_iff t b l g hg
    have hA := impl_linkAll l (recs t) (by omega) (fun r hr => by have := z2 r hr; omega)
    unfold recs at *
    generalize scan t = sc at *
    obtain ⟨ok, v, s, base, lk, rs, ofs, e, m⟩ := sc
    simp only [scanP, flat] at *
    have hmap : (L ++ [b]).map (lkP d) = L.map (lkP d) ++ [.agg [.int .i64 b, .str t, .bool ok, .int .i64 v, .int .i64 s, .int .i64 base, .int .i64 lk, .far (rs.map .str), .far (ofs.map (.int .i64)), .int .i64 e, .bool m]] := by rw [List.map_append, List.map_singleton, hlk]
    cases g
    · have hn : ¬ goOk t b l := fun q => by have := (hgo.1 q).1; cases this
      refine Wr.go ?_
      repeat' ((first | (have ee := True.intro; refine Wr.mk ?_) | ((first | refine br_go ?_ ?_ | refine pick_go ?_ ?_) <;> intro ee f <;> (try simp only [BB] at f) <;> (try simp only [numOk, verOk] at f)) | (have ee := True.intro; first | refine dr_go mixed (id := 8) [([], [4], []), ([], [7], []), ([1], [36], []), ([1, 2], [37], []), ([0, 1, 2, 3], [35, 38], []), ([], [5], []), ([], [7], []), ([6], [41], []), ([5, 6, 7], [40, 42], []), ([0, 1, 2, 3, 4, 5, 6, 7, 8], [39], []), ([0, 1, 2, 3, 4, 5, 6, 7, 8, 9], [43], [])] rfl rfl rfl ?_ | refine call_x (hT) rfl ⟨rfl⟩ ?_ | refine call_x (hS) rfl ⟨rfl⟩ ?_ | refine call_x (hG) rfl ⟨rfl⟩ ?_ | refine call_x (hA) rfl ⟨rfl⟩ ?_)) <;> (try simp (maxSteps := 1000000) (disch := first | omega | (simp only [LN, numOk, verOk, rfP, rvP, rhP, frP] <;> omega) | exact Ck.mk rfl) only [ee, VC, T, Nat.reduceMul, Nat.reduceAdd, Nat.reduceSub, Nat.reduceLT, Nat.reduceEqDiff, Nat.reduceLeDiff, Nat.reduceBEq, reduceCtorEq, Int.reduceToNat, ↓reduceIte, rfP, rvP, rhP, frP]) <;> (try clear ee))
      · rw [hsp (.inr hn)]
      · rw [hsp (.inr hn)]
    · refine Wr.go ?_
      repeat' ((first | (have ee := True.intro; refine Wr.mk ?_) | ((first | refine br_go ?_ ?_ | refine pick_go ?_ ?_) <;> intro ee f <;> (try simp only [BB] at f) <;> (try simp only [numOk, verOk] at f)) | (have ee := True.intro; first | refine dr_go mixed (id := 8) [([], [4], []), ([], [7], []), ([1], [36], []), ([1, 2], [37], []), ([0, 1, 2, 3], [35, 38], []), ([], [5], []), ([], [7], []), ([6], [41], []), ([5, 6, 7], [40, 42], []), ([0, 1, 2, 3, 4, 5, 6, 7, 8], [39], []), ([0, 1, 2, 3, 4, 5, 6, 7, 8, 9], [43], [])] rfl rfl rfl ?_ | refine call_x (hT) rfl ⟨rfl⟩ ?_ | refine call_x (hS) rfl ⟨rfl⟩ ?_ | refine call_x (hG) rfl ⟨rfl⟩ ?_ | refine call_x (hA) rfl ⟨rfl⟩ ?_)) <;> (try simp (maxSteps := 1000000) (disch := first | omega | (simp only [LN, numOk, verOk, rfP, rvP, rhP, frP] <;> omega) | exact Ck.mk rfl) only [ee, VC, T, Nat.reduceMul, Nat.reduceAdd, Nat.reduceSub, Nat.reduceLT, Nat.reduceEqDiff, Nat.reduceLeDiff, Nat.reduceBEq, reduceCtorEq, Int.reduceToNat, ↓reduceIte, rfP, rvP, rhP, frP]) <;> (try clear ee))
      · rw [hsp (.inr fun q => by have := (hgo.1 q).2; omega)]
      · refine hnx _ (by omega) (hgo.2 ⟨rfl, by omega⟩) ?_
        rw [hmap]
        (simp (disch := first | omega | (simp only [LN, numOk, verOk] <;> omega) | exact Ck.mk rfl) only [SB, EQ, Nat.reduceMul, Nat.reduceAdd, Nat.reduceSub, Nat.reduceLT, Nat.reduceEqDiff, Nat.reduceLeDiff, Nat.reduceBEq, reduceCtorEq, Int.reduceToNat, ↓reduceIte]; try omega)
      · rw [hsp (.inl (by omega))]
theorem impl_Chain_G (d : Dk) (h : DkOk d) : FnE Tryz.prog 48 [dkP d] [] (fun r m => r = .row 64 (chainT d).length ∧ m = [(64, .row ⟨1, 0⟩ ((chainT d).map (fun b => .int .i64 b)))]) := by
  have hL := impl_links d h
  have hlen := chainT_length d
  have hlk : ∀ b, lkP d b = .agg (.int .i64 b :: .str (textT d b) :: flat (scanP (scan (textT d b)))) := fun _ => rfl
  have hv := fun b => scan_ver (textT d b)
  generalize hG : (fun b => .int .i64 b : Int → PV) = G
  have hGb := fun b => congrFun hG b
  try simp only at hGb
  generalize chainT d = L at *
  obtain ⟨ns, es, os, ss, r, x⟩ := d
  generalize hd : ((ns, es, os, ss, r, x) : Dk) = d at *
  have hdk : dkP d = .agg [.far (ns.map ndP), .far (es.map enP), .far (os.map enP), .far (ss.map .str), .int .i64 r, .int .i64 x] := by rw [← hd]; rfl
  rw [hdk] at hL ⊢
  refine fn_e tok (n := 21) (rs := [.tmp 2]) Tryz.func48 (by decide) rfl rfl rfl rfl (low_of rfl) ?_
  refine Wr.go ?_
  repeat' ((first | (have ee := True.intro; refine Wr.mk ?_) | ((first | refine br_go ?_ ?_ | refine pick_go ?_ ?_) <;> intro ee f <;> (try simp only [BB] at f) <;> (try simp only [numOk, verOk] at f)) | (have ee := True.intro; first | refine call_x (hL) rfl ⟨rfl⟩ ?_)) <;> (try simp (maxSteps := 1000000) (disch := first | omega | (simp only [LN, numOk, verOk, rfP, rvP, rhP, frP] <;> omega) | exact Ck.mk rfl) only [ee, VC, T, Nat.reduceMul, Nat.reduceAdd, Nat.reduceSub, Nat.reduceLT, Nat.reduceEqDiff, Nat.reduceLeDiff, Nat.reduceBEq, reduceCtorEq, Int.reduceToNat, ↓reduceIte, rfP, rvP, rhP, frP]) <;> (try clear ee))
  refine lp_go (fun i : Nat => ⟨21, [(3, .row 448 i), (8, .far (L.map (lkP d))), (9, .int .i64 L.length), (10, .int .i64 i)], [(448, .row ⟨1, 0⟩ ((L.take i).map G))]⟩) (fun i => i ≤ L.length) (fun i => L.length - i) 0 ?_ (Nat.zero_le _) ?_
  · (simp (disch := first | omega | (simp only [LN, numOk, verOk] <;> omega) | exact Ck.mk rfl) only [SB, EQ, Nat.reduceMul, Nat.reduceAdd, Nat.reduceSub, Nat.reduceLT, Nat.reduceEqDiff, Nat.reduceLeDiff, Nat.reduceBEq, reduceCtorEq, Int.reduceToNat, ↓reduceIte]; try omega)
    rfl
  · intro i hi N hN
    have hg : i < L.length → (L.map (lkP d)).getD i .junk = lkP d (L.getD i default) := fun h => by
      rw [List.getD_eq_getElem?_getD, List.getElem?_map, List.getElem?_eq_getElem h, List.getD_eq_getElem?_getD, List.getElem?_eq_getElem h]; rfl
    have ht : (L.take i).length = i := by rw [List.length_take]; omega
    have hsn : i < L.length → (L.take (i + 1)).map G = (L.take i).map G ++ [G (L.getD i default)] := fun h => by
      rw [take_snoc default L i h, List.map_append]; rfl
    generalize L.getD i default = b at *
    have hlk := hlk b
    have hGb := hGb b
    have hv := hv b
    generalize textT d b = t at *
    generalize scan t = sc at *
    obtain ⟨ok, v, s, base, lk, rs, ofs, e, m⟩ := sc
    simp only at hv
    try rw [← hv] at hGb
    simp only [scanP, flat] at *
    rw [hlk] at hg
    refine Wr.go ?_
    repeat' ((first | (have ee := True.intro; refine Wr.mk ?_) | ((first | refine br_go ?_ ?_ | refine pick_go ?_ ?_) <;> intro ee f <;> (try simp only [BB] at f) <;> (try simp only [numOk, verOk] at f))) <;> (try simp (maxSteps := 1000000) (disch := first | omega | (simp only [LN, numOk, verOk, rfP, rvP, rhP, frP, hg, ht] <;> omega) | exact Ck.mk rfl) only [ee, VC, T, Nat.reduceMul, Nat.reduceAdd, Nat.reduceSub, Nat.reduceLT, Nat.reduceEqDiff, Nat.reduceLeDiff, Nat.reduceBEq, reduceCtorEq, Int.reduceToNat, ↓reduceIte, rfP, rvP, rhP, frP, hg, ht]) <;> (try clear ee))
    · refine hN (i + 1) _ (by omega) (by omega) ?_
      rw [hsn (by omega), ← hGb]
      (simp (disch := first | omega | (simp only [LN, numOk, verOk] <;> omega) | exact Ck.mk rfl) only [SB, EQ, Nat.reduceMul, Nat.reduceAdd, Nat.reduceSub, Nat.reduceLT, Nat.reduceEqDiff, Nat.reduceLeDiff, Nat.reduceBEq, reduceCtorEq, Int.reduceToNat, ↓reduceIte]; try omega)
    · obtain rfl : i = L.length := by omega
      rw [List.take_length]
      exact fin_t [some 448] (⟨rfl, rfl⟩) rfl (by simp [RV, RV2, RVl, RV1, tau, tget, hget, data1, oneOf]) (by simp [RH, RVl, RV1, tau, hget, data1]) (by simp [Taus, hget])
theorem impl_VersionsOn_G (d : Dk) (h : DkOk d) : FnE Tryz.prog 58 [dkP d] [] (fun r m => r = .row 64 (chainT d).length ∧ m = [(64, .row ⟨1, 0⟩ ((chainT d).map (fun b => .int .i64 (rHead (textT d b)).1)))]) := by
  have hL := impl_links d h
  have hlen := chainT_length d
  have hlk : ∀ b, lkP d b = .agg (.int .i64 b :: .str (textT d b) :: flat (scanP (scan (textT d b)))) := fun _ => rfl
  have hv := fun b => scan_ver (textT d b)
  generalize hG : (fun b => .int .i64 (rHead (textT d b)).1 : Int → PV) = G
  have hGb := fun b => congrFun hG b
  try simp only at hGb
  generalize chainT d = L at *
  obtain ⟨ns, es, os, ss, r, x⟩ := d
  generalize hd : ((ns, es, os, ss, r, x) : Dk) = d at *
  have hdk : dkP d = .agg [.far (ns.map ndP), .far (es.map enP), .far (os.map enP), .far (ss.map .str), .int .i64 r, .int .i64 x] := by rw [← hd]; rfl
  rw [hdk] at hL ⊢
  refine fn_e tok (n := 23) (rs := [.tmp 2]) Tryz.func58 (by decide) rfl rfl rfl rfl (low_of rfl) ?_
  refine Wr.go ?_
  repeat' ((first | (have ee := True.intro; refine Wr.mk ?_) | ((first | refine br_go ?_ ?_ | refine pick_go ?_ ?_) <;> intro ee f <;> (try simp only [BB] at f) <;> (try simp only [numOk, verOk] at f)) | (have ee := True.intro; first | refine call_x (hL) rfl ⟨rfl⟩ ?_)) <;> (try simp (maxSteps := 1000000) (disch := first | omega | (simp only [LN, numOk, verOk, rfP, rvP, rhP, frP] <;> omega) | exact Ck.mk rfl) only [ee, VC, T, Nat.reduceMul, Nat.reduceAdd, Nat.reduceSub, Nat.reduceLT, Nat.reduceEqDiff, Nat.reduceLeDiff, Nat.reduceBEq, reduceCtorEq, Int.reduceToNat, ↓reduceIte, rfP, rvP, rhP, frP]) <;> (try clear ee))
  refine lp_go (fun i : Nat => ⟨23, [(3, .row 448 i), (8, .far (L.map (lkP d))), (9, .int .i64 L.length), (10, .int .i64 i)], [(448, .row ⟨1, 0⟩ ((L.take i).map G))]⟩) (fun i => i ≤ L.length) (fun i => L.length - i) 0 ?_ (Nat.zero_le _) ?_
  · (simp (disch := first | omega | (simp only [LN, numOk, verOk] <;> omega) | exact Ck.mk rfl) only [SB, EQ, Nat.reduceMul, Nat.reduceAdd, Nat.reduceSub, Nat.reduceLT, Nat.reduceEqDiff, Nat.reduceLeDiff, Nat.reduceBEq, reduceCtorEq, Int.reduceToNat, ↓reduceIte]; try omega)
    rfl
  · intro i hi N hN
    have hg : i < L.length → (L.map (lkP d)).getD i .junk = lkP d (L.getD i default) := fun h => by
      rw [List.getD_eq_getElem?_getD, List.getElem?_map, List.getElem?_eq_getElem h, List.getD_eq_getElem?_getD, List.getElem?_eq_getElem h]; rfl
    have ht : (L.take i).length = i := by rw [List.length_take]; omega
    have hsn : i < L.length → (L.take (i + 1)).map G = (L.take i).map G ++ [G (L.getD i default)] := fun h => by
      rw [take_snoc default L i h, List.map_append]; rfl
    generalize L.getD i default = b at *
    have hlk := hlk b
    have hGb := hGb b
    have hv := hv b
    generalize textT d b = t at *
    generalize scan t = sc at *
    obtain ⟨ok, v, s, base, lk, rs, ofs, e, m⟩ := sc
    simp only at hv
    try rw [← hv] at hGb
    simp only [scanP, flat] at *
    rw [hlk] at hg
    refine Wr.go ?_
    repeat' ((first | (have ee := True.intro; refine Wr.mk ?_) | ((first | refine br_go ?_ ?_ | refine pick_go ?_ ?_) <;> intro ee f <;> (try simp only [BB] at f) <;> (try simp only [numOk, verOk] at f))) <;> (try simp (maxSteps := 1000000) (disch := first | omega | (simp only [LN, numOk, verOk, rfP, rvP, rhP, frP, hg, ht] <;> omega) | exact Ck.mk rfl) only [ee, VC, T, Nat.reduceMul, Nat.reduceAdd, Nat.reduceSub, Nat.reduceLT, Nat.reduceEqDiff, Nat.reduceLeDiff, Nat.reduceBEq, reduceCtorEq, Int.reduceToNat, ↓reduceIte, rfP, rvP, rhP, frP, hg, ht]) <;> (try clear ee))
    · refine hN (i + 1) _ (by omega) (by omega) ?_
      rw [hsn (by omega), ← hGb]
      (simp (disch := first | omega | (simp only [LN, numOk, verOk] <;> omega) | exact Ck.mk rfl) only [SB, EQ, Nat.reduceMul, Nat.reduceAdd, Nat.reduceSub, Nat.reduceLT, Nat.reduceEqDiff, Nat.reduceLeDiff, Nat.reduceBEq, reduceCtorEq, Int.reduceToNat, ↓reduceIte]; try omega)
    · obtain rfl : i = L.length := by omega
      rw [List.take_length]
      exact fin_t [some 448] (⟨rfl, rfl⟩) rfl (by simp [RV, RV2, RVl, RV1, tau, tget, hget, data1, oneOf]) (by simp [RH, RVl, RV1, tau, hget, data1]) (by simp [Taus, hget])
end Go.Pv

/- What functions of the program and of the reference do, in plain values. -/
namespace Go.Pv
open Go.Proofs Go.Mth
set_option linter.unusedSimpArgs false
set_option linter.unusedVariables false
set_option maxHeartbeats 4000000
set_option maxRecDepth 4000

/-! ### rows of records, texts, versions -/
theorem impl_Chain_R (d : Dk) (h : DkOk d) : FnE Tryz.prog 48 [dkP d] [] (fun r m => r = .row 64 (chainT d).length ∧ m = [(64, .row ⟨1, 0⟩ ((chainT d).map (.int .i64)))]) := impl_Chain_G d h
theorem versT_len (d : Dk) : (versT d).length = (chainT d).length := List.length_map _
theorem versT_map (d : Dk) : (chainT d).map (fun b => PV.int .i64 (rHead (textT d b)).1) = (versT d).map (.int .i64) := (List.map_map).symm
theorem impl_VersionsOn_R (d : Dk) (h : DkOk d) : FnE Tryz.prog 58 [dkP d] [] (fun r m => r = .row 64 (versT d).length ∧ m = [(64, .row ⟨1, 0⟩ ((versT d).map (.int .i64)))]) := by
  rw [versT_len, ← versT_map]
  exact impl_VersionsOn_G d h
theorem impl_Chain (d : Dk) (h : DkOk d) : Fn Tryz.prog 48 [dkP d] [] (.far ((chainT d).map (.int .i64))) [] := by
  obtain ⟨_, _, ⟨rfl, rfl⟩, k⟩ := impl_Chain_R d h
  refine k.far ?_
  simp [fz, fz2, fz1, cvtl, elems, hget, data1]
theorem impl_VersionsOn (d : Dk) (h : DkOk d) : Fn Tryz.prog 58 [dkP d] [] (.far ((versT d).map (.int .i64))) [] := by
  obtain ⟨_, _, ⟨rfl, rfl⟩, k⟩ := impl_VersionsOn_R d h
  refine k.far ?_
  simp [fz, fz2, fz1, cvtl, elems, hget, data1]
theorem oldT_drop (l : List Int) (i : Nat) (h : i < l.length) : oldT (l.drop i) = (if l.getD i default = 1 then 1 else 0) + oldT (l.drop (i + 1)) := by
  rw [List.drop_eq_getElem_cons h, List.getD_eq_getElem?_getD, List.getElem?_eq_getElem h]; rfl
theorem impl_OldOn (d : Dk) (l : List Int) (hl : l.length ≤ 16) (hV : Fn Tryz.prog 58 [dkP d] [] (.far (l.map (.int .i64))) []) : Fn Tryz.prog 62 [dkP d] [] (.int .i64 (oldT l)) [] := by
  unfold dkP at *
  refine fn_x tok (n := 19) (rs := [.tmp 2]) Tryz.func62 (by decide) rfl rfl rfl rfl ?_
  refine Wr.go ?_
  repeat' ((first | (have ee := True.intro; refine Wr.mk ?_) | ((first | refine br_go ?_ ?_ | refine pick_go ?_ ?_) <;> intro ee f <;> (try simp only [BB] at f) <;> (try simp only [numOk, verOk] at f)) | (have ee := True.intro; first | refine call_x (hV) rfl ⟨rfl⟩ ?_)) <;> (try simp (maxSteps := 1000000) (disch := first | omega | (simp only [LN, numOk, verOk, rfP, rvP, rhP, frP] <;> omega) | exact Ck.mk rfl) only [ee, VC, T, Nat.reduceMul, Nat.reduceAdd, Nat.reduceSub, Nat.reduceLT, Nat.reduceEqDiff, Nat.reduceLeDiff, Nat.reduceBEq, reduceCtorEq, Int.reduceToNat, ↓reduceIte, rfP, rvP, rhP, frP]) <;> (try clear ee))
  refine lp_go (fun x : Nat × Int => ⟨19, [(3, .int .i64 x.2), (7, .far (l.map (.int .i64))), (8, .int .i64 l.length), (9, .int .i64 x.1)], []⟩) (fun x => x.1 ≤ l.length ∧ (0 ≤ x.2 ∧ x.2 ≤ x.1) ∧ oldT l = x.2 + oldT (l.drop x.1)) (fun x => l.length - x.1) (0, 0) ?_ ⟨Nat.zero_le _, by simp, by simp⟩ ?_
  · (simp (disch := first | omega | (simp only [LN, numOk, verOk] <;> omega) | exact Ck.mk rfl) only [SB, EQ, Nat.reduceMul, Nat.reduceAdd, Nat.reduceSub, Nat.reduceLT, Nat.reduceEqDiff, Nat.reduceLeDiff, Nat.reduceBEq, reduceCtorEq, Int.reduceToNat, ↓reduceIte]; try omega)
  · rintro ⟨i, n⟩ ⟨h1, h2, h3⟩ N hN
    simp only at h1 h2 h3
    have hd := oldT_drop l i
    refine Wr.go ?_
    repeat' ((first | (have ee := True.intro; refine Wr.mk ?_) | ((first | refine br_go ?_ ?_ | refine pick_go ?_ ?_) <;> intro ee f <;> (try simp only [BB] at f) <;> (try simp only [numOk, verOk] at f))) <;> (try simp (maxSteps := 1000000) (disch := first | omega | (simp only [LN, numOk, verOk, rfP, rvP, rhP, frP] <;> omega) | exact Ck.mk rfl) only [ee, VC, T, Nat.reduceMul, Nat.reduceAdd, Nat.reduceSub, Nat.reduceLT, Nat.reduceEqDiff, Nat.reduceLeDiff, Nat.reduceBEq, reduceCtorEq, Int.reduceToNat, ↓reduceIte, rfP, rvP, rhP, frP]) <;> (try clear ee))
    · rw [if_pos f] at hd
      refine hN (i + 1, n + 1) _ ⟨by simp only; omega, ⟨by simp only; omega, by simp only; omega⟩, by simp only; rw [h3, hd (by omega)]; omega⟩ (by simp only; omega) ?_
      (simp (disch := first | omega | (simp only [LN, numOk, verOk] <;> omega) | exact Ck.mk rfl) only [SB, EQ, Nat.reduceMul, Nat.reduceAdd, Nat.reduceSub, Nat.reduceLT, Nat.reduceEqDiff, Nat.reduceLeDiff, Nat.reduceBEq, reduceCtorEq, Int.reduceToNat, ↓reduceIte]; try omega)
    · rw [if_neg f] at hd
      refine hN (i + 1, n) _ ⟨by simp only; omega, ⟨by simp only; omega, by simp only; omega⟩, by simp only; rw [h3, hd (by omega)]; omega⟩ (by simp only; omega) ?_
      (simp (disch := first | omega | (simp only [LN, numOk, verOk] <;> omega) | exact Ck.mk rfl) only [SB, EQ, Nat.reduceMul, Nat.reduceAdd, Nat.reduceSub, Nat.reduceLT, Nat.reduceEqDiff, Nat.reduceLeDiff, Nat.reduceBEq, reduceCtorEq, Int.reduceToNat, ↓reduceIte]; try omega)
    · rw [h3, List.drop_eq_nil_of_le (by omega), show oldT [] = 0 from rfl, Int.add_zero]
theorem spec_OldOn (d : Dk) (l : List Int) (hl : l.length ≤ 16) (hV : Fn Tryz.prog 59 [dkP d] [] (.far (l.map (.int .i64))) []) : Fn Tryz.prog 63 [dkP d] [] (.int .i64 (oldT l)) [] := by
  unfold dkP at *
  refine fn_x tok (n := 22) (rs := [.tmp 2]) Tryz.func63 (by decide) rfl rfl rfl rfl ?_
  refine Wr.go ?_
  repeat' ((first | (have ee := True.intro; refine Wr.mk ?_) | ((first | refine br_go ?_ ?_ | refine pick_go ?_ ?_) <;> intro ee f <;> (try simp only [BB] at f) <;> (try simp only [numOk, verOk] at f)) | (have ee := True.intro; first | refine call_x (hV) rfl ⟨rfl⟩ ?_)) <;> (try simp (maxSteps := 1000000) (disch := first | omega | (simp only [LN, numOk, verOk, rfP, rvP, rhP, frP] <;> omega) | exact Ck.mk rfl) only [ee, VC, T, Nat.reduceMul, Nat.reduceAdd, Nat.reduceSub, Nat.reduceLT, Nat.reduceEqDiff, Nat.reduceLeDiff, Nat.reduceBEq, reduceCtorEq, Int.reduceToNat, ↓reduceIte, rfP, rvP, rhP, frP]) <;> (try clear ee))
  refine lp_go (fun x : Nat × Int => ⟨22, [(3, .int .i64 x.2), (4, .far (l.map (.int .i64))), (5, .int .i64 x.1)], []⟩) (fun x => x.1 ≤ l.length ∧ (0 ≤ x.2 ∧ x.2 ≤ x.1) ∧ oldT l = x.2 + oldT (l.drop x.1)) (fun x => l.length - x.1) (0, 0) ?_ ⟨Nat.zero_le _, by simp, by simp⟩ ?_
  · (simp (disch := first | omega | (simp only [LN, numOk, verOk] <;> omega) | exact Ck.mk rfl) only [SB, EQ, Nat.reduceMul, Nat.reduceAdd, Nat.reduceSub, Nat.reduceLT, Nat.reduceEqDiff, Nat.reduceLeDiff, Nat.reduceBEq, reduceCtorEq, Int.reduceToNat, ↓reduceIte]; try omega)
  · rintro ⟨i, n⟩ ⟨h1, h2, h3⟩ N hN
    simp only at h1 h2 h3
    have hd := oldT_drop l i
    refine Wr.go ?_
    repeat' ((first | (have ee := True.intro; refine Wr.mk ?_) | ((first | refine br_go ?_ ?_ | refine pick_go ?_ ?_) <;> intro ee f <;> (try simp only [BB] at f) <;> (try simp only [numOk, verOk] at f))) <;> (try simp (maxSteps := 1000000) (disch := first | omega | (simp only [LN, numOk, verOk, rfP, rvP, rhP, frP] <;> omega) | exact Ck.mk rfl) only [ee, VC, T, Nat.reduceMul, Nat.reduceAdd, Nat.reduceSub, Nat.reduceLT, Nat.reduceEqDiff, Nat.reduceLeDiff, Nat.reduceBEq, reduceCtorEq, Int.reduceToNat, ↓reduceIte, rfP, rvP, rhP, frP]) <;> (try clear ee))
    · rw [if_pos f] at hd
      refine hN (i + 1, n + 1) _ ⟨by simp only; omega, ⟨by simp only; omega, by simp only; omega⟩, by simp only; rw [h3, hd (by omega)]; omega⟩ (by simp only; omega) ?_
      (simp (disch := first | omega | (simp only [LN, numOk, verOk] <;> omega) | exact Ck.mk rfl) only [SB, EQ, Nat.reduceMul, Nat.reduceAdd, Nat.reduceSub, Nat.reduceLT, Nat.reduceEqDiff, Nat.reduceLeDiff, Nat.reduceBEq, reduceCtorEq, Int.reduceToNat, ↓reduceIte]; try omega)
    · rw [if_neg f] at hd
      refine hN (i + 1, n) _ ⟨by simp only; omega, ⟨by simp only; omega, by simp only; omega⟩, by simp only; rw [h3, hd (by omega)]; omega⟩ (by simp only; omega) ?_
      (simp (disch := first | omega | (simp only [LN, numOk, verOk] <;> omega) | exact Ck.mk rfl) only [SB, EQ, Nat.reduceMul, Nat.reduceAdd, Nat.reduceSub, Nat.reduceLT, Nat.reduceEqDiff, Nat.reduceLeDiff, Nat.reduceBEq, reduceCtorEq, Int.reduceToNat, ↓reduceIte]; try omega)
    · rw [h3, List.drop_eq_nil_of_le (by omega), show oldT [] = 0 from rfl, Int.add_zero]
end Go.Pv

/- What functions of the program and of the reference do, in plain values. -/
namespace Go.Pv
open Go.Proofs Go.Mth
set_option linter.unusedSimpArgs false
set_option linter.unusedVariables false
set_option maxHeartbeats 4000000
set_option maxRecDepth 4000

/-! ### the reference's rows -/
theorem spec_LinkAfter (b : ByteArray) (hb : b.size ≤ 1073741824) : Fn Tryz.prog 91 [.str b] [] (.int .i64 (linkAll (scan b).2.2.2.2.1 (scan b).2.2.2.2.2.1)) [] := by
  have hS := spec_Scan b hb
  have hF := scan_f b
  generalize scan b = t at *
  obtain ⟨ok, v, s, base, l, rs, os, e, m⟩ := t
  obtain ⟨f1, f2, f3, f4, f5, f6, f7, f8, f9⟩ := hF
  simp only [scanP] at f1 f2 f3 f4 f5 f6 f7 f8 f9 hS ⊢
  refine fn_x tok (n := 26) (rs := [.tmp 2]) Tryz.func91 (by decide) rfl rfl rfl rfl ?_
  refine Wr.go ?_
  repeat' ((first | (have ee := True.intro; refine Wr.mk ?_) | ((first | refine br_go ?_ ?_ | refine pick_go ?_ ?_) <;> intro ee f <;> (try simp only [BB] at f) <;> (try simp only [numOk, verOk] at f)) | (have ee := True.intro; first | refine call_x (hS) rfl ⟨rfl⟩ ?_)) <;> (try simp (maxSteps := 1000000) (disch := first | omega | (simp only [LN, numOk, verOk, rfP, rvP, rhP, frP] <;> omega) | exact Ck.mk rfl) only [ee, VC, T, Nat.reduceMul, Nat.reduceAdd, Nat.reduceSub, Nat.reduceLT, Nat.reduceEqDiff, Nat.reduceLeDiff, Nat.reduceBEq, reduceCtorEq, Int.reduceToNat, ↓reduceIte, rfP, rvP, rhP, frP]) <;> (try clear ee))
  refine lp_go (fun i : Nat => ⟨26, [(3, .ref 256 0), (4, .int .i64 (linkAll l (rs.take i))), (5, .int .i64 i)], [(256, .box 95 [.bool ok, .int .i64 v, .int .i64 s, .int .i64 base, .int .i64 l, .far (rs.map .str), .far (os.map (.int .i64)), .int .i64 e, .bool m])]⟩) (fun i => i ≤ rs.length) (fun i => rs.length - i) 0 ?_ (by omega) ?_
  · (simp (disch := first | omega | (simp only [LN, numOk, verOk] <;> omega) | exact Ck.mk rfl) only [SB, EQ, Nat.reduceMul, Nat.reduceAdd, Nat.reduceSub, Nat.reduceLT, Nat.reduceEqDiff, Nat.reduceLeDiff, Nat.reduceBEq, reduceCtorEq, Int.reduceToNat, ↓reduceIte]; try omega)
    rfl
  · intro i hi N hN
    refine Wr.go ?_
    repeat' ((first | (have ee := True.intro; refine Wr.mk ?_) | ((first | refine br_go ?_ ?_ | refine pick_go ?_ ?_) <;> intro ee f <;> (try simp only [BB] at f) <;> (try simp only [numOk, verOk] at f)) | (have ee := True.intro; first | refine call_x (spec_LinkMore _ _ (by have := f6 _ (getD_mem rs i (by omega)); omega)) rfl ⟨rfl⟩ ?_)) <;> (try simp (maxSteps := 1000000) (disch := first | omega | (simp only [LN, numOk, verOk, rfP, rvP, rhP, frP, linkAll_snoc] <;> omega) | exact Ck.mk rfl) only [ee, VC, T, Nat.reduceMul, Nat.reduceAdd, Nat.reduceSub, Nat.reduceLT, Nat.reduceEqDiff, Nat.reduceLeDiff, Nat.reduceBEq, reduceCtorEq, Int.reduceToNat, ↓reduceIte, rfP, rvP, rhP, frP, linkAll_snoc]) <;> (try clear ee))
    · refine hN (i + 1) _ (by omega) (by omega) ?_
      (simp (disch := first | omega | (simp only [LN, numOk, verOk] <;> omega) | exact Ck.mk rfl) only [SB, EQ, Nat.reduceMul, Nat.reduceAdd, Nat.reduceSub, Nat.reduceLT, Nat.reduceEqDiff, Nat.reduceLeDiff, Nat.reduceBEq, reduceCtorEq, Int.reduceToNat, ↓reduceIte]; try omega)
    · obtain rfl : i = rs.length := by omega
      rw [List.take_length]
theorem spec_Chain (d : Dk) (h : DkOk d) : Fn Tryz.prog 34 [dkP d] [] (.far ((chainT d).map (.int .i64))) [] := by
  have hT := fun b hb => spec_TextAt d b h hb
  have hle := textT_le h
  have hsn := chGo_snoc d
  have hsp := chGo_stop d
  obtain ⟨ns, es, os, ss, r, x⟩ := d
  generalize hd : ((ns, es, os, ss, r, x) : Dk) = d at *
  have hdk : dkP d = .agg [.far (ns.map ndP), .far (es.map enP), .far (os.map enP), .far (ss.map .str), .int .i64 r, .int .i64 x] := by rw [← hd]; rfl
  rw [hdk] at hT ⊢
  refine fn_x tok (n := 38) (rs := [.tmp 2]) Tryz.func34 (by decide) rfl rfl rfl rfl ?_
  refine Wr.go ?_
  repeat' ((first | (have ee := True.intro; refine Wr.mk ?_) | ((first | refine br_go ?_ ?_ | refine pick_go ?_ ?_) <;> intro ee f <;> (try simp only [BB] at f) <;> (try simp only [numOk, verOk] at f))) <;> (try simp (maxSteps := 1000000) (disch := first | omega | (simp only [LN, numOk, verOk, rfP, rvP, rhP, frP] <;> omega) | exact Ck.mk rfl) only [ee, VC, T, Nat.reduceMul, Nat.reduceAdd, Nat.reduceSub, Nat.reduceLT, Nat.reduceEqDiff, Nat.reduceLeDiff, Nat.reduceBEq, reduceCtorEq, Int.reduceToNat, ↓reduceIte, rfP, rvP, rhP, frP]) <;> (try clear ee))
  refine lp_go (fun x' : List Int × Int × Int => ⟨38, [(1, .ref 128 0), (3, .row 576 x'.1.length), (4, .int .i64 x'.2.1), (5, .int .i64 x'.2.2)], [(128, .box 32 [.far (ns.map ndP), .far (es.map enP), .far (os.map enP), .far (ss.map .str), .int .i64 r, .int .i64 x]), (576, .row ⟨1, 0⟩ (x'.1.map (.int .i64)))]⟩) (fun x => x.1.length ≤ 16 ∧ (0 ≤ x.2.1 ∧ x.2.1 ≤ 1048576 * x.1.length) ∧ chainT d = x.1 ++ chGo d (16 - x.1.length) x.2.1 x.2.2) (fun x => 16 - x.1.length) ([], 0, 0) ?_ ⟨by simp, by simp, rfl⟩ ?_
  · (simp (disch := first | omega | (simp only [LN, numOk, verOk] <;> omega) | exact Ck.mk rfl) only [SB, EQ, Nat.reduceMul, Nat.reduceAdd, Nat.reduceSub, Nat.reduceLT, Nat.reduceEqDiff, Nat.reduceLeDiff, Nat.reduceBEq, reduceCtorEq, Int.reduceToNat, ↓reduceIte]; try omega)
  · rintro ⟨L, b, l⟩ ⟨h1, h2, h3⟩ N hN
    simp only at h1 h2 h3 hN
    have hT := hT b ⟨by omega, by omega⟩
    have hle := hle b
    have hsn := hsn L b l h3
    have hsp := hsp L b l h3
    have hnx := fun s1 (q1 : L.length < 16) (q2 : goOk (textT d b) b l) => hN (L ++ [b], b + (recs (textT d b)).length, linkAll l (recs (textT d b))) s1 ⟨by simp only [List.length_append, List.length_singleton]; omega, ⟨by simp only; omega, by have := (recs_le (textT d b)).1; simp only [List.length_append, List.length_singleton]; omega⟩, hsn q1 q2⟩ (by simp only [List.length_append, List.length_singleton]; omega)
    generalize textT d b = t at *
    have hS := spec_RecordsIn t (by omega)
    have hG := spec_GoesOn t b l (by omega)
    have hA := spec_LinkAfter t (by omega)
    have hlk := scan_link t
    obtain ⟨z1, z2⟩ := recs_le t
    generalize hg : ((rHead t).2.2.2.2 && decide ((rHead t).2.2.1 = b) && decide ((rHead t).2.2.2.1 = l)) = g at *
    have hgo := goOk_iff t b l g hg
    have hll : goOk t b l → (scan t).2.2.2.2.1 = l := fun q => by rw [hlk]; exact q.1.2.2
    unfold recs at *
    generalize scan t = sc at *
    obtain ⟨ok, v, s, base, lk, rs, ofs, e, m⟩ := sc
    simp only at *
    cases g
    · have hn : ¬ goOk t b l := fun q => by have := (hgo.1 q).1; cases this
      refine Wr.go ?_
      repeat' ((first | (have ee := True.intro; refine Wr.mk ?_) | ((first | refine br_go ?_ ?_ | refine pick_go ?_ ?_) <;> intro ee f <;> (try simp only [BB] at f) <;> (try simp only [numOk, verOk] at f)) | (have ee := True.intro; first | refine call_x (hT) rfl ⟨rfl⟩ ?_ | refine call_x (hS) rfl ⟨rfl⟩ ?_ | refine call_x (hG) rfl ⟨rfl⟩ ?_ | refine call_x (hA) rfl ⟨rfl⟩ ?_)) <;> (try simp (maxSteps := 1000000) (disch := first | omega | (simp only [LN, numOk, verOk, rfP, rvP, rhP, frP] <;> omega) | exact Ck.mk rfl) only [ee, VC, T, Nat.reduceMul, Nat.reduceAdd, Nat.reduceSub, Nat.reduceLT, Nat.reduceEqDiff, Nat.reduceLeDiff, Nat.reduceBEq, reduceCtorEq, Int.reduceToNat, ↓reduceIte, rfP, rvP, rhP, frP]) <;> (try clear ee))
      · rw [hsp (.inr hn)]
      · rw [hsp (.inr hn)]
      · rw [hsp (.inl (by omega))]
    · refine Wr.go ?_
      repeat' ((first | (have ee := True.intro; refine Wr.mk ?_) | ((first | refine br_go ?_ ?_ | refine pick_go ?_ ?_) <;> intro ee f <;> (try simp only [BB] at f) <;> (try simp only [numOk, verOk] at f)) | (have ee := True.intro; first | refine call_x (hT) rfl ⟨rfl⟩ ?_ | refine call_x (hS) rfl ⟨rfl⟩ ?_ | refine call_x (hG) rfl ⟨rfl⟩ ?_ | refine call_x (hA) rfl ⟨rfl⟩ ?_)) <;> (try simp (maxSteps := 1000000) (disch := first | omega | (simp only [LN, numOk, verOk, rfP, rvP, rhP, frP] <;> omega) | exact Ck.mk rfl) only [ee, VC, T, Nat.reduceMul, Nat.reduceAdd, Nat.reduceSub, Nat.reduceLT, Nat.reduceEqDiff, Nat.reduceLeDiff, Nat.reduceBEq, reduceCtorEq, Int.reduceToNat, ↓reduceIte, rfP, rvP, rhP, frP]) <;> (try clear ee))
      · rw [hsp (.inr fun q => by have := (hgo.1 q).2; omega)]
      · have q := hgo.2 ⟨rfl, by omega⟩
        refine hnx _ (by omega) q ?_
        rw [← hll q]
        (simp (disch := first | omega | (simp only [LN, numOk, verOk] <;> omega) | exact Ck.mk rfl) only [SB, EQ, Nat.reduceMul, Nat.reduceAdd, Nat.reduceSub, Nat.reduceLT, Nat.reduceEqDiff, Nat.reduceLeDiff, Nat.reduceBEq, reduceCtorEq, Int.reduceToNat, ↓reduceIte]; try omega)
      · rw [hsp (.inl (by omega))]
theorem spec_VersionsOn (d : Dk) (h : DkOk d) : Fn Tryz.prog 59 [dkP d] [] (.far ((versT d).map (.int .i64))) [] := by
  rw [← versT_map]
  have hL := spec_Chain d h
  have hT := fun b hb => spec_TextAt d b h hb
  have hlen := chainT_length d
  have hle := textT_le h
  have hbs := chainT_range h
  generalize hG : (fun b => .int .i64 (rHead (textT d b)).1 : Int → PV) = G
  have hGb := fun b => congrFun hG b
  try simp only at hGb
  generalize chainT d = L at *
  obtain ⟨ns, es, os, ss, r, x⟩ := d
  generalize hd : ((ns, es, os, ss, r, x) : Dk) = d at *
  have hdk : dkP d = .agg [.far (ns.map ndP), .far (es.map enP), .far (os.map enP), .far (ss.map .str), .int .i64 r, .int .i64 x] := by rw [← hd]; rfl
  rw [hdk] at hL hT ⊢
  refine fn_x tok (n := 33) (rs := [.tmp 2]) Tryz.func59 (by decide) rfl rfl rfl rfl ?_
  refine Wr.go ?_
  repeat' ((first | (have ee := True.intro; refine Wr.mk ?_) | ((first | refine br_go ?_ ?_ | refine pick_go ?_ ?_) <;> intro ee f <;> (try simp only [BB] at f) <;> (try simp only [numOk, verOk] at f)) | (have ee := True.intro; first | refine call_x (hL) rfl ⟨rfl⟩ ?_)) <;> (try simp (maxSteps := 1000000) (disch := first | omega | (simp only [LN, numOk, verOk, rfP, rvP, rhP, frP] <;> omega) | exact Ck.mk rfl) only [ee, VC, T, Nat.reduceMul, Nat.reduceAdd, Nat.reduceSub, Nat.reduceLT, Nat.reduceEqDiff, Nat.reduceLeDiff, Nat.reduceBEq, reduceCtorEq, Int.reduceToNat, ↓reduceIte, rfP, rvP, rhP, frP]) <;> (try clear ee))
  refine lp_go (fun i : Nat => ⟨33, [(1, .ref 128 0), (3, .row 576 i), (4, .far (L.map (.int .i64))), (5, .int .i64 i)], [(128, .box 32 [.far (ns.map ndP), .far (es.map enP), .far (os.map enP), .far (ss.map .str), .int .i64 r, .int .i64 x]), (576, .row ⟨1, 0⟩ ((L.take i).map G))]⟩) (fun i => i ≤ L.length) (fun i => L.length - i) 0 ?_ (Nat.zero_le _) ?_
  · (simp (disch := first | omega | (simp only [LN, numOk, verOk] <;> omega) | exact Ck.mk rfl) only [SB, EQ, Nat.reduceMul, Nat.reduceAdd, Nat.reduceSub, Nat.reduceLT, Nat.reduceEqDiff, Nat.reduceLeDiff, Nat.reduceBEq, reduceCtorEq, Int.reduceToNat, ↓reduceIte]; try omega)
    rfl
  · intro i hi N hN
    have ht : (L.take i).length = i := by rw [List.length_take]; omega
    have hsn : i < L.length → (L.take (i + 1)).map G = (L.take i).map G ++ [G (L.getD i default)] := fun h => by
      rw [take_snoc default L i h, List.map_append]; rfl
    have hb : i < L.length → 0 ≤ L.getD i default ∧ L.getD i default ≤ 16777216 := fun h => hbs _ (getD_mem _ _ h)
    generalize hbb : L.getD i default = b at *
    have hT := fun hb => hT b hb
    have hle := hle b
    have hGb := hGb b
    generalize textT d b = t at *
    refine Wr.go ?_
    repeat' ((first | (have ee := True.intro; refine Wr.mk ?_) | ((first | refine br_go ?_ ?_ | refine pick_go ?_ ?_) <;> intro ee f <;> (try simp only [BB] at f) <;> (try simp only [numOk, verOk] at f)) | (have ee := True.intro; first | refine dr_go mixed (id := 6) [([], [1], []), ([], [4], []), ([], [5], []), ([1, 2], [19, 20], []), ([1, 2, 3], [21], []), ([0, 1, 2, 3, 4], [18, 22], []), ([0, 1, 2, 3, 4, 5], [23], []), ([0, 1, 2, 3, 4, 5, 6], [24], []), ([0, 1, 2, 3, 4, 5, 6, 7], [17], []), ([0, 1, 2, 3, 4, 5, 6, 7], [17], []), ([], [], []), ([0, 1, 2, 3, 4, 5, 6, 7, 8, 10], [6, 25], []), ([0, 1, 2, 3, 4, 5, 6, 7, 8, 9, 10, 11], [26], [])] rfl rfl rfl ?_ | refine call_x (hT ⟨by omega, by omega⟩) rfl ⟨rfl⟩ ?_ | refine call_x (spec_ReadHead t (by omega)) rfl ⟨rfl⟩ ?_)) <;> (try simp (maxSteps := 1000000) (disch := first | omega | (simp only [LN, numOk, verOk, rfP, rvP, rhP, frP, hbb, ht] <;> omega) | exact Ck.mk rfl) only [ee, VC, T, Nat.reduceMul, Nat.reduceAdd, Nat.reduceSub, Nat.reduceLT, Nat.reduceEqDiff, Nat.reduceLeDiff, Nat.reduceBEq, reduceCtorEq, Int.reduceToNat, ↓reduceIte, rfP, rvP, rhP, frP, hbb, ht]) <;> (try clear ee))
    · refine hN (i + 1) _ (by omega) (by omega) ?_
      rw [hsn (by omega), ← hGb]
      (simp (disch := first | omega | (simp only [LN, numOk, verOk] <;> omega) | exact Ck.mk rfl) only [SB, EQ, Nat.reduceMul, Nat.reduceAdd, Nat.reduceSub, Nat.reduceLT, Nat.reduceEqDiff, Nat.reduceLeDiff, Nat.reduceBEq, reduceCtorEq, Int.reduceToNat, ↓reduceIte]; try omega)
    · obtain rfl : i = L.length := by omega
      rw [List.take_length]
end Go.Pv

/- What functions of the program and of the reference do, in plain values. -/
namespace Go.Pv
open Go.Proofs Go.Mth
set_option linter.unusedSimpArgs false
set_option linter.unusedVariables false
set_option maxHeartbeats 4000000
set_option maxRecDepth 4000

/-! ### names made -/
theorem impl_TempName (n : Int) (hn : i64 n) : Fn Tryz.prog 130 [.int .i64 n] [] (.str (tmpT n)) [] := by
  have hS := impl_SegmentName n hn
  by_cases h : numOk n
  · have e : tmpT n = segT n ++ ⟨#[46, 116, 109, 112]⟩ := by unfold tmpT segT; rw [if_pos h, if_pos h, strOf_app]; rfl
    have hz := segT_size n h
    rw [e]
    generalize segT n = q at *
    obtain ⟨h0, h1⟩ := h
    refine fn_x tok (n := 9) (rs := [.tmp 2]) Tryz.func130 (by decide) rfl rfl rfl rfl ?_
    refine Wr.go ?_
    repeat' ((first | (have ee := True.intro; refine Wr.mk ?_) | ((first | refine br_go ?_ ?_ | refine pick_go ?_ ?_) <;> intro ee f <;> (try simp only [BB] at f) <;> (try simp only [numOk, verOk] at f)) | (have ee := True.intro; first | refine call_x (impl_isNumber n) rfl ⟨rfl⟩ ?_ | refine call_x (hS) rfl ⟨rfl⟩ ?_)) <;> (try simp (maxSteps := 1000000) (disch := first | omega | (simp only [LN, numOk, verOk, rfP, rvP, rhP, frP, bkd] <;> omega) | exact Ck.mk rfl) only [ee, VC, T, Nat.reduceMul, Nat.reduceAdd, Nat.reduceSub, Nat.reduceLT, Nat.reduceEqDiff, Nat.reduceLeDiff, Nat.reduceBEq, reduceCtorEq, Int.reduceToNat, ↓reduceIte, rfP, rvP, rhP, frP, bkd]) <;> (try clear ee))
  · have e : tmpT n = ⟨#[]⟩ := if_neg h
    rw [e]
    refine fn_x tok (n := 9) (rs := [.tmp 2]) Tryz.func130 (by decide) rfl rfl rfl rfl ?_
    refine Wr.go ?_
    repeat' ((first | (have ee := True.intro; refine Wr.mk ?_) | ((first | refine br_go ?_ ?_ | refine pick_go ?_ ?_) <;> intro ee f <;> (try simp only [BB] at f) <;> (try simp only [numOk, verOk] at f)) | (have ee := True.intro; first | refine call_x (impl_isNumber n) rfl ⟨rfl⟩ ?_)) <;> (try simp (maxSteps := 1000000) (disch := first | omega | (simp only [LN, numOk, verOk, rfP, rvP, rhP, frP, bkd] <;> omega) | exact Ck.mk rfl) only [ee, VC, T, Nat.reduceMul, Nat.reduceAdd, Nat.reduceSub, Nat.reduceLT, Nat.reduceEqDiff, Nat.reduceLeDiff, Nat.reduceBEq, reduceCtorEq, Int.reduceToNat, ↓reduceIte, rfP, rvP, rhP, frP, bkd]) <;> (try clear ee))
theorem spec_TempName (n : Int) (hn : i64 n) : Fn Tryz.prog 127 [.int .i64 n] [] (.str (tmpT n)) [] := by
  have hS := spec_SegmentName n hn
  by_cases h : numOk n
  · have e : tmpT n = segT n ++ ⟨#[46, 116, 109, 112]⟩ := by unfold tmpT segT; rw [if_pos h, if_pos h, strOf_app]; rfl
    have hz := segT_size n h
    have hne : ¬ segT n = ⟨#[]⟩ := fun e => by rw [e] at hz; cases hz
    rw [e]
    generalize segT n = q at *
    refine fn_x tok (n := 10) (rs := [.tmp 2]) Tryz.func127 (by decide) rfl rfl rfl rfl ?_
    refine Wr.go ?_
    repeat' ((first | (have ee := True.intro; refine Wr.mk ?_) | ((first | refine br_go ?_ ?_ | refine pick_go ?_ ?_) <;> intro ee f <;> (try simp only [BB] at f) <;> (try simp only [numOk, verOk] at f)) | (have ee := True.intro; first | refine call_x (hS) rfl ⟨rfl⟩ ?_)) <;> (try simp (maxSteps := 1000000) (disch := first | omega | (simp only [LN, numOk, verOk, rfP, rvP, rhP, frP, bkd, hne] <;> omega) | exact Ck.mk rfl) only [ee, VC, T, Nat.reduceMul, Nat.reduceAdd, Nat.reduceSub, Nat.reduceLT, Nat.reduceEqDiff, Nat.reduceLeDiff, Nat.reduceBEq, reduceCtorEq, Int.reduceToNat, ↓reduceIte, rfP, rvP, rhP, frP, bkd, hne]) <;> (try clear ee))
  · have e : tmpT n = ⟨#[]⟩ := if_neg h
    have e2 : segT n = ⟨#[]⟩ := if_neg h
    rw [e]
    rw [e2] at hS
    refine fn_x tok (n := 10) (rs := [.tmp 2]) Tryz.func127 (by decide) rfl rfl rfl rfl ?_
    refine Wr.go ?_
    repeat' ((first | (have ee := True.intro; refine Wr.mk ?_) | ((first | refine br_go ?_ ?_ | refine pick_go ?_ ?_) <;> intro ee f <;> (try simp only [BB] at f) <;> (try simp only [numOk, verOk] at f)) | (have ee := True.intro; first | refine call_x (hS) rfl ⟨rfl⟩ ?_)) <;> (try simp (maxSteps := 1000000) (disch := first | omega | (simp only [LN, numOk, verOk, rfP, rvP, rhP, frP, bkd] <;> omega) | exact Ck.mk rfl) only [ee, VC, T, Nat.reduceMul, Nat.reduceAdd, Nat.reduceSub, Nat.reduceLT, Nat.reduceEqDiff, Nat.reduceLeDiff, Nat.reduceBEq, reduceCtorEq, Int.reduceToNat, ↓reduceIte, rfP, rvP, rhP, frP, bkd]) <;> (try clear ee))
end Go.Pv

/- What functions of the program and of the reference do, in plain values. -/
namespace Go.Pv
open Go.Proofs Go.Mth
set_option linter.unusedSimpArgs false
set_option linter.unusedVariables false
set_option maxHeartbeats 4000000
set_option maxRecDepth 4000

/-! ### draws of disks with a row of files -/
theorem seal_v (v s b l : Int) (rs : List ByteArray) (hl : rs.length ≤ 1000) (hz : ∀ r ∈ rs, r.size ≤ 60) : FnV Tryz.prog 39 [.agg [.int .i64 v, .int .i64 s, .int .i64 b, .int .i64 l], .far (rs.map .str)] (isStr' (SzIn 100000)) :=
  (spec_SealText v s b l rs (by omega) (fun r hr => by have := hz r hr; omega)).v.mono fun _ e => ⟨_, e, by have := sealT_le v s b l rs; unfold SzIn; omega⟩
theorem frames_v (v s b l : Int) (rs : List ByteArray) (hb : 0 ≤ b ∧ b ≤ 1000) (hl : rs.length ≤ 1000) (hz : ∀ r ∈ rs, r.size ≤ 60) : FnV Tryz.prog 185 [.agg [.int .i64 v, .int .i64 s, .int .i64 b, .int .i64 l], .far (rs.map .str)] (isStr' (SzIn 100000)) :=
  (l10Frames v s b l rs hb ⟨by omega, hz⟩).mono fun _ ⟨x, e, h⟩ => ⟨x, e, by unfold SzIn at *; omega⟩
theorem cons_60 {r : ByteArray} {rs : List ByteArray} (h : Rec r) (hr : ∀ x ∈ rs, x.size ≤ 60) : ∀ x ∈ r :: rs, x.size ≤ 60 := fun x hx => by
  rcases List.mem_cons.1 hx with rfl | hx
  · exact h
  · exact hr x hx
theorem none_60 : ∀ x ∈ ([] : List ByteArray), x.size ≤ 60 := fun x h => absurd h (by simp)
set_option maxRecDepth 20000 in
theorem l14Disk (code : List Int) (hb : Bytes code) (i h : Int) (hc : CurOk code i h) : FnE Tryz.prog 139 [.ref 0 0] [(0, curB code i h)] (CQ code (isDk 12 700000)) := by
  have hD := fun n => spec_DiskNew n
  unfold dkP at hD
  refine fn_e tok (n := 107) (rs := [.cell 2 32]) Tryz.func139 (by decide) rfl rfl rfl rfl (low_of rfl) ?_
  refine Wr.go ?_
  repeat' ((first | (have ee := True.intro; refine Wr.mk ?_) | ((first | refine br_go ?_ ?_ | refine pick_go ?_ ?_) <;> intro ee f <;> (try simp only [BB] at f) <;> (try simp only [numOk, verOk] at f)) | (have ee := True.intro; first | (refine call_hd [0] [832] (l01PickInt code hb [6000, 6000, 6000, 900] (by simp) (by simp) _ _ (by assumption)) (by decide) ?_ rfl ?_; (focus (first | rfl | (simp (maxSteps := 1000000) (disch := first | omega | (simp only [LN, numOk, verOk, rfP, rvP, rhP, frP, curB, bkd, elOk_en, elOk_nd, nfx_en, nfx_nd] <;> omega) | exact Ck.mk rfl) only [VC, T, Nat.reduceMul, Nat.reduceAdd, Nat.reduceSub, Nat.reduceLT, Nat.reduceEqDiff, Nat.reduceLeDiff, Nat.reduceBEq, reduceCtorEq, Int.reduceToNat, ↓reduceIte, rfP, rvP, rhP, frP, curB, bkd, elOk_en, elOk_nd, nfx_en, nfx_nd]; done))); rintro _ _ ⟨⟨y, rfl, hy⟩, i', h', rfl, hc'⟩) | refine call_x (hD _) rfl ⟨rfl⟩ ?_)) <;> (try simp (maxSteps := 1000000) (disch := first | omega | (simp only [LN, numOk, verOk, rfP, rvP, rhP, frP, curB, bkd, elOk_en, elOk_nd, nfx_en, nfx_nd] <;> omega) | exact Ck.mk rfl) only [ee, VC, T, Nat.reduceMul, Nat.reduceAdd, Nat.reduceSub, Nat.reduceLT, Nat.reduceEqDiff, Nat.reduceLeDiff, Nat.reduceBEq, reduceCtorEq, Int.reduceToNat, ↓reduceIte, rfP, rvP, rhP, frP, curB, bkd, elOk_en, elOk_nd, nfx_en, nfx_nd]) <;> (try clear ee))
  refine lp_go (fun x : Nat × Dk × Int × Int × Int × Int => ⟨107, [(0, .ref 0 0), (2, .ref 192 0), (3, .ref 256 0), (4, .int .i64 x.2.2.1), (5, .int .i64 x.2.2.2.1), (6, .int .i64 x.1)], [(0, curB code x.2.2.2.2.1 x.2.2.2.2.2), (192, .box 32 [.nils, .nils, .nils, .nils, .int .i64 0, .int .i64 0]), (256, .box 32 [.far (x.2.1.1.map ndP), .far (x.2.1.2.1.map enP), .far (x.2.1.2.2.1.map enP), .far (x.2.1.2.2.2.1.map .str), .int .i64 x.2.1.2.2.2.2.1, .int .i64 x.2.1.2.2.2.2.2])]⟩) (fun x => x.1 ≤ 4 ∧ DkB (2 * x.1) (64 + 100004 * x.1) x.2.1 ∧ (0 ≤ x.2.2.1 ∧ x.2.2.1 ≤ 4 * x.1) ∧ CurOk code x.2.2.2.2.1 x.2.2.2.2.2) (fun x => 4 - x.1) (0, newT y, 0, 0, i', h') ?_ ⟨Nat.zero_le _, newT_B _ _ _, by simp, hc'⟩ ?_
  · (simp (disch := first | omega | (simp only [LN, numOk, verOk, curB] <;> omega) | exact Ck.mk rfl) only [SB, EQ, Nat.reduceMul, Nat.reduceAdd, Nat.reduceSub, Nat.reduceLT, Nat.reduceEqDiff, Nat.reduceLeDiff, Nat.reduceBEq, reduceCtorEq, Int.reduceToNat, ↓reduceIte, curB]; try omega)
    try rfl
  · rintro ⟨k, d, base, link, i, h⟩ ⟨hk, hd, hbs, hc⟩ N hN
    simp only at hk hd hbs hc hN ⊢
    have hS := spec_SegmentName base (by unfold i64; omega)
    have hsl := segT_le base
    refine Wr.go ?_
    repeat' ((first | (have ee := True.intro; refine Wr.mk ?_) | ((first | refine br_go ?_ ?_ | refine pick_go ?_ ?_) <;> intro ee f <;> (try simp only [BB] at f) <;> (try simp only [numOk, verOk] at f)) | (have ee := True.intro; first | refine dr_go mixed (id := 18) [([], [0], []), ([], [3], []), ([], [4], []), ([2], [60], []), ([], [9], []), ([0, 1, 2, 3, 4], [58, 59, 61, 62], []), ([0, 1, 2, 3, 4, 5], [3, 63], [])] rfl rfl rfl ?_ | refine dr_go mixed (id := 26) [([], [0], []), ([], [3], [0]), ([], [0], []), ([2], [86], []), ([2, 3], [87], []), ([0, 1, 2, 3, 4], [84, 85, 88], []), ([0, 1, 2, 3, 4, 5], [3, 89], [])] rfl rfl rfl ?_ | refine dr_go mixed (id := 28) [([], [0], []), ([], [3], [0]), ([], [0], []), ([2], [94], []), ([2, 3], [95], []), ([2, 3, 4], [96], []), ([], [0], []), ([2, 3, 4, 5, 6], [98], []), ([0, 1, 2, 3, 4, 5, 6, 7], [92, 93, 97, 99], []), ([0, 1, 2, 3, 4, 5, 6, 7, 8], [3, 100], [])] rfl rfl rfl ?_ | (refine call_h [0] [] (l01Below code hb 2 (by decide) _ _ (by assumption)) (by decide) rfl rfl ?_; rintro _ _ ⟨⟨v0, rfl, hv1, hv2⟩, i', h', rfl, hc'⟩) | (refine call_h [0] [] (l01Below code hb 3 (by decide) _ _ (by assumption)) (by decide) rfl rfl ?_; rintro _ _ ⟨⟨s0, rfl, hs1, hs2⟩, i', h', rfl, hc'⟩) | (refine call_h [0] [] (l01Below code hb _ (by omega) _ _ (by assumption)) (by decide) rfl rfl ?_; rintro _ _ ⟨⟨x, rfl, hx1, hx2⟩, i', h', rfl, hc'⟩) | (refine call_h [0] [] (l08Record code hb _ _ (by assumption)) (by decide) rfl rfl ?_; rintro _ _ ⟨⟨r, rfl, hr0⟩, i', h', rfl, hc'⟩) | (refine call_h [0] [] (l08Records code hb 3 (by decide) _ _ (by assumption)) (by decide) rfl rfl ?_; rintro _ _ ⟨⟨rs, rfl, hr1, hr2⟩, i', h', rfl, hc'⟩) | (refine call_h [0] [] (l01Once code hb _ (by decide) _ _ (by assumption)) (by decide) rfl rfl ?_; rintro _ _ ⟨⟨z, rfl⟩, i', h', rfl, hc'⟩) | (refine call_h [] [2496] ((seal_v (1 + v0) (1 + s0) base (link) [] (by decide) none_60).e) (by decide) ?_ rfl ?_; (focus (first | rfl | (simp (maxSteps := 1000000) (disch := first | omega | (simp only [LN, numOk, verOk, rfP, rvP, rhP, frP, curB, bkd, elOk_en, elOk_nd, nfx_en, nfx_nd, dkP, List.map_cons, List.map_nil, List.length_cons, List.length_nil] <;> omega) | exact Ck.mk rfl) only [VC, T, Nat.reduceMul, Nat.reduceAdd, Nat.reduceSub, Nat.reduceLT, Nat.reduceEqDiff, Nat.reduceLeDiff, Nat.reduceBEq, reduceCtorEq, Int.reduceToNat, ↓reduceIte, rfP, rvP, rhP, frP, curB, bkd, elOk_en, elOk_nd, nfx_en, nfx_nd, dkP, List.map_cons, List.map_nil, List.length_cons, List.length_nil]; done))); rintro _ _ ⟨⟨t, rfl, ht⟩, rfl⟩) | (refine call_h [] [2112] ((seal_v (1 + v0) (1 + s0) base (link) (r :: rs) (by simp only [List.length_cons]; omega) (cons_60 hr0 hr2)).e) (by decide) ?_ rfl ?_; (focus (first | rfl | (simp (maxSteps := 1000000) (disch := first | omega | (simp only [LN, numOk, verOk, rfP, rvP, rhP, frP, curB, bkd, elOk_en, elOk_nd, nfx_en, nfx_nd, dkP, List.map_cons, List.map_nil, List.length_cons, List.length_nil] <;> omega) | exact Ck.mk rfl) only [VC, T, Nat.reduceMul, Nat.reduceAdd, Nat.reduceSub, Nat.reduceLT, Nat.reduceEqDiff, Nat.reduceLeDiff, Nat.reduceBEq, reduceCtorEq, Int.reduceToNat, ↓reduceIte, rfP, rvP, rhP, frP, curB, bkd, elOk_en, elOk_nd, nfx_en, nfx_nd, dkP, List.map_cons, List.map_nil, List.length_cons, List.length_nil]; done))); rintro _ _ ⟨⟨t, rfl, ht⟩, rfl⟩) | (refine call_h [] [2496] ((seal_v (1 + v0) (1 + s0) base (Go.bits .xor .i64 link 1) [] (by decide) none_60).e) (by decide) ?_ rfl ?_; (focus (first | rfl | (simp (maxSteps := 1000000) (disch := first | omega | (simp only [LN, numOk, verOk, rfP, rvP, rhP, frP, curB, bkd, elOk_en, elOk_nd, nfx_en, nfx_nd, dkP, List.map_cons, List.map_nil, List.length_cons, List.length_nil] <;> omega) | exact Ck.mk rfl) only [VC, T, Nat.reduceMul, Nat.reduceAdd, Nat.reduceSub, Nat.reduceLT, Nat.reduceEqDiff, Nat.reduceLeDiff, Nat.reduceBEq, reduceCtorEq, Int.reduceToNat, ↓reduceIte, rfP, rvP, rhP, frP, curB, bkd, elOk_en, elOk_nd, nfx_en, nfx_nd, dkP, List.map_cons, List.map_nil, List.length_cons, List.length_nil]; done))); rintro _ _ ⟨⟨t, rfl, ht⟩, rfl⟩) | (refine call_h [] [2112] ((seal_v (1 + v0) (1 + s0) base (Go.bits .xor .i64 link 1) (r :: rs) (by simp only [List.length_cons]; omega) (cons_60 hr0 hr2)).e) (by decide) ?_ rfl ?_; (focus (first | rfl | (simp (maxSteps := 1000000) (disch := first | omega | (simp only [LN, numOk, verOk, rfP, rvP, rhP, frP, curB, bkd, elOk_en, elOk_nd, nfx_en, nfx_nd, dkP, List.map_cons, List.map_nil, List.length_cons, List.length_nil] <;> omega) | exact Ck.mk rfl) only [VC, T, Nat.reduceMul, Nat.reduceAdd, Nat.reduceSub, Nat.reduceLT, Nat.reduceEqDiff, Nat.reduceLeDiff, Nat.reduceBEq, reduceCtorEq, Int.reduceToNat, ↓reduceIte, rfP, rvP, rhP, frP, curB, bkd, elOk_en, elOk_nd, nfx_en, nfx_nd, dkP, List.map_cons, List.map_nil, List.length_cons, List.length_nil]; done))); rintro _ _ ⟨⟨t, rfl, ht⟩, rfl⟩) | (refine call_h [] [2496] ((frames_v (1 + v0) (1 + s0) base (link) [] (by omega) (by decide) none_60).e) (by decide) ?_ rfl ?_; (focus (first | rfl | (simp (maxSteps := 1000000) (disch := first | omega | (simp only [LN, numOk, verOk, rfP, rvP, rhP, frP, curB, bkd, elOk_en, elOk_nd, nfx_en, nfx_nd, dkP, List.map_cons, List.map_nil, List.length_cons, List.length_nil] <;> omega) | exact Ck.mk rfl) only [VC, T, Nat.reduceMul, Nat.reduceAdd, Nat.reduceSub, Nat.reduceLT, Nat.reduceEqDiff, Nat.reduceLeDiff, Nat.reduceBEq, reduceCtorEq, Int.reduceToNat, ↓reduceIte, rfP, rvP, rhP, frP, curB, bkd, elOk_en, elOk_nd, nfx_en, nfx_nd, dkP, List.map_cons, List.map_nil, List.length_cons, List.length_nil]; done))); rintro _ _ ⟨⟨t, rfl, ht⟩, rfl⟩) | (refine call_h [] [2112] ((frames_v (1 + v0) (1 + s0) base (link) (r :: rs) (by omega) (by simp only [List.length_cons]; omega) (cons_60 hr0 hr2)).e) (by decide) ?_ rfl ?_; (focus (first | rfl | (simp (maxSteps := 1000000) (disch := first | omega | (simp only [LN, numOk, verOk, rfP, rvP, rhP, frP, curB, bkd, elOk_en, elOk_nd, nfx_en, nfx_nd, dkP, List.map_cons, List.map_nil, List.length_cons, List.length_nil] <;> omega) | exact Ck.mk rfl) only [VC, T, Nat.reduceMul, Nat.reduceAdd, Nat.reduceSub, Nat.reduceLT, Nat.reduceEqDiff, Nat.reduceLeDiff, Nat.reduceBEq, reduceCtorEq, Int.reduceToNat, ↓reduceIte, rfP, rvP, rhP, frP, curB, bkd, elOk_en, elOk_nd, nfx_en, nfx_nd, dkP, List.map_cons, List.map_nil, List.length_cons, List.length_nil]; done))); rintro _ _ ⟨⟨t, rfl, ht⟩, rfl⟩) | (refine call_h [] [2496] ((frames_v (1 + v0) (1 + s0) base (Go.bits .xor .i64 link 1) [] (by omega) (by decide) none_60).e) (by decide) ?_ rfl ?_; (focus (first | rfl | (simp (maxSteps := 1000000) (disch := first | omega | (simp only [LN, numOk, verOk, rfP, rvP, rhP, frP, curB, bkd, elOk_en, elOk_nd, nfx_en, nfx_nd, dkP, List.map_cons, List.map_nil, List.length_cons, List.length_nil] <;> omega) | exact Ck.mk rfl) only [VC, T, Nat.reduceMul, Nat.reduceAdd, Nat.reduceSub, Nat.reduceLT, Nat.reduceEqDiff, Nat.reduceLeDiff, Nat.reduceBEq, reduceCtorEq, Int.reduceToNat, ↓reduceIte, rfP, rvP, rhP, frP, curB, bkd, elOk_en, elOk_nd, nfx_en, nfx_nd, dkP, List.map_cons, List.map_nil, List.length_cons, List.length_nil]; done))); rintro _ _ ⟨⟨t, rfl, ht⟩, rfl⟩) | (refine call_h [] [2112] ((frames_v (1 + v0) (1 + s0) base (Go.bits .xor .i64 link 1) (r :: rs) (by omega) (by simp only [List.length_cons]; omega) (cons_60 hr0 hr2)).e) (by decide) ?_ rfl ?_; (focus (first | rfl | (simp (maxSteps := 1000000) (disch := first | omega | (simp only [LN, numOk, verOk, rfP, rvP, rhP, frP, curB, bkd, elOk_en, elOk_nd, nfx_en, nfx_nd, dkP, List.map_cons, List.map_nil, List.length_cons, List.length_nil] <;> omega) | exact Ck.mk rfl) only [VC, T, Nat.reduceMul, Nat.reduceAdd, Nat.reduceSub, Nat.reduceLT, Nat.reduceEqDiff, Nat.reduceLeDiff, Nat.reduceBEq, reduceCtorEq, Int.reduceToNat, ↓reduceIte, rfP, rvP, rhP, frP, curB, bkd, elOk_en, elOk_nd, nfx_en, nfx_nd, dkP, List.map_cons, List.map_nil, List.length_cons, List.length_nil]; done))); rintro _ _ ⟨⟨t, rfl, ht⟩, rfl⟩) | (refine call_h [0] [] (l08Bent code hb t (by unfold SzIn at ht; omega) _ _ (by assumption)) (by decide) rfl rfl ?_; rintro _ _ ⟨⟨t, rfl, ht⟩, i', h', rfl, hc'⟩) | refine call_x (hS) rfl ⟨rfl⟩ ?_ | (refine call_h [0] [] (l14Put code hb (2 * k) (64 + 100004 * k) d hd (segT base) t (by omega) (by unfold SzIn at *; omega) (by omega) _ _ (by assumption)) (by decide) rfl rfl ?_; rintro _ _ ⟨⟨d2, rfl, hd2⟩, i', h', rfl, hc'⟩) | refine call_x (spec_TempName x (by unfold i64; omega)) rfl ⟨rfl⟩ ?_ | (refine call_h [0] [] (l14Put code hb (2 * k) (64 + 100004 * k) d hd (tmpT x) ⟨#[104, 97, 108, 102]⟩ (by have := tmpT_le x; omega) (by show 64 + 100004 * k + 4 ≤ 1048576; omega) (by omega) _ _ (by assumption)) (by decide) rfl rfl ?_; rintro _ _ ⟨⟨d2, rfl, hd2⟩, i', h', rfl, hc'⟩) | refine call_x (spec_SegmentName (20 + x) (by unfold i64; omega)) rfl ⟨rfl⟩ ?_ | (refine call_h [0] [] (l10File code hb _ _ (by assumption)) (by decide) rfl rfl ?_; rintro _ _ ⟨⟨t, rfl, ht⟩, i', h', rfl, hc'⟩) | (refine call_h [0] [] (l14Put code hb (2 * k) (64 + 100004 * k) d hd (segT (20 + x)) t (by have := segT_le (20 + x); omega) (by unfold SzIn at *; omega) (by omega) _ _ (by assumption)) (by decide) rfl rfl ?_; rintro _ _ ⟨⟨d2, rfl, hd2⟩, i', h', rfl, hc'⟩) | (refine call_h [0] [] (l14Put code hb (2 * k) (64 + 100004 * k) d hd (⟨#[114, 101, 97, 100, 109, 101]⟩) ⟨#[115, 111, 109, 101, 32, 116, 101, 120, 116]⟩ (by show 6 + 24 ≤ 64 + 100004 * k; omega) (by show 64 + 100004 * k + 9 ≤ 1048576; omega) (by omega) _ _ (by assumption)) (by decide) rfl rfl ?_; rintro _ _ ⟨⟨d2, rfl, hd2⟩, i', h', rfl, hc'⟩))) <;> (try simp (maxSteps := 1000000) (disch := first | omega | (simp only [LN, numOk, verOk, rfP, rvP, rhP, frP, curB, bkd, elOk_en, elOk_nd, nfx_en, nfx_nd, dkP, List.map_cons, List.map_nil, List.length_cons, List.length_nil] <;> omega) | exact Ck.mk rfl) only [ee, VC, T, Nat.reduceMul, Nat.reduceAdd, Nat.reduceSub, Nat.reduceLT, Nat.reduceEqDiff, Nat.reduceLeDiff, Nat.reduceBEq, reduceCtorEq, Int.reduceToNat, ↓reduceIte, rfP, rvP, rhP, frP, curB, bkd, elOk_en, elOk_nd, nfx_en, nfx_nd, dkP, List.map_cons, List.map_nil, List.length_cons, List.length_nil]) <;> (try clear ee))
    all_goals first
      | (obtain ⟨ws, hws⟩ : ∃ ws : List ByteArray, ws = r :: rs := ⟨_, rfl⟩
         have hw4 : ws.length ≤ 4 := by rw [hws]; simp only [List.length_cons]; omega
         have hw60 : ∀ x ∈ ws, x.size ≤ 60 := by rw [hws]; exact cons_60 hr0 hr2
         refine lp_go (fun x : Nat × Int => ⟨107, [(0, .ref 0 0), (2, .ref 192 0), (3, .ref 256 0), (4, .int .i64 (base + ws.length)), (5, .int .i64 x.2), (6, .int .i64 k), (8, .row 2112 ws.length), (10, .int .i64 x.1)], [(0, curB code i' h'), (192, .box 32 [.nils, .nils, .nils, .nils, .int .i64 0, .int .i64 0]), (256, .box 32 [.far (d2.1.map ndP), .far (d2.2.1.map enP), .far (d2.2.2.1.map enP), .far (d2.2.2.2.1.map .str), .int .i64 d2.2.2.2.2.1, .int .i64 d2.2.2.2.2.2]), (2112, .row ⟨1, 0⟩ (ws.map .str))]⟩) (fun x => x.1 ≤ ws.length) (fun x => ws.length - x.1) (0, link) ?_ (Nat.zero_le _) ?_
         · rw [hws]
           (simp (disch := first | omega | (simp only [LN, numOk, verOk, curB, List.map_cons, List.map_nil, List.length_cons, List.length_nil] <;> omega) | exact Ck.mk rfl) only [SB, EQ, Nat.reduceMul, Nat.reduceAdd, Nat.reduceSub, Nat.reduceLT, Nat.reduceEqDiff, Nat.reduceLeDiff, Nat.reduceBEq, reduceCtorEq, Int.reduceToNat, ↓reduceIte, curB, List.map_cons, List.map_nil, List.length_cons, List.length_nil]; try omega)
         · rintro ⟨j, l⟩ hj N2 hN2
           simp only at hj hN2
           clear hws
           by_cases hjl : j < ws.length
           · have hz := hw60 _ (getD_mem ws j hjl)
             refine Wr.go ?_
             repeat' ((first | (have ee := True.intro; refine Wr.mk ?_) | ((first | refine br_go ?_ ?_ | refine pick_go ?_ ?_) <;> intro ee f <;> (try simp only [BB] at f) <;> (try simp only [numOk, verOk] at f)) | (have ee := True.intro; first | refine call_x (spec_LinkMore _ _ (by omega)) rfl ⟨rfl⟩ ?_)) <;> (try simp (maxSteps := 1000000) (disch := first | omega | (simp only [LN, numOk, verOk, rfP, rvP, rhP, frP, curB, bkd, elOk_en, elOk_nd, nfx_en, nfx_nd] <;> omega) | exact Ck.mk rfl) only [ee, VC, T, Nat.reduceMul, Nat.reduceAdd, Nat.reduceSub, Nat.reduceLT, Nat.reduceEqDiff, Nat.reduceLeDiff, Nat.reduceBEq, reduceCtorEq, Int.reduceToNat, ↓reduceIte, rfP, rvP, rhP, frP, curB, bkd, elOk_en, elOk_nd, nfx_en, nfx_nd]) <;> (try clear ee))
             refine hN2 (j + 1, linkMore l (ws.getD j default)) _ (by simp only; omega) (by simp only; omega) ?_
             (simp (disch := first | omega | (simp only [LN, numOk, verOk, curB] <;> omega) | exact Ck.mk rfl) only [SB, EQ, Nat.reduceMul, Nat.reduceAdd, Nat.reduceSub, Nat.reduceLT, Nat.reduceEqDiff, Nat.reduceLeDiff, Nat.reduceBEq, reduceCtorEq, Int.reduceToNat, ↓reduceIte, curB]; try omega)
           · refine Wr.go ?_
             repeat' ((first | (have ee := True.intro; refine Wr.mk ?_) | ((first | refine br_go ?_ ?_ | refine pick_go ?_ ?_) <;> intro ee f <;> (try simp only [BB] at f) <;> (try simp only [numOk, verOk] at f))) <;> (try simp (maxSteps := 1000000) (disch := first | omega | (simp only [LN, numOk, verOk, rfP, rvP, rhP, frP, curB, bkd, elOk_en, elOk_nd, nfx_en, nfx_nd] <;> omega) | exact Ck.mk rfl) only [ee, VC, T, Nat.reduceMul, Nat.reduceAdd, Nat.reduceSub, Nat.reduceLT, Nat.reduceEqDiff, Nat.reduceLeDiff, Nat.reduceBEq, reduceCtorEq, Int.reduceToNat, ↓reduceIte, rfP, rvP, rhP, frP, curB, bkd, elOk_en, elOk_nd, nfx_en, nfx_nd]) <;> (try clear ee))
             refine hN (k + 1, d2, base + ws.length, l, i', h') _ ⟨by simp only; omega, hd2.mono (by simp only; omega) (by unfold SzIn at *; simp only; omega), by simp only; omega, by assumption⟩ (by simp only; omega) ?_
             (simp (disch := first | omega | (simp only [LN, numOk, verOk, curB] <;> omega) | exact Ck.mk rfl) only [SB, EQ, Nat.reduceMul, Nat.reduceAdd, Nat.reduceSub, Nat.reduceLT, Nat.reduceEqDiff, Nat.reduceLeDiff, Nat.reduceBEq, reduceCtorEq, Int.reduceToNat, ↓reduceIte, curB]; try omega))
      | (obtain ⟨ws, hws⟩ : ∃ ws : List ByteArray, ws = [] := ⟨_, rfl⟩
         have hw4 : ws.length ≤ 4 := by rw [hws]; decide
         have hw60 : ∀ x ∈ ws, x.size ≤ 60 := by rw [hws]; exact none_60
         refine lp_go (fun x : Nat × Int => ⟨107, [(0, .ref 0 0), (2, .ref 192 0), (3, .ref 256 0), (4, .int .i64 (base + ws.length)), (5, .int .i64 x.2), (6, .int .i64 k), (8, .row 2496 ws.length), (10, .int .i64 x.1)], [(0, curB code i' h'), (192, .box 32 [.nils, .nils, .nils, .nils, .int .i64 0, .int .i64 0]), (256, .box 32 [.far (d2.1.map ndP), .far (d2.2.1.map enP), .far (d2.2.2.1.map enP), .far (d2.2.2.2.1.map .str), .int .i64 d2.2.2.2.2.1, .int .i64 d2.2.2.2.2.2]), (2496, .row ⟨1, 0⟩ (ws.map .str))]⟩) (fun x => x.1 ≤ ws.length) (fun x => ws.length - x.1) (0, link) ?_ (Nat.zero_le _) ?_
         · rw [hws]
           (simp (disch := first | omega | (simp only [LN, numOk, verOk, curB, List.map_cons, List.map_nil, List.length_cons, List.length_nil] <;> omega) | exact Ck.mk rfl) only [SB, EQ, Nat.reduceMul, Nat.reduceAdd, Nat.reduceSub, Nat.reduceLT, Nat.reduceEqDiff, Nat.reduceLeDiff, Nat.reduceBEq, reduceCtorEq, Int.reduceToNat, ↓reduceIte, curB, List.map_cons, List.map_nil, List.length_cons, List.length_nil]; try omega)
         · rintro ⟨j, l⟩ hj N2 hN2
           simp only at hj hN2
           clear hws
           by_cases hjl : j < ws.length
           · have hz := hw60 _ (getD_mem ws j hjl)
             refine Wr.go ?_
             repeat' ((first | (have ee := True.intro; refine Wr.mk ?_) | ((first | refine br_go ?_ ?_ | refine pick_go ?_ ?_) <;> intro ee f <;> (try simp only [BB] at f) <;> (try simp only [numOk, verOk] at f)) | (have ee := True.intro; first | refine call_x (spec_LinkMore _ _ (by omega)) rfl ⟨rfl⟩ ?_)) <;> (try simp (maxSteps := 1000000) (disch := first | omega | (simp only [LN, numOk, verOk, rfP, rvP, rhP, frP, curB, bkd, elOk_en, elOk_nd, nfx_en, nfx_nd] <;> omega) | exact Ck.mk rfl) only [ee, VC, T, Nat.reduceMul, Nat.reduceAdd, Nat.reduceSub, Nat.reduceLT, Nat.reduceEqDiff, Nat.reduceLeDiff, Nat.reduceBEq, reduceCtorEq, Int.reduceToNat, ↓reduceIte, rfP, rvP, rhP, frP, curB, bkd, elOk_en, elOk_nd, nfx_en, nfx_nd]) <;> (try clear ee))
             refine hN2 (j + 1, linkMore l (ws.getD j default)) _ (by simp only; omega) (by simp only; omega) ?_
             (simp (disch := first | omega | (simp only [LN, numOk, verOk, curB] <;> omega) | exact Ck.mk rfl) only [SB, EQ, Nat.reduceMul, Nat.reduceAdd, Nat.reduceSub, Nat.reduceLT, Nat.reduceEqDiff, Nat.reduceLeDiff, Nat.reduceBEq, reduceCtorEq, Int.reduceToNat, ↓reduceIte, curB]; try omega)
           · refine Wr.go ?_
             repeat' ((first | (have ee := True.intro; refine Wr.mk ?_) | ((first | refine br_go ?_ ?_ | refine pick_go ?_ ?_) <;> intro ee f <;> (try simp only [BB] at f) <;> (try simp only [numOk, verOk] at f))) <;> (try simp (maxSteps := 1000000) (disch := first | omega | (simp only [LN, numOk, verOk, rfP, rvP, rhP, frP, curB, bkd, elOk_en, elOk_nd, nfx_en, nfx_nd] <;> omega) | exact Ck.mk rfl) only [ee, VC, T, Nat.reduceMul, Nat.reduceAdd, Nat.reduceSub, Nat.reduceLT, Nat.reduceEqDiff, Nat.reduceLeDiff, Nat.reduceBEq, reduceCtorEq, Int.reduceToNat, ↓reduceIte, rfP, rvP, rhP, frP, curB, bkd, elOk_en, elOk_nd, nfx_en, nfx_nd]) <;> (try clear ee))
             refine hN (k + 1, d2, base + ws.length, l, i', h') _ ⟨by simp only; omega, hd2.mono (by simp only; omega) (by unfold SzIn at *; simp only; omega), by simp only; omega, by assumption⟩ (by simp only; omega) ?_
             (simp (disch := first | omega | (simp only [LN, numOk, verOk, curB] <;> omega) | exact Ck.mk rfl) only [SB, EQ, Nat.reduceMul, Nat.reduceAdd, Nat.reduceSub, Nat.reduceLT, Nat.reduceEqDiff, Nat.reduceLeDiff, Nat.reduceBEq, reduceCtorEq, Int.reduceToNat, ↓reduceIte, curB]; try omega))
      | (refine fin_c (y := .agg [.far (d2.1.map ndP), .far (d2.2.1.map enP), .far (d2.2.2.1.map enP), .far (d2.2.2.2.1.map .str), .int .i64 d2.2.2.2.2.1, .int .i64 d2.2.2.2.2.2]) rfl (by rfl) rfl rfl ?_
         exact ⟨⟨d2, rfl, hd2.mono (by omega) (by unfold SzIn at *; omega)⟩, _, _, rfl, by assumption⟩)
      | (refine fin_c (y := .agg [.far (d2.1.map ndP), .far (d2.2.1.map enP), .far (d2.2.2.1.map enP), .far (d2.2.2.2.1.map .str), .int .i64 d2.2.2.2.2.1, .int .i64 d2.2.2.2.2.2]) rfl (by rfl) rfl rfl ?_
         exact ⟨⟨d2, rfl, hd2.mono (by omega) (by first | (show 64 + 100004 * k + 4 ≤ 700000; omega) | (show 64 + 100004 * k + 9 ≤ 700000; omega))⟩, _, _, rfl, by assumption⟩)
      | (refine fin_c (y := .agg [.far (d.1.map ndP), .far (d.2.1.map enP), .far (d.2.2.1.map enP), .far (d.2.2.2.1.map .str), .int .i64 d.2.2.2.2.1, .int .i64 d.2.2.2.2.2]) rfl (by rfl) rfl rfl ?_
         exact ⟨⟨d, rfl, hd.mono (by omega) (by omega)⟩, _, _, rfl, by assumption⟩)
end Go.Pv

/- What functions of the program and of the reference do, in plain values. -/
namespace Go.Pv
open Go.Proofs Go.Mth
set_option linter.unusedSimpArgs false
set_option linter.unusedVariables false
set_option maxHeartbeats 4000000
set_option maxRecDepth 4000

theorem l14Any (code : List Int) (hb : Bytes code) (i h : Int) (hc : CurOk code i h) : FnE Tryz.prog 85 [.ref 0 0] [(0, curB code i h)] (CQ code (isDk 17 700000)) := by
  refine fn_e tok (n := 9) (rs := [.cell 2 32]) Tryz.func85 (by decide) rfl rfl rfl rfl (low_of rfl) ?_
  refine Wr.go ?_
  repeat' ((first | (have ee := True.intro; refine Wr.mk ?_) | ((first | refine br_go ?_ ?_ | refine pick_go ?_ ?_) <;> intro ee f <;> (try simp only [BB] at f) <;> (try simp only [numOk, verOk] at f)) | (have ee := True.intro; first | (refine call_h [0] [] (l01Once code hb _ (by decide) _ _ (by assumption)) (by decide) rfl rfl ?_; rintro _ _ ⟨⟨z, rfl⟩, i', h', rfl, hc'⟩) | (refine call_h [0] [] (l05Any code hb _ _ (by assumption)) (by decide) rfl rfl ?_; rintro _ _ ⟨⟨d, rfl, hd⟩, i', h', rfl, hc'⟩) | (refine call_h [0] [] (l14Disk code hb _ _ (by assumption)) (by decide) rfl rfl ?_; rintro _ _ ⟨⟨d, rfl, hd⟩, i', h', rfl, hc'⟩))) <;> (try simp (maxSteps := 1000000) (disch := first | omega | (simp only [LN, numOk, verOk, rfP, rvP, rhP, frP, curB, bkd, elOk_en, elOk_nd, nfx_en, nfx_nd, dkP] <;> omega) | exact Ck.mk rfl) only [ee, VC, T, Nat.reduceMul, Nat.reduceAdd, Nat.reduceSub, Nat.reduceLT, Nat.reduceEqDiff, Nat.reduceLeDiff, Nat.reduceBEq, reduceCtorEq, Int.reduceToNat, ↓reduceIte, rfP, rvP, rhP, frP, curB, bkd, elOk_en, elOk_nd, nfx_en, nfx_nd, dkP]) <;> (try clear ee))
  all_goals
    refine fin_c (y := .agg [.far (d.1.map ndP), .far (d.2.1.map enP), .far (d.2.2.1.map enP), .far (d.2.2.2.1.map .str), .int .i64 d.2.2.2.2.1, .int .i64 d.2.2.2.2.2]) rfl (by rfl) rfl rfl ?_
    exact ⟨⟨d, rfl, hd.mono (by omega) (by omega)⟩, _, _, rfl, by assumption⟩
def isDisk (r : PV) : Prop := ∃ d, r = dkP d ∧ DkOk d
def isDiskI (r : PV) : Prop := ∃ (d : Dk) (k : Int), r = .tup [dkP d, .int .i64 k] ∧ DkOk d ∧ i64 k
theorem DrawLooked (code : List Int) (hb : Bytes code) : FnV Tryz.prog 55 [.far (code.map (.int .u8))] isDisk := by
  refine fn_v tok (n := 6) (rs := [.cell 2 32]) Tryz.func55 (by decide) rfl rfl rfl rfl ?_
  refine Wr.go ?_
  repeat' ((first | (have ee := True.intro; refine Wr.mk ?_) | ((first | refine br_go ?_ ?_ | refine pick_go ?_ ?_) <;> intro ee f <;> (try simp only [BB] at f) <;> (try simp only [numOk, verOk] at f)) | (have ee := True.intro; first | (refine call_h [] [] (l01New code hb) (by decide) rfl rfl ?_; rintro _ _ ⟨rfl, h, rfl, hc⟩) | (refine call_h [320] [] (l14Any code hb _ _ (by assumption)) (by decide) rfl rfl ?_; rintro _ _ ⟨⟨d, rfl, hd⟩, i', h', rfl, hc'⟩))) <;> (try simp (maxSteps := 1000000) (disch := first | omega | (simp only [LN, numOk, verOk, rfP, rvP, rhP, frP, curB, bkd, elOk_en, elOk_nd, nfx_en, nfx_nd, dkP] <;> omega) | exact Ck.mk rfl) only [ee, VC, T, Nat.reduceMul, Nat.reduceAdd, Nat.reduceSub, Nat.reduceLT, Nat.reduceEqDiff, Nat.reduceLeDiff, Nat.reduceBEq, reduceCtorEq, Int.reduceToNat, ↓reduceIte, rfP, rvP, rhP, frP, curB, bkd, elOk_en, elOk_nd, nfx_en, nfx_nd, dkP]) <;> (try clear ee))
  exact ⟨d, rfl, hd.ok (by decide) (by decide)⟩
theorem DrawNamesWith (code : List Int) (hb : Bytes code) : FnV Tryz.prog 45 [.far (code.map (.int .u8))] isDiskI := by
  refine fn_v tok (n := 13) (rs := [.cell 2 32, .tmp 3]) Tryz.func45 (by decide) rfl rfl rfl rfl ?_
  refine Wr.go ?_
  repeat' ((first | (have ee := True.intro; refine Wr.mk ?_) | ((first | refine br_go ?_ ?_ | refine pick_go ?_ ?_) <;> intro ee f <;> (try simp only [BB] at f) <;> (try simp only [numOk, verOk] at f)) | (have ee := True.intro; first | refine dr_go mixed (id := 3) [([], [5], [512]), ([], [4], []), ([1], [11], []), ([0, 1, 2], [2, 10], []), ([0, 1, 2, 3], [12], [])] rfl rfl rfl ?_ | (refine call_h [] [] (l01New code hb) (by decide) rfl rfl ?_; rintro _ _ ⟨rfl, h, rfl, hc⟩) | (refine call_h [512] [] (l14Any code hb _ _ (by assumption)) (by decide) rfl rfl ?_; rintro _ _ ⟨⟨d, rfl, hd⟩, i', h', rfl, hc'⟩) | (refine call_h [512] [] (l01Below code hb _ (by decide) _ _ (by assumption)) (by decide) rfl rfl ?_; rintro _ _ ⟨⟨x, rfl, hx1, hx2⟩, i', h', rfl, hc'⟩))) <;> (try simp (maxSteps := 1000000) (disch := first | omega | (simp only [LN, numOk, verOk, rfP, rvP, rhP, frP, curB, bkd, elOk_en, elOk_nd, nfx_en, nfx_nd, dkP] <;> omega) | exact Ck.mk rfl) only [ee, VC, T, Nat.reduceMul, Nat.reduceAdd, Nat.reduceSub, Nat.reduceLT, Nat.reduceEqDiff, Nat.reduceLeDiff, Nat.reduceBEq, reduceCtorEq, Int.reduceToNat, ↓reduceIte, rfP, rvP, rhP, frP, curB, bkd, elOk_en, elOk_nd, nfx_en, nfx_nd, dkP]) <;> (try clear ee))
  exact ⟨d, x, rfl, hd.ok (by decide) (by decide), by unfold i64; omega⟩
end Go.Pv

/- What functions of the program and of the reference do, in plain values. -/
namespace Go.Pv
open Go.Proofs Go.Mth
set_option linter.unusedSimpArgs false
set_option linter.unusedVariables false
set_option maxHeartbeats 4000000
set_option maxRecDepth 4000

/-- Some of a row, moved to its beginning. -/
structure Kept {α : Type} (p : α → Bool) (L M : List α) (i j : Nat) : Prop where
  len : M.length = L.length
  lt : i < j
  le : j ≤ L.length
  fst : M.take i = (L.take j).filter p
  snd : M.drop j = L.drop j
theorem Kept.first {α : Type} [Inhabited α] {p : α → Bool} {L : List α} {k : Nat} (hk : k < L.length) (h1 : ∀ j, j < k → p (L.getD j default) = true) (h2 : p (L.getD k default) = false) : Kept p L L k (k + 1) := by
  refine ⟨rfl, by omega, by omega, ?_, rfl⟩
  rw [take_snoc default L k hk, List.filter_append]
  have e : (L.take k).filter p = L.take k := by
    rw [List.filter_eq_self]
    intro x hx
    obtain ⟨j, hj, rfl⟩ := List.mem_iff_getElem.1 hx
    rw [List.length_take] at hj
    have := h1 j (by omega)
    rw [List.getD_eq_getElem?_getD, List.getElem?_eq_getElem (by omega)] at this
    rw [List.getElem_take]
    exact this
  have e2 : [rdOf default L (k : Int)].filter p = [] := by
    have : rdOf default L (k : Int) = L.getD k default := rfl
    rw [this, List.filter_cons_of_neg (by rw [h2]; decide)]; rfl
  rw [e]
  show _ = _ ++ List.filter p [_]
  rw [show List.filter p [rdOf default L k] = [] from e2, List.append_nil]
theorem Kept.at {α : Type} [Inhabited α] {p : α → Bool} {L M : List α} {i j : Nat} (h : Kept p L M i j) (hj : j < L.length) : M.getD j default = L.getD j default := by
  have h1 := congrArg (fun l => l.head?) h.snd
  simp only [List.head?_drop] at h1
  rw [List.getD_eq_getElem?_getD, List.getD_eq_getElem?_getD, h1]
theorem Kept.skip {α : Type} [Inhabited α] {p : α → Bool} {L M : List α} {i j : Nat} (h : Kept p L M i j) (hj : j < L.length) (hp : p (L.getD j default) = false) : Kept p L M i (j + 1) := by
  refine ⟨h.len, by have := h.lt; omega, by omega, ?_, ?_⟩
  · rw [h.fst, take_snoc default L j hj, List.filter_append]
    show _ = _ ++ List.filter p [_]
    have e2 : [rdOf default L j].filter p = [] := by
      have : rdOf default L (j : Int) = L.getD j default := rfl
      rw [this, List.filter_cons_of_neg (by rw [hp]; decide)]; rfl
    rw [e2, List.append_nil]
  · have := congrArg (fun l => l.drop 1) h.snd
    simpa [List.drop_drop] using this
theorem Kept.take {α : Type} [Inhabited α] {p : α → Bool} {L M : List α} {i j : Nat} (h : Kept p L M i j) (hj : j < L.length) (hp : p (L.getD j default) = true) : Kept p L (M.set i (L.getD j default)) (i + 1) (j + 1) := by
  have hlt := h.lt
  have hln := h.len
  refine ⟨by rw [List.length_set]; exact h.len, by omega, by omega, ?_, ?_⟩
  · rw [take_snoc default L j hj, List.filter_append, ← h.fst]
    have e2 : [rdOf default L j].filter p = [L.getD j default] := by
      have : rdOf default L (j : Int) = L.getD j default := rfl
      rw [this, List.filter_cons_of_pos hp]; rfl
    rw [e2, List.take_add_one, List.take_set_of_le (Nat.le_refl i), List.getElem?_set_self (by omega)]
    rfl
  · rw [List.drop_set_of_lt (by omega)]
    have := congrArg (fun l => l.drop 1) h.snd
    simpa [List.drop_drop] using this
theorem Kept.done {α : Type} {p : α → Bool} {L M : List α} {i : Nat} (h : Kept p L M i L.length) : M.take i = L.filter p ∧ (L.filter p).length = i ∧ i < L.length := by
  have h1 := h.fst
  rw [List.take_length] at h1
  refine ⟨h1, ?_, h.lt⟩
  rw [← h1, List.length_take]
  have := h.lt
  have := h.len
  omega
theorem filt_snoc {α : Type} [Inhabited α] (p : α → Bool) (L : List α) (i : Nat) (h : i < L.length) : (L.take (i + 1)).filter p = (L.take i).filter p ++ if p (L.getD i default) = true then [L.getD i default] else [] := by
  rw [take_snoc default L i h, List.filter_append]
  congr 1
  show List.filter p [rdOf default L i] = _
  have : rdOf default L (i : Int) = L.getD i default := rfl
  rw [this]
  cases hp : p (L.getD i default)
  · rw [List.filter_cons_of_neg (by rw [hp]; decide)]; rfl
  · rw [List.filter_cons_of_pos hp]; rfl
end Go.Pv

/- What functions of the program and of the reference do, in plain values. -/
namespace Go.Pv
open Go.Proofs Go.Mth
set_option linter.unusedSimpArgs false
set_option linter.unusedVariables false
set_option maxHeartbeats 4000000
set_option maxRecDepth 4000

/-! ### laws of drawn disks: what they share -/
theorem u8_in {n : Int} (h : (Lit.int .u8 n).wf = true) : 0 ≤ n ∧ n ≤ 255 := by
  simp only [Lit.wf, Bool.and_eq_true, decide_eq_true_eq] at h
  exact h
def CodeOk (code : List Int) : Prop := code.length ≤ 9223372036854775807 ∧ ∀ a ∈ code, (Lit.int .u8 a).wf = true
theorem CodeOk.bytes {code : List Int} (h : CodeOk code) (hl : (code.length : Int) ≤ 1048576) : Bytes code := ⟨by omega, fun x hx => u8_in (h.2 x hx)⟩
theorem laws_bigD (code : List Int) (h : code.length ≤ 9223372036854775807) : Fn Tryz.prog 29 [.far (code.map (.int .u8))] [] (.bool (decide (1048576 < (code.length : Int)))) [] := by
  refine fn_x tok (n := 6) (rs := [.tmp 2]) Tryz.func29 (by decide) rfl rfl rfl rfl ?_
  refine Wr.go ?_
  repeat' ((first | (have ee := True.intro; refine Wr.mk ?_) | ((first | refine br_go ?_ ?_ | refine pick_go ?_ ?_) <;> intro ee f <;> (try simp only [BB] at f) <;> (try simp only [numOk, verOk] at f))) <;> (try simp (maxSteps := 1000000) (disch := first | omega | (simp only [LN, numOk, verOk, dkP, beq_self_eq_true, bkd] <;> omega) | exact Ck.mk rfl) only [ee, VC, T, Nat.reduceMul, Nat.reduceAdd, Nat.reduceSub, Nat.reduceLT, Nat.reduceEqDiff, Nat.reduceLeDiff, Nat.reduceBEq, reduceCtorEq, Int.reduceToNat, ↓reduceIte, dkP, beq_self_eq_true, bkd]) <;> (try clear ee))
theorem new500 : Fn Tryz.prog 37 [.int .i64 500] [] (dkP (newT 500)) [] := spec_DiskNew 500
end Go.Pv

/-
  DERIVED: THE SHELF's CONTRACTS AT THIS DUMP, IN PLAIN WORDS (tools/lay-plain.mjs out of 'TryzShelf.lean', which tools/lay-shelf.mjs wrote): THE SAME DECLARATIONS UNDER THE SAME NAMES: 'import', 'namespace', 'open', 'def', 'theorem' AND NOTHING ELSE: no command of the shelf's: FOR A HAND-IN. Each laying: the table of numbers ('.._ren') and one theorem, a field a fact of the dump's own or the kernel's comparison; each contract: ONE APPLICATION.
-/
namespace Go.Proofs
open Go.Shelf
def Tryz.laysC245_ren : Go.Shelf.Ren := ⟨fun | 245 => 167 | 279 => 207 | 280 => 208 | 281 => 209 | 282 => 210 | 316 => 243 | 171 => 245 | 205 => 244 | 243 => 266 | 246 => 196 | 283 => 234 | 284 => 235 | 285 => 236 | 286 => 237 | 129 => 178 | 317 => 260 | 318 => 261 | 319 => 262 | 320 => 263 | 337 => 270 | 338 => 271 | n => n, fun | 9 => 9 | 3 => 3 | 75 => 132 | 167 => 201 | 4 => 4 | 168 => 203 | 210 => 227 | 37 => 48 | 0 => 0 | 127 => 224 | 145 => 245 | 143 => 243 | 2 => 2 | 171 => 216 | 53 => 130 | 5 => 5 | 173 => 218 | 212 => 238 | 51 => 177 | 20 => 20 | 213 => 239 | 46 => 137 | 232 => 246 | 233 => 247 | 80 => 199 | n => n, fun | 15 => 0 | 16 => 1 | 17 => 2 | 18 => 4 | 19 => 5 | n => n⟩
theorem Tryz.laysC245 : Go.Proofs.LaysC.n245 Tryz.prog Tryz.laysC245_ren := {
  mixed := by kernel_rfl
  f129 := Tryz.func178.trans (congrArg some (by kernel_rfl))
  f171 := Tryz.func245.trans (congrArg some (by kernel_rfl))
  f205 := Tryz.func244.trans (congrArg some (by kernel_rfl))
  f243 := Tryz.func266.trans (congrArg some (by kernel_rfl))
  f245 := Tryz.func167.trans (congrArg some (by kernel_rfl))
  f246 := Tryz.func196.trans (congrArg some (by kernel_rfl))
  f279 := Tryz.func207.trans (congrArg some (by kernel_rfl))
  f280 := Tryz.func208.trans (congrArg some (by kernel_rfl))
  f281 := Tryz.func209.trans (congrArg some (by kernel_rfl))
  f282 := Tryz.func210.trans (congrArg some (by kernel_rfl))
  f283 := Tryz.func234.trans (congrArg some (by kernel_rfl))
  f284 := Tryz.func235.trans (congrArg some (by kernel_rfl))
  f285 := Tryz.func236.trans (congrArg some (by kernel_rfl))
  f286 := Tryz.func237.trans (congrArg some (by kernel_rfl))
  f316 := Tryz.func243.trans (congrArg some (by kernel_rfl))
  f317 := Tryz.func260.trans (congrArg some (by kernel_rfl))
  f318 := Tryz.func261.trans (congrArg some (by kernel_rfl))
  f319 := Tryz.func262.trans (congrArg some (by kernel_rfl))
  f320 := Tryz.func263.trans (congrArg some (by kernel_rfl))
  f337 := Tryz.func270.trans (congrArg some (by kernel_rfl))
  f338 := Tryz.func271.trans (congrArg some (by kernel_rfl))
  t0 := Tryz.underlying0
  a0 := Tryz.isAgg0
  z0 := Tryz.sizeOf0
  v0 := Tryz.zeroValue0
  t2 := Tryz.underlying2
  a2 := Tryz.isAgg2
  z2 := Tryz.sizeOf2
  v2 := Tryz.zeroValue2
  t3 := Tryz.underlying3
  a3 := Tryz.isAgg3
  z3 := Tryz.sizeOf3
  v3 := Tryz.zeroValue3
  t4 := Tryz.underlying4
  a4 := Tryz.isAgg4
  z4 := Tryz.sizeOf4
  v4 := Tryz.zeroValue4
  t5 := Tryz.underlying5
  a5 := Tryz.isAgg5
  z5 := Tryz.sizeOf5
  v5 := Tryz.zeroValue5
  t9 := Tryz.underlying9
  a9 := Tryz.isAgg9
  z9 := Tryz.sizeOf9
  v9 := Tryz.zeroValue9
  t20 := Tryz.underlying20
  a20 := Tryz.isAgg20
  z20 := Tryz.sizeOf20
  v20 := Tryz.zeroValue20
  t37 := Tryz.underlying48
  a37 := Tryz.isAgg48
  z37 := Tryz.sizeOf48
  v37 := Tryz.zeroValue48
  t46 := Tryz.underlying137
  a46 := Tryz.isAgg137
  z46 := Tryz.sizeOf137
  v46 := Tryz.zeroValue137
  t51 := Tryz.underlying177
  a51 := Tryz.isAgg177
  z51 := Tryz.sizeOf177
  v51 := Tryz.zeroValue177
  t53 := Tryz.underlying130
  a53 := Tryz.isAgg130
  z53 := Tryz.sizeOf130
  v53 := Tryz.zeroValue130
  t75 := Tryz.underlying132
  a75 := Tryz.isAgg132
  z75 := Tryz.sizeOf132
  v75 := Tryz.zeroValue132
  t127 := Tryz.underlying224
  a127 := Tryz.isAgg224
  z127 := Tryz.sizeOf224
  v127 := Tryz.zeroValue224
  t143 := Tryz.underlying243
  a143 := Tryz.isAgg243
  z143 := Tryz.sizeOf243
  v143 := Tryz.zeroValue243
  t145 := Tryz.underlying245
  a145 := Tryz.isAgg245
  z145 := Tryz.sizeOf245
  v145 := Tryz.zeroValue245
  t167 := Tryz.underlying201
  a167 := Tryz.isAgg201
  z167 := Tryz.sizeOf201
  v167 := Tryz.zeroValue201
  t168 := Tryz.underlying203
  a168 := Tryz.isAgg203
  z168 := Tryz.sizeOf203
  v168 := Tryz.zeroValue203
  t171 := Tryz.underlying216
  a171 := Tryz.isAgg216
  z171 := Tryz.sizeOf216
  v171 := Tryz.zeroValue216
  t173 := Tryz.underlying218
  a173 := Tryz.isAgg218
  z173 := Tryz.sizeOf218
  v173 := Tryz.zeroValue218
  t210 := Tryz.underlying227
  a210 := Tryz.isAgg227
  z210 := Tryz.sizeOf227
  v210 := Tryz.zeroValue227
  t212 := Tryz.underlying238
  a212 := Tryz.isAgg238
  z212 := Tryz.sizeOf238
  v212 := Tryz.zeroValue238
  t213 := Tryz.underlying239
  a213 := Tryz.isAgg239
  z213 := Tryz.sizeOf239
  t232 := Tryz.underlying246
  a232 := Tryz.isAgg246
  z232 := Tryz.sizeOf246
  v232 := Tryz.zeroValue246
  t233 := Tryz.underlying247
  a233 := Tryz.isAgg247
  z233 := Tryz.sizeOf247
  v233 := Tryz.zeroValue247
  g15 := by kernel_rfl
  g16 := by kernel_rfl
  g17 := by kernel_rfl
  g18 := by kernel_rfl
  g19 := by kernel_rfl
  t80 := Tryz.underlying199
  a80 := Tryz.isAgg199
  z80 := Tryz.sizeOf199
  v80 := Tryz.zeroValue199
  i0 := by kernel_rfl
  i2 := by kernel_rfl
  i3 := by kernel_rfl
  i4 := by kernel_rfl
  i5 := by kernel_rfl
  i9 := by kernel_rfl
  i20 := by kernel_rfl
  i37 := by kernel_rfl
  i46 := by kernel_rfl
  i51 := by kernel_rfl
  i53 := by kernel_rfl
  i75 := by kernel_rfl
  i80 := by kernel_rfl
  i127 := by kernel_rfl
  i143 := by kernel_rfl
  i145 := by kernel_rfl
  i167 := by kernel_rfl
  i168 := by kernel_rfl
  i171 := by kernel_rfl
  i173 := by kernel_rfl
  i210 := by kernel_rfl
  i212 := by kernel_rfl
  i232 := by kernel_rfl
  i233 := by kernel_rfl
  m15 := by kernel_rfl
  m16 := by kernel_rfl
  m17 := by kernel_rfl
  m18 := by kernel_rfl
  m19 := by kernel_rfl
  c0 := by kernel_rfl
  c2 := by kernel_rfl
  c3 := by kernel_rfl
  c4 := by kernel_rfl
  c5 := by kernel_rfl
  c9 := by kernel_rfl
  c20 := by kernel_rfl
  c37 := by kernel_rfl
  c46 := by kernel_rfl
  c51 := by kernel_rfl
  c53 := by kernel_rfl
  c75 := by kernel_rfl
  c80 := by kernel_rfl
  c127 := by kernel_rfl
  c143 := by kernel_rfl
  c145 := by kernel_rfl
  c167 := by kernel_rfl
  c168 := by kernel_rfl
  c171 := by kernel_rfl
  c173 := by kernel_rfl
  c210 := by kernel_rfl
  c212 := by kernel_rfl
  c213 := by kernel_rfl
  c232 := by kernel_rfl
  c233 := by kernel_rfl }
open Go.RowKit in
/-- strconv.toError, at the inner package's ErrSyntax: 'syntaxError(fn, s)' as an error: A *NumError IN A NEW BLOCK. (LAID: no walk: one application.) -/
theorem Tryz.strconv_toError_syntax (fn s : ByteArray) (base bits : Int) (ev : Value) (w : World) (hlim : s.size ≤ 281474976710656) (hv : w.cell? ⟨0, 0, none⟩ = some ev) (hev : ev = .nilIface ∨ ∃ te pe, ev = .iface te pe) :
    Calls Tryz.prog 167 #[.string fn, .string s, .int .i64 base, .int .i64 bits, .iface 201 (.int .i64 2)] w fun e w' => ∃ N, e = .returned (.iface 203 (.pointer (some ⟨N, 0, none⟩))) ∧ w.heap.size ≤ N ∧ w'.heap[N]? = some (.cells #[.string fn, .string s, ev] 227 (0, 0)) ∧ Below w.heap.size w w' := Any.strconv_toError_syntax Tryz.laysC245 fn s base bits ev w hlim hv hev
end Go.Proofs
