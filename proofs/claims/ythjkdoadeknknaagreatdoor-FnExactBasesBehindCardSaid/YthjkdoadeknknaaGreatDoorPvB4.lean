/- The texts of this claim, part 4: a small logic of plain values for the model's runs, what it says of the functions, in plain values. -/
import Derived.Test.YthjkdoadeknknaaGreatDoorPvB0
import Derived.Test.YthjkdoadeknknaaGreatDoorPvB1
import Derived.Test.YthjkdoadeknknaaGreatDoorPvB2
import Derived.Test.YthjkdoadeknknaaGreatDoorPvB3
/- What functions of the program and of the reference do, in plain values. -/
namespace Go.Pv
open Go.Proofs Go.Mth
set_option linter.unusedSimpArgs false
set_option linter.unusedVariables false
set_option maxHeartbeats 4000000

/-! ### sealed files, read -/
def rsP (x : (Int × Int × Int × Int) × List ByteArray × Bool) : PV := .tup [.agg [.int .i64 x.1.1, .int .i64 x.1.2.1, .int .i64 x.1.2.2.1, .int .i64 x.1.2.2.2], .far (x.2.1.map .str), .bool x.2.2]
def rsR (x : (Int × Int × Int × Int) × List ByteArray × Bool) : PV := .tup [.agg [.int .i64 x.1.1, .int .i64 x.1.2.1, .int .i64 x.1.2.2.1, .int .i64 x.1.2.2.2], .row 64 x.2.1.length, .bool x.2.2]
def rsH (x : (Int × Int × Int × Int) × List ByteArray × Bool) : Hp := [(64, .row ⟨1, 0⟩ (x.2.1.map .str))]
theorem impl_ReadSealedR (b : ByteArray) (hb : b.size ≤ 1073741824) : FnE Tryz.prog 174 [.str b] [] (fun r m => r = rsR (rSealed b) ∧ m = rsH (rSealed b)) := by
  have hS := impl_ScanR b hb
  have hF := scan_f b
  unfold rSealed sealedB scSeal
  generalize scan b = t at *
  obtain ⟨ok, v, s, base, l, rs, os, e, m⟩ := t
  obtain ⟨f1, f2, f3, f4, f5, f6, f7, f8, f9⟩ := hF
  simp only at f1 f2 f3 f4 f5 f6 f7 f8 f9 hS ⊢
  have hT := impl_SealText v s base l rs (by omega)
  refine fn_e tok (n := 25) (rs := [.cell 2 60, .tmp 3, .tmp 4]) Tryz.func174 (by decide) rfl rfl rfl rfl (low_of rfl) ?_
  (try simp (maxSteps := 1000000) (disch := first | omega | (simp only [LN, numOk, verOk, rfP, rvP, rhP, frP, blH, bytesOf_length, scanR, scanH, scanP, rsP, rsR, rsH] <;> omega) | exact Ck.mk rfl) only [VC, T, Nat.reduceMul, Nat.reduceAdd, Nat.reduceSub, Nat.reduceLT, Nat.reduceEqDiff, Nat.reduceLeDiff, Nat.reduceBEq, reduceCtorEq, Int.reduceToNat, ↓reduceIte, rfP, rvP, rhP, frP, blH, bytesOf_length, scanR, scanH, scanP, rsP, rsR, rsH])
  repeat' (first
    | (refine br_go (fun e f => ?_) (fun e f => ?_) <;> (try simp only [BB] at f) <;> (try simp only [numOk, verOk] at f) <;> (try simp (maxSteps := 1000000) (disch := first | omega | (simp only [LN, numOk, verOk, rfP, rvP, rhP, frP, blH, bytesOf_length, scanR, scanH, scanP, rsP, rsR, rsH] <;> omega) | exact Ck.mk rfl) only [e, VC, T, Nat.reduceMul, Nat.reduceAdd, Nat.reduceSub, Nat.reduceLT, Nat.reduceEqDiff, Nat.reduceLeDiff, Nat.reduceBEq, reduceCtorEq, Int.reduceToNat, ↓reduceIte, rfP, rvP, rhP, frP, blH, bytesOf_length, scanR, scanH, scanP, rsP, rsR, rsH]) <;> (try clear e))
    | (refine pick_go (fun e f => ?_) (fun e f => ?_) <;> (try simp only [BB] at f) <;> (try simp only [numOk, verOk] at f) <;> (try simp (maxSteps := 1000000) (disch := first | omega | (simp only [LN, numOk, verOk, rfP, rvP, rhP, frP, blH, bytesOf_length, scanR, scanH, scanP, rsP, rsR, rsH] <;> omega) | exact Ck.mk rfl) only [e, VC, T, Nat.reduceMul, Nat.reduceAdd, Nat.reduceSub, Nat.reduceLT, Nat.reduceEqDiff, Nat.reduceLeDiff, Nat.reduceBEq, reduceCtorEq, Int.reduceToNat, ↓reduceIte, rfP, rvP, rhP, frP, blH, bytesOf_length, scanR, scanH, scanP, rsP, rsR, rsH]) <;> (try clear e))
    | ((first | refine dr_go mixed (id := 4) [([], [5], []), ([0], [21], []), ([], [5], [192]), ([2], [23], [192]), ([0, 1], [2, 22], []), ([0, 1, 2, 3, 4], [24], []), ([0, 1, 2, 3, 4, 5], [], [])] rfl rfl rfl ?_ | (refine call_h [] [] (hS) (by decide) rfl rfl ?_; rintro _ _ ⟨rfl, rfl⟩) | (refine call_hx [] [512] (hT) (by decide) ?_ rfl ?_; (focus (first | rfl | (simp (maxSteps := 1000000) (disch := first | omega | (simp only [LN, numOk, verOk, rfP, rvP, rhP, frP, blH, bytesOf_length, scanR, scanH, scanP, rsP, rsR, rsH] <;> omega) | exact Ck.mk rfl) only [VC, T, Nat.reduceMul, Nat.reduceAdd, Nat.reduceSub, Nat.reduceLT, Nat.reduceEqDiff, Nat.reduceLeDiff, Nat.reduceBEq, reduceCtorEq, Int.reduceToNat, ↓reduceIte, rfP, rvP, rhP, frP, blH, bytesOf_length, scanR, scanH, scanP, rsP, rsR, rsH]; done))))); (try simp (maxSteps := 1000000) (disch := first | omega | (simp only [LN, numOk, verOk, rfP, rvP, rhP, frP, blH, bytesOf_length, scanR, scanH, scanP, rsP, rsR, rsH] <;> omega) | exact Ck.mk rfl) only [VC, T, Nat.reduceMul, Nat.reduceAdd, Nat.reduceSub, Nat.reduceLT, Nat.reduceEqDiff, Nat.reduceLeDiff, Nat.reduceBEq, reduceCtorEq, Int.reduceToNat, ↓reduceIte, rfP, rvP, rhP, frP, blH, bytesOf_length, scanR, scanH, scanP, rsP, rsR, rsH])))
  · exact fin_t [some 512] (⟨rfl, rfl⟩) rfl (by simp [RV, RV2, RVl, RV1, tau, tget, hget, data1, oneOf, rsR, rsH]) (by simp [RH, RVl, RV1, tau, hget, data1, rsR, rsH]) (by simp [Taus, hget, rsR, rsH])
  · exact fin_t [none] (⟨rfl, rfl⟩) rfl (by simp [RV, RV2, RVl, RV1, tau, tget, hget, data1, oneOf, rsR, rsH]) (by simp [RH, RVl, RV1, tau, hget, data1, rsR, rsH]) (by simp [Taus, hget, rsR, rsH])
  · exact fin_t [none] (⟨rfl, rfl⟩) rfl (by simp [RV, RV2, RVl, RV1, tau, tget, hget, data1, oneOf, rsR, rsH]) (by simp [RH, RVl, RV1, tau, hget, data1, rsR, rsH]) (by simp [Taus, hget, rsR, rsH])
theorem impl_ReadSealed (b : ByteArray) (hb : b.size ≤ 1073741824) : Fn Tryz.prog 174 [.str b] [] (rsP (rSealed b)) [] := by
  obtain ⟨_, _, ⟨rfl, rfl⟩, h⟩ := impl_ReadSealedR b hb
  refine h.far ?_
  simp [fz, fz2, fz1, cvtl, elems, rsR, rsH, rsP, hget, data1]
theorem spec_ReadSealed (b : ByteArray) (hb : b.size ≤ 1073741824) : Fn Tryz.prog 135 [.str b] [] (rsP (rSealed b)) [] := by
  have hS := spec_Scan b hb
  have hF := scan_f b
  have hM := sealed_ok b
  unfold rSealed
  unfold sealedB scSeal at hM ⊢
  generalize scan b = t at *
  obtain ⟨ok, v, s, base, l, rs, os, e, m⟩ := t
  obtain ⟨f1, f2, f3, f4, f5, f6, f7, f8, f9⟩ := hF
  simp only at f1 f2 f3 f4 f5 f6 f7 f8 f9 hS hM ⊢
  have hT := spec_SealText v s base l rs (by omega) (fun r hr => by have := f6 r hr; omega)
  refine fn_x tok (n := 31) (rs := [.cell 2 60, .tmp 3, .tmp 4]) Tryz.func135 (by decide) rfl rfl rfl rfl ?_
  (try simp (maxSteps := 1000000) (disch := first | omega | (simp only [LN, numOk, verOk, rfP, rvP, rhP, frP, blH, bytesOf_length, scanR, scanH, scanP, rsP, rsR, rsH] <;> omega) | exact Ck.mk rfl) only [VC, T, Nat.reduceMul, Nat.reduceAdd, Nat.reduceSub, Nat.reduceLT, Nat.reduceEqDiff, Nat.reduceLeDiff, Nat.reduceBEq, reduceCtorEq, Int.reduceToNat, ↓reduceIte, rfP, rvP, rhP, frP, blH, bytesOf_length, scanR, scanH, scanP, rsP, rsR, rsH])
  repeat' (first
    | (refine br_go (fun e f => ?_) (fun e f => ?_) <;> (try simp only [BB] at f) <;> (try simp only [numOk, verOk] at f) <;> (try simp (maxSteps := 1000000) (disch := first | omega | (simp only [LN, numOk, verOk, rfP, rvP, rhP, frP, blH, bytesOf_length, scanR, scanH, scanP, rsP, rsR, rsH] <;> omega) | exact Ck.mk rfl) only [e, VC, T, Nat.reduceMul, Nat.reduceAdd, Nat.reduceSub, Nat.reduceLT, Nat.reduceEqDiff, Nat.reduceLeDiff, Nat.reduceBEq, reduceCtorEq, Int.reduceToNat, ↓reduceIte, rfP, rvP, rhP, frP, blH, bytesOf_length, scanR, scanH, scanP, rsP, rsR, rsH]) <;> (try clear e))
    | (refine pick_go (fun e f => ?_) (fun e f => ?_) <;> (try simp only [BB] at f) <;> (try simp only [numOk, verOk] at f) <;> (try simp (maxSteps := 1000000) (disch := first | omega | (simp only [LN, numOk, verOk, rfP, rvP, rhP, frP, blH, bytesOf_length, scanR, scanH, scanP, rsP, rsR, rsH] <;> omega) | exact Ck.mk rfl) only [e, VC, T, Nat.reduceMul, Nat.reduceAdd, Nat.reduceSub, Nat.reduceLT, Nat.reduceEqDiff, Nat.reduceLeDiff, Nat.reduceBEq, reduceCtorEq, Int.reduceToNat, ↓reduceIte, rfP, rvP, rhP, frP, blH, bytesOf_length, scanR, scanH, scanP, rsP, rsR, rsH]) <;> (try clear e))
    | ((first | refine dr_go mixed (id := 4) [([], [5], []), ([0], [27], []), ([], [5], [192]), ([2], [29], [192]), ([0, 1], [2, 28], []), ([0, 1, 2, 3, 4], [30], []), ([0, 1, 2, 3, 4, 5], [], [])] rfl rfl rfl ?_ | refine call_x (hS) rfl ⟨rfl⟩ ?_ | refine call_x (hT) rfl ⟨rfl⟩ ?_); (try simp (maxSteps := 1000000) (disch := first | omega | (simp only [LN, numOk, verOk, rfP, rvP, rhP, frP, blH, bytesOf_length, scanR, scanH, scanP, rsP, rsR, rsH] <;> omega) | exact Ck.mk rfl) only [VC, T, Nat.reduceMul, Nat.reduceAdd, Nat.reduceSub, Nat.reduceLT, Nat.reduceEqDiff, Nat.reduceLeDiff, Nat.reduceBEq, reduceCtorEq, Int.reduceToNat, ↓reduceIte, rfP, rvP, rhP, frP, blH, bytesOf_length, scanR, scanH, scanP, rsP, rsR, rsH])))
  have hx : ¬ sealT v s base l rs = b := fun hx => by
    have := (hM (by simp_all)).2.2.2
    rw [f] at this; cases this
  rw [decide_eq_false hx]; rfl
theorem impl_SealedOk (b : ByteArray) (hb : b.size ≤ 1073741824) : Fn Tryz.prog 136 [.str b] [] (.bool (rSealed b).2.2) [] := by
  have h := impl_ReadSealed b hb
  refine fn_x tok (n := 13) (rs := [.tmp 2]) Tryz.func136 (by decide) rfl rfl rfl rfl ?_
  (try simp (maxSteps := 1000000) (disch := first | omega | (simp only [LN, numOk, verOk, rfP, rvP, rhP, frP, blH, bytesOf_length, scanR, scanH, scanP, rsP, rsR, rsH] <;> omega) | exact Ck.mk rfl) only [VC, T, Nat.reduceMul, Nat.reduceAdd, Nat.reduceSub, Nat.reduceLT, Nat.reduceEqDiff, Nat.reduceLeDiff, Nat.reduceBEq, reduceCtorEq, Int.reduceToNat, ↓reduceIte, rfP, rvP, rhP, frP, blH, bytesOf_length, scanR, scanH, scanP, rsP, rsR, rsH])
  repeat' (first
    | (refine br_go (fun e f => ?_) (fun e f => ?_) <;> (try simp only [BB] at f) <;> (try simp only [numOk, verOk] at f) <;> (try simp (maxSteps := 1000000) (disch := first | omega | (simp only [LN, numOk, verOk, rfP, rvP, rhP, frP, blH, bytesOf_length, scanR, scanH, scanP, rsP, rsR, rsH] <;> omega) | exact Ck.mk rfl) only [e, VC, T, Nat.reduceMul, Nat.reduceAdd, Nat.reduceSub, Nat.reduceLT, Nat.reduceEqDiff, Nat.reduceLeDiff, Nat.reduceBEq, reduceCtorEq, Int.reduceToNat, ↓reduceIte, rfP, rvP, rhP, frP, blH, bytesOf_length, scanR, scanH, scanP, rsP, rsR, rsH]) <;> (try clear e))
    | (refine pick_go (fun e f => ?_) (fun e f => ?_) <;> (try simp only [BB] at f) <;> (try simp only [numOk, verOk] at f) <;> (try simp (maxSteps := 1000000) (disch := first | omega | (simp only [LN, numOk, verOk, rfP, rvP, rhP, frP, blH, bytesOf_length, scanR, scanH, scanP, rsP, rsR, rsH] <;> omega) | exact Ck.mk rfl) only [e, VC, T, Nat.reduceMul, Nat.reduceAdd, Nat.reduceSub, Nat.reduceLT, Nat.reduceEqDiff, Nat.reduceLeDiff, Nat.reduceBEq, reduceCtorEq, Int.reduceToNat, ↓reduceIte, rfP, rvP, rhP, frP, blH, bytesOf_length, scanR, scanH, scanP, rsP, rsR, rsH]) <;> (try clear e))
    | ((first | refine call_x (h) rfl ⟨rfl⟩ ?_); (try simp (maxSteps := 1000000) (disch := first | omega | (simp only [LN, numOk, verOk, rfP, rvP, rhP, frP, blH, bytesOf_length, scanR, scanH, scanP, rsP, rsR, rsH] <;> omega) | exact Ck.mk rfl) only [VC, T, Nat.reduceMul, Nat.reduceAdd, Nat.reduceSub, Nat.reduceLT, Nat.reduceEqDiff, Nat.reduceLeDiff, Nat.reduceBEq, reduceCtorEq, Int.reduceToNat, ↓reduceIte, rfP, rvP, rhP, frP, blH, bytesOf_length, scanR, scanH, scanP, rsP, rsR, rsH])))
theorem spec_SealedOk (b : ByteArray) (hb : b.size ≤ 1073741824) : Fn Tryz.prog 104 [.str b] [] (.bool (rSealed b).2.2) [] := by
  have h := spec_ReadSealed b hb
  refine fn_x tok (n := 13) (rs := [.tmp 2]) Tryz.func104 (by decide) rfl rfl rfl rfl ?_
  (try simp (maxSteps := 1000000) (disch := first | omega | (simp only [LN, numOk, verOk, rfP, rvP, rhP, frP, blH, bytesOf_length, scanR, scanH, scanP, rsP, rsR, rsH] <;> omega) | exact Ck.mk rfl) only [VC, T, Nat.reduceMul, Nat.reduceAdd, Nat.reduceSub, Nat.reduceLT, Nat.reduceEqDiff, Nat.reduceLeDiff, Nat.reduceBEq, reduceCtorEq, Int.reduceToNat, ↓reduceIte, rfP, rvP, rhP, frP, blH, bytesOf_length, scanR, scanH, scanP, rsP, rsR, rsH])
  repeat' (first
    | (refine br_go (fun e f => ?_) (fun e f => ?_) <;> (try simp only [BB] at f) <;> (try simp only [numOk, verOk] at f) <;> (try simp (maxSteps := 1000000) (disch := first | omega | (simp only [LN, numOk, verOk, rfP, rvP, rhP, frP, blH, bytesOf_length, scanR, scanH, scanP, rsP, rsR, rsH] <;> omega) | exact Ck.mk rfl) only [e, VC, T, Nat.reduceMul, Nat.reduceAdd, Nat.reduceSub, Nat.reduceLT, Nat.reduceEqDiff, Nat.reduceLeDiff, Nat.reduceBEq, reduceCtorEq, Int.reduceToNat, ↓reduceIte, rfP, rvP, rhP, frP, blH, bytesOf_length, scanR, scanH, scanP, rsP, rsR, rsH]) <;> (try clear e))
    | (refine pick_go (fun e f => ?_) (fun e f => ?_) <;> (try simp only [BB] at f) <;> (try simp only [numOk, verOk] at f) <;> (try simp (maxSteps := 1000000) (disch := first | omega | (simp only [LN, numOk, verOk, rfP, rvP, rhP, frP, blH, bytesOf_length, scanR, scanH, scanP, rsP, rsR, rsH] <;> omega) | exact Ck.mk rfl) only [e, VC, T, Nat.reduceMul, Nat.reduceAdd, Nat.reduceSub, Nat.reduceLT, Nat.reduceEqDiff, Nat.reduceLeDiff, Nat.reduceBEq, reduceCtorEq, Int.reduceToNat, ↓reduceIte, rfP, rvP, rhP, frP, blH, bytesOf_length, scanR, scanH, scanP, rsP, rsR, rsH]) <;> (try clear e))
    | ((first | refine call_x (h) rfl ⟨rfl⟩ ?_); (try simp (maxSteps := 1000000) (disch := first | omega | (simp only [LN, numOk, verOk, rfP, rvP, rhP, frP, blH, bytesOf_length, scanR, scanH, scanP, rsP, rsR, rsH] <;> omega) | exact Ck.mk rfl) only [VC, T, Nat.reduceMul, Nat.reduceAdd, Nat.reduceSub, Nat.reduceLT, Nat.reduceEqDiff, Nat.reduceLeDiff, Nat.reduceBEq, reduceCtorEq, Int.reduceToNat, ↓reduceIte, rfP, rvP, rhP, frP, blH, bytesOf_length, scanR, scanH, scanP, rsP, rsR, rsH])))
def hiP (x : (Int × Int × Int × Int) × List ByteArray × Bool) : PV := .tup [.agg [.int .i64 x.1.1, .int .i64 x.1.2.1, .int .i64 x.1.2.2.1, .int .i64 x.1.2.2.2], .bool x.2.2]
def resealT (b : ByteArray) (n : Int) : ByteArray := if (scan b).1 = true ∧ (n = 0 ∨ verOk n) then sealT (if n = 0 then (scan b).2.1 else n) (scan b).2.2.1 (scan b).2.2.2.1 (scan b).2.2.2.2.1 (scan b).2.2.2.2.2.1 else ⟨#[]⟩
def seekT (b : ByteArray) (i : Int) : ByteArray × Bool := if (rSealed b).2.2 = true ∧ (rSealed b).1.2.2.1 ≤ i ∧ i < (rSealed b).1.2.2.1 + (rSealed b).2.1.length then ((rSealed b).2.1.getD (i - (rSealed b).1.2.2.1).toNat default, true) else (⟨#[]⟩, false)
def skP (x : ByteArray × Bool) : PV := .tup [.str x.1, .bool x.2]
theorem rSealed_f (b : ByteArray) : (0 ≤ (rSealed b).1.2.2.1 ∧ (rSealed b).1.2.2.1 ≤ 1000000000) ∧ (rSealed b).2.1.length ≤ b.size ∧ (∀ r ∈ (rSealed b).2.1, r.size ≤ 60) := by
  obtain ⟨f1, f2, f3, f4, f5, f6, _⟩ := scan_f b
  unfold rSealed
  split
  · exact ⟨f3, f5, f6⟩
  · exact ⟨⟨by decide, by decide⟩, Nat.zero_le _, fun _ h => absurd h (by simp)⟩
theorem impl_GoesOn (b : ByteArray) (p l : Int) (hb : b.size ≤ 1073741824) : Fn Tryz.prog 89 [.str b, .int .i64 p, .int .i64 l] [] (.bool ((rHead b).2.2.2.2 && decide ((rHead b).2.2.1 = p) && decide ((rHead b).2.2.2.1 = l))) [] := by
  have h := impl_ReadHead b (by omega)
  refine fn_x tok (n := 27) (rs := [.tmp 6]) Tryz.func89 (by decide) rfl rfl rfl rfl ?_
  (try simp (maxSteps := 1000000) (disch := first | omega | (simp only [LN, numOk, verOk, rfP, rvP, rhP, frP, blH, bytesOf_length, scanR, scanH, scanP, rsP, rsR, rsH] <;> omega) | exact Ck.mk rfl) only [VC, T, Nat.reduceMul, Nat.reduceAdd, Nat.reduceSub, Nat.reduceLT, Nat.reduceEqDiff, Nat.reduceLeDiff, Nat.reduceBEq, reduceCtorEq, Int.reduceToNat, ↓reduceIte, rfP, rvP, rhP, frP, blH, bytesOf_length, scanR, scanH, scanP, rsP, rsR, rsH])
  repeat' (first
    | (refine br_go (fun e f => ?_) (fun e f => ?_) <;> (try simp only [BB] at f) <;> (try simp only [numOk, verOk] at f) <;> (try simp (maxSteps := 1000000) (disch := first | omega | (simp only [LN, numOk, verOk, rfP, rvP, rhP, frP, blH, bytesOf_length, scanR, scanH, scanP, rsP, rsR, rsH] <;> omega) | exact Ck.mk rfl) only [e, VC, T, Nat.reduceMul, Nat.reduceAdd, Nat.reduceSub, Nat.reduceLT, Nat.reduceEqDiff, Nat.reduceLeDiff, Nat.reduceBEq, reduceCtorEq, Int.reduceToNat, ↓reduceIte, rfP, rvP, rhP, frP, blH, bytesOf_length, scanR, scanH, scanP, rsP, rsR, rsH]) <;> (try clear e))
    | (refine pick_go (fun e f => ?_) (fun e f => ?_) <;> (try simp only [BB] at f) <;> (try simp only [numOk, verOk] at f) <;> (try simp (maxSteps := 1000000) (disch := first | omega | (simp only [LN, numOk, verOk, rfP, rvP, rhP, frP, blH, bytesOf_length, scanR, scanH, scanP, rsP, rsR, rsH] <;> omega) | exact Ck.mk rfl) only [e, VC, T, Nat.reduceMul, Nat.reduceAdd, Nat.reduceSub, Nat.reduceLT, Nat.reduceEqDiff, Nat.reduceLeDiff, Nat.reduceBEq, reduceCtorEq, Int.reduceToNat, ↓reduceIte, rfP, rvP, rhP, frP, blH, bytesOf_length, scanR, scanH, scanP, rsP, rsR, rsH]) <;> (try clear e))
    | ((first | refine call_x (h) rfl ⟨rfl⟩ ?_); (try simp (maxSteps := 1000000) (disch := first | omega | (simp only [LN, numOk, verOk, rfP, rvP, rhP, frP, blH, bytesOf_length, scanR, scanH, scanP, rsP, rsR, rsH] <;> omega) | exact Ck.mk rfl) only [VC, T, Nat.reduceMul, Nat.reduceAdd, Nat.reduceSub, Nat.reduceLT, Nat.reduceEqDiff, Nat.reduceLeDiff, Nat.reduceBEq, reduceCtorEq, Int.reduceToNat, ↓reduceIte, rfP, rvP, rhP, frP, blH, bytesOf_length, scanR, scanH, scanP, rsP, rsR, rsH])))
theorem spec_GoesOn (b : ByteArray) (p l : Int) (hb : b.size ≤ 1073741824) : Fn Tryz.prog 62 [.str b, .int .i64 p, .int .i64 l] [] (.bool ((rHead b).2.2.2.2 && decide ((rHead b).2.2.1 = p) && decide ((rHead b).2.2.2.1 = l))) [] := by
  have h := spec_ReadHead b (by omega)
  refine fn_x tok (n := 27) (rs := [.tmp 6]) Tryz.func62 (by decide) rfl rfl rfl rfl ?_
  (try simp (maxSteps := 1000000) (disch := first | omega | (simp only [LN, numOk, verOk, rfP, rvP, rhP, frP, blH, bytesOf_length, scanR, scanH, scanP, rsP, rsR, rsH] <;> omega) | exact Ck.mk rfl) only [VC, T, Nat.reduceMul, Nat.reduceAdd, Nat.reduceSub, Nat.reduceLT, Nat.reduceEqDiff, Nat.reduceLeDiff, Nat.reduceBEq, reduceCtorEq, Int.reduceToNat, ↓reduceIte, rfP, rvP, rhP, frP, blH, bytesOf_length, scanR, scanH, scanP, rsP, rsR, rsH])
  repeat' (first
    | (refine br_go (fun e f => ?_) (fun e f => ?_) <;> (try simp only [BB] at f) <;> (try simp only [numOk, verOk] at f) <;> (try simp (maxSteps := 1000000) (disch := first | omega | (simp only [LN, numOk, verOk, rfP, rvP, rhP, frP, blH, bytesOf_length, scanR, scanH, scanP, rsP, rsR, rsH] <;> omega) | exact Ck.mk rfl) only [e, VC, T, Nat.reduceMul, Nat.reduceAdd, Nat.reduceSub, Nat.reduceLT, Nat.reduceEqDiff, Nat.reduceLeDiff, Nat.reduceBEq, reduceCtorEq, Int.reduceToNat, ↓reduceIte, rfP, rvP, rhP, frP, blH, bytesOf_length, scanR, scanH, scanP, rsP, rsR, rsH]) <;> (try clear e))
    | (refine pick_go (fun e f => ?_) (fun e f => ?_) <;> (try simp only [BB] at f) <;> (try simp only [numOk, verOk] at f) <;> (try simp (maxSteps := 1000000) (disch := first | omega | (simp only [LN, numOk, verOk, rfP, rvP, rhP, frP, blH, bytesOf_length, scanR, scanH, scanP, rsP, rsR, rsH] <;> omega) | exact Ck.mk rfl) only [e, VC, T, Nat.reduceMul, Nat.reduceAdd, Nat.reduceSub, Nat.reduceLT, Nat.reduceEqDiff, Nat.reduceLeDiff, Nat.reduceBEq, reduceCtorEq, Int.reduceToNat, ↓reduceIte, rfP, rvP, rhP, frP, blH, bytesOf_length, scanR, scanH, scanP, rsP, rsR, rsH]) <;> (try clear e))
    | ((first | refine call_x (h) rfl ⟨rfl⟩ ?_); (try simp (maxSteps := 1000000) (disch := first | omega | (simp only [LN, numOk, verOk, rfP, rvP, rhP, frP, blH, bytesOf_length, scanR, scanH, scanP, rsP, rsR, rsH] <;> omega) | exact Ck.mk rfl) only [VC, T, Nat.reduceMul, Nat.reduceAdd, Nat.reduceSub, Nat.reduceLT, Nat.reduceEqDiff, Nat.reduceLeDiff, Nat.reduceBEq, reduceCtorEq, Int.reduceToNat, ↓reduceIte, rfP, rvP, rhP, frP, blH, bytesOf_length, scanR, scanH, scanP, rsP, rsR, rsH])))
end Go.Pv

/- What functions of the program and of the reference do, in plain values. -/
namespace Go.Pv
open Go.Proofs Go.Mth
set_option linter.unusedSimpArgs false
set_option linter.unusedVariables false
set_option maxHeartbeats 4000000
set_option maxRecDepth 4000

/-! ### the files that go on from one another -/
def lkP (d : Dk) (b : Int) : PV := .agg (.int .i64 b :: .str (textT d b) :: flat (scanP (scan (textT d b))))
theorem lkP_len (d : Dk) (b : Int) : (flat (lkP d b)).length = 11 := rfl
theorem goOk_iff (t : ByteArray) (b l : Int) (g : Bool) (h : ((rHead t).2.2.2.2 && decide ((rHead t).2.2.1 = b) && decide ((rHead t).2.2.2.1 = l)) = g) : goOk t b l ↔ g = true ∧ 0 < (recs t).length := by
  subst h
  unfold goOk
  simp only [Bool.and_eq_true, decide_eq_true_eq, and_assoc]
theorem impl_links (d : Dk) (h : DkOk d) : Fn Tryz.prog 57 [dkP d] [] (.far ((chainT d).map (lkP d))) [] := by
  have hT := fun b hb => impl_TextAt d b h hb
  have hle := textT_le h
  have hsn := chGo_snoc d
  have hsp := chGo_stop d
  have hlk : ∀ b, lkP d b = .agg (.int .i64 b :: .str (textT d b) :: flat (scanP (scan (textT d b)))) := fun _ => rfl
  obtain ⟨ns, es, os, ss, r, x⟩ := d
  generalize hd : ((ns, es, os, ss, r, x) : Dk) = d at *
  have hdk : dkP d = .agg [.far (ns.map ndP), .far (es.map enP), .far (os.map enP), .far (ss.map .str), .int .i64 r, .int .i64 x] := by rw [← hd]; rfl
  rw [hdk] at hT ⊢
  refine fn_x tok (n := 45) (rs := [.tmp 2]) Tryz.func57 (by decide) rfl rfl rfl rfl ?_
  (try simp (maxSteps := 1000000) (disch := first | omega | (simp only [LN, numOk, verOk, rfP, rvP, rhP, frP] <;> omega) | exact Ck.mk rfl) only [VC, T, Nat.reduceMul, Nat.reduceAdd, Nat.reduceSub, Nat.reduceLT, Nat.reduceEqDiff, Nat.reduceLeDiff, Nat.reduceBEq, reduceCtorEq, Int.reduceToNat, ↓reduceIte, rfP, rvP, rhP, frP])
  repeat' (first
    | (refine br_go (fun e f => ?_) (fun e f => ?_) <;> (try simp only [BB] at f) <;> (try simp only [numOk, verOk] at f) <;> (try simp (maxSteps := 1000000) (disch := first | omega | (simp only [LN, numOk, verOk, rfP, rvP, rhP, frP] <;> omega) | exact Ck.mk rfl) only [e, VC, T, Nat.reduceMul, Nat.reduceAdd, Nat.reduceSub, Nat.reduceLT, Nat.reduceEqDiff, Nat.reduceLeDiff, Nat.reduceBEq, reduceCtorEq, Int.reduceToNat, ↓reduceIte, rfP, rvP, rhP, frP]) <;> (try clear e))
    | (refine pick_go (fun e f => ?_) (fun e f => ?_) <;> (try simp only [BB] at f) <;> (try simp only [numOk, verOk] at f) <;> (try simp (maxSteps := 1000000) (disch := first | omega | (simp only [LN, numOk, verOk, rfP, rvP, rhP, frP] <;> omega) | exact Ck.mk rfl) only [e, VC, T, Nat.reduceMul, Nat.reduceAdd, Nat.reduceSub, Nat.reduceLT, Nat.reduceEqDiff, Nat.reduceLeDiff, Nat.reduceBEq, reduceCtorEq, Int.reduceToNat, ↓reduceIte, rfP, rvP, rhP, frP]) <;> (try clear e)))
  refine lp_go (fun x' : List Int × Int × Int => ⟨45, [(1, .ref 128 0), (3, .row 576 x'.1.length), (4, .int .i64 x'.2.1), (5, .int .i64 x'.2.2)], [(128, .box 32 [.far (ns.map ndP), .far (es.map enP), .far (os.map enP), .far (ss.map .str), .int .i64 r, .int .i64 x]), (576, .row ⟨11, 0⟩ (x'.1.map (lkP d)))]⟩) (fun x => x.1.length ≤ 16 ∧ (0 ≤ x.2.1 ∧ x.2.1 ≤ 1048576 * x.1.length) ∧ chainT d = x.1 ++ chGo d (16 - x.1.length) x.2.1 x.2.2) (fun x => 16 - x.1.length) ([], 0, 0) ?_ ⟨by simp, by simp, rfl⟩ ?_
  · (simp (disch := first | omega | (simp only [LN, numOk, verOk] <;> omega) | exact Ck.mk rfl) only [SB, EQ, Nat.reduceMul, Nat.reduceAdd, Nat.reduceSub, Nat.reduceLT, Nat.reduceEqDiff, Nat.reduceLeDiff, Nat.reduceBEq, reduceCtorEq, Int.reduceToNat, ↓reduceIte]; try omega)
  · rintro ⟨L, b, l⟩ ⟨h1, h2, h3⟩ N hN
    simp only at h1 h2 h3 hN
    have hT := hT b ⟨by omega, by omega⟩
    have hle := hle b
    have hsn := hsn L b l h3
    have hsp := hsp L b l h3
    have hlk := hlk b
    have hnx := fun s1 (q1 : L.length < 16) (q2 : goOk (textT d b) b l) => hN (L ++ [b], b + (recs (textT d b)).length, linkAll l (recs (textT d b))) s1 ⟨by simp only [List.length_append, List.length_singleton]; omega, ⟨by simp only; omega, by have := (recs_le (textT d b)).1; simp only [List.length_append, List.length_singleton]; omega⟩, hsn q1 q2⟩ (by simp only [List.length_append, List.length_singleton]; omega)
    generalize textT d b = t at *
    have hS := impl_Scan t (by omega)
    have hG := impl_GoesOn t b l (by omega)
    obtain ⟨z1, z2⟩ := recs_le t
    generalize hg : ((rHead t).2.2.2.2 && decide ((rHead t).2.2.1 = b) && decide ((rHead t).2.2.2.1 = l)) = g at *
    have hgo := goOk_iff t b l g hg
    have hA := impl_linkAll l (recs t) (by omega) (fun r hr => by have := z2 r hr; omega)
    unfold recs at *
    generalize scan t = sc at *
    obtain ⟨ok, v, s, base, lk, rs, ofs, e, m⟩ := sc
    simp only [scanP, flat] at *
    have hmap : (L ++ [b]).map (lkP d) = L.map (lkP d) ++ [.agg [.int .i64 b, .str t, .bool ok, .int .i64 v, .int .i64 s, .int .i64 base, .int .i64 lk, .far (rs.map .str), .far (ofs.map (.int .i64)), .int .i64 e, .bool m]] := by rw [List.map_append, List.map_singleton, hlk]
    cases g
    · have hn : ¬ goOk t b l := fun q => by have := (hgo.1 q).1; cases this
      (try simp (maxSteps := 1000000) (disch := first | omega | (simp only [LN, numOk, verOk, rfP, rvP, rhP, frP] <;> omega) | exact Ck.mk rfl) only [VC, T, Nat.reduceMul, Nat.reduceAdd, Nat.reduceSub, Nat.reduceLT, Nat.reduceEqDiff, Nat.reduceLeDiff, Nat.reduceBEq, reduceCtorEq, Int.reduceToNat, ↓reduceIte, rfP, rvP, rhP, frP])
      repeat' (first
        | (refine br_go (fun e f => ?_) (fun e f => ?_) <;> (try simp only [BB] at f) <;> (try simp only [numOk, verOk] at f) <;> (try simp (maxSteps := 1000000) (disch := first | omega | (simp only [LN, numOk, verOk, rfP, rvP, rhP, frP] <;> omega) | exact Ck.mk rfl) only [e, VC, T, Nat.reduceMul, Nat.reduceAdd, Nat.reduceSub, Nat.reduceLT, Nat.reduceEqDiff, Nat.reduceLeDiff, Nat.reduceBEq, reduceCtorEq, Int.reduceToNat, ↓reduceIte, rfP, rvP, rhP, frP]) <;> (try clear e))
        | (refine pick_go (fun e f => ?_) (fun e f => ?_) <;> (try simp only [BB] at f) <;> (try simp only [numOk, verOk] at f) <;> (try simp (maxSteps := 1000000) (disch := first | omega | (simp only [LN, numOk, verOk, rfP, rvP, rhP, frP] <;> omega) | exact Ck.mk rfl) only [e, VC, T, Nat.reduceMul, Nat.reduceAdd, Nat.reduceSub, Nat.reduceLT, Nat.reduceEqDiff, Nat.reduceLeDiff, Nat.reduceBEq, reduceCtorEq, Int.reduceToNat, ↓reduceIte, rfP, rvP, rhP, frP]) <;> (try clear e))
        | ((first | refine dr_go mixed (id := 8) [([], [4], []), ([], [7], []), ([1], [36], []), ([1, 2], [37], []), ([0, 1, 2, 3], [35, 38], []), ([], [5], []), ([], [7], []), ([6], [41], []), ([5, 6, 7], [40, 42], []), ([0, 1, 2, 3, 4, 5, 6, 7, 8], [39], []), ([0, 1, 2, 3, 4, 5, 6, 7, 8, 9], [43], [])] rfl rfl rfl ?_ | refine call_x (hT) rfl ⟨rfl⟩ ?_ | refine call_x (hS) rfl ⟨rfl⟩ ?_ | refine call_x (hG) rfl ⟨rfl⟩ ?_ | refine call_x (hA) rfl ⟨rfl⟩ ?_); (try simp (maxSteps := 1000000) (disch := first | omega | (simp only [LN, numOk, verOk, rfP, rvP, rhP, frP] <;> omega) | exact Ck.mk rfl) only [VC, T, Nat.reduceMul, Nat.reduceAdd, Nat.reduceSub, Nat.reduceLT, Nat.reduceEqDiff, Nat.reduceLeDiff, Nat.reduceBEq, reduceCtorEq, Int.reduceToNat, ↓reduceIte, rfP, rvP, rhP, frP])))
      · rw [hsp (.inr hn)]
      · rw [hsp (.inr hn)]
    · (try simp (maxSteps := 1000000) (disch := first | omega | (simp only [LN, numOk, verOk, rfP, rvP, rhP, frP] <;> omega) | exact Ck.mk rfl) only [VC, T, Nat.reduceMul, Nat.reduceAdd, Nat.reduceSub, Nat.reduceLT, Nat.reduceEqDiff, Nat.reduceLeDiff, Nat.reduceBEq, reduceCtorEq, Int.reduceToNat, ↓reduceIte, rfP, rvP, rhP, frP])
      repeat' (first
        | (refine br_go (fun e f => ?_) (fun e f => ?_) <;> (try simp only [BB] at f) <;> (try simp only [numOk, verOk] at f) <;> (try simp (maxSteps := 1000000) (disch := first | omega | (simp only [LN, numOk, verOk, rfP, rvP, rhP, frP] <;> omega) | exact Ck.mk rfl) only [e, VC, T, Nat.reduceMul, Nat.reduceAdd, Nat.reduceSub, Nat.reduceLT, Nat.reduceEqDiff, Nat.reduceLeDiff, Nat.reduceBEq, reduceCtorEq, Int.reduceToNat, ↓reduceIte, rfP, rvP, rhP, frP]) <;> (try clear e))
        | (refine pick_go (fun e f => ?_) (fun e f => ?_) <;> (try simp only [BB] at f) <;> (try simp only [numOk, verOk] at f) <;> (try simp (maxSteps := 1000000) (disch := first | omega | (simp only [LN, numOk, verOk, rfP, rvP, rhP, frP] <;> omega) | exact Ck.mk rfl) only [e, VC, T, Nat.reduceMul, Nat.reduceAdd, Nat.reduceSub, Nat.reduceLT, Nat.reduceEqDiff, Nat.reduceLeDiff, Nat.reduceBEq, reduceCtorEq, Int.reduceToNat, ↓reduceIte, rfP, rvP, rhP, frP]) <;> (try clear e))
        | ((first | refine dr_go mixed (id := 8) [([], [4], []), ([], [7], []), ([1], [36], []), ([1, 2], [37], []), ([0, 1, 2, 3], [35, 38], []), ([], [5], []), ([], [7], []), ([6], [41], []), ([5, 6, 7], [40, 42], []), ([0, 1, 2, 3, 4, 5, 6, 7, 8], [39], []), ([0, 1, 2, 3, 4, 5, 6, 7, 8, 9], [43], [])] rfl rfl rfl ?_ | refine call_x (hT) rfl ⟨rfl⟩ ?_ | refine call_x (hS) rfl ⟨rfl⟩ ?_ | refine call_x (hG) rfl ⟨rfl⟩ ?_ | refine call_x (hA) rfl ⟨rfl⟩ ?_); (try simp (maxSteps := 1000000) (disch := first | omega | (simp only [LN, numOk, verOk, rfP, rvP, rhP, frP] <;> omega) | exact Ck.mk rfl) only [VC, T, Nat.reduceMul, Nat.reduceAdd, Nat.reduceSub, Nat.reduceLT, Nat.reduceEqDiff, Nat.reduceLeDiff, Nat.reduceBEq, reduceCtorEq, Int.reduceToNat, ↓reduceIte, rfP, rvP, rhP, frP])))
      · rw [hsp (.inr fun q => by have := (hgo.1 q).2; omega)]
      · refine hnx _ (by omega) (hgo.2 ⟨rfl, by omega⟩) ?_
        rw [hmap]
        (simp (disch := first | omega | (simp only [LN, numOk, verOk] <;> omega) | exact Ck.mk rfl) only [SB, EQ, Nat.reduceMul, Nat.reduceAdd, Nat.reduceSub, Nat.reduceLT, Nat.reduceEqDiff, Nat.reduceLeDiff, Nat.reduceBEq, reduceCtorEq, Int.reduceToNat, ↓reduceIte]; try omega)
      · rw [hsp (.inl (by omega))]
theorem impl_Chain_G (d : Dk) (h : DkOk d) : FnE Tryz.prog 30 [dkP d] [] (fun r m => r = .row 64 (chainT d).length ∧ m = [(64, .row ⟨1, 0⟩ ((chainT d).map (fun b => .int .i64 b)))]) := by
  have hL := impl_links d h
  have hlen := chainT_length d
  have hlk : ∀ b, lkP d b = .agg (.int .i64 b :: .str (textT d b) :: flat (scanP (scan (textT d b)))) := fun _ => rfl
  have hv := fun b => scan_ver (textT d b)
  generalize hG : (fun b => .int .i64 b : Int → PV) = G
  have hGb := fun b => congrFun hG b
  try simp only at hGb
  generalize chainT d = L at *
  obtain ⟨ns, es, os, ss, r, x⟩ := d
  generalize hd : ((ns, es, os, ss, r, x) : Dk) = d at *
  have hdk : dkP d = .agg [.far (ns.map ndP), .far (es.map enP), .far (os.map enP), .far (ss.map .str), .int .i64 r, .int .i64 x] := by rw [← hd]; rfl
  rw [hdk] at hL ⊢
  refine fn_e tok (n := 21) (rs := [.tmp 2]) Tryz.func30 (by decide) rfl rfl rfl rfl (low_of rfl) ?_
  (try simp (maxSteps := 1000000) (disch := first | omega | (simp only [LN, numOk, verOk, rfP, rvP, rhP, frP] <;> omega) | exact Ck.mk rfl) only [VC, T, Nat.reduceMul, Nat.reduceAdd, Nat.reduceSub, Nat.reduceLT, Nat.reduceEqDiff, Nat.reduceLeDiff, Nat.reduceBEq, reduceCtorEq, Int.reduceToNat, ↓reduceIte, rfP, rvP, rhP, frP])
  repeat' (first
    | (refine br_go (fun e f => ?_) (fun e f => ?_) <;> (try simp only [BB] at f) <;> (try simp only [numOk, verOk] at f) <;> (try simp (maxSteps := 1000000) (disch := first | omega | (simp only [LN, numOk, verOk, rfP, rvP, rhP, frP] <;> omega) | exact Ck.mk rfl) only [e, VC, T, Nat.reduceMul, Nat.reduceAdd, Nat.reduceSub, Nat.reduceLT, Nat.reduceEqDiff, Nat.reduceLeDiff, Nat.reduceBEq, reduceCtorEq, Int.reduceToNat, ↓reduceIte, rfP, rvP, rhP, frP]) <;> (try clear e))
    | (refine pick_go (fun e f => ?_) (fun e f => ?_) <;> (try simp only [BB] at f) <;> (try simp only [numOk, verOk] at f) <;> (try simp (maxSteps := 1000000) (disch := first | omega | (simp only [LN, numOk, verOk, rfP, rvP, rhP, frP] <;> omega) | exact Ck.mk rfl) only [e, VC, T, Nat.reduceMul, Nat.reduceAdd, Nat.reduceSub, Nat.reduceLT, Nat.reduceEqDiff, Nat.reduceLeDiff, Nat.reduceBEq, reduceCtorEq, Int.reduceToNat, ↓reduceIte, rfP, rvP, rhP, frP]) <;> (try clear e))
    | ((first | refine call_x (hL) rfl ⟨rfl⟩ ?_); (try simp (maxSteps := 1000000) (disch := first | omega | (simp only [LN, numOk, verOk, rfP, rvP, rhP, frP] <;> omega) | exact Ck.mk rfl) only [VC, T, Nat.reduceMul, Nat.reduceAdd, Nat.reduceSub, Nat.reduceLT, Nat.reduceEqDiff, Nat.reduceLeDiff, Nat.reduceBEq, reduceCtorEq, Int.reduceToNat, ↓reduceIte, rfP, rvP, rhP, frP])))
  refine lp_go (fun i : Nat => ⟨21, [(3, .row 448 i), (8, .far (L.map (lkP d))), (9, .int .i64 L.length), (10, .int .i64 i)], [(448, .row ⟨1, 0⟩ ((L.take i).map G))]⟩) (fun i => i ≤ L.length) (fun i => L.length - i) 0 ?_ (Nat.zero_le _) ?_
  · (simp (disch := first | omega | (simp only [LN, numOk, verOk] <;> omega) | exact Ck.mk rfl) only [SB, EQ, Nat.reduceMul, Nat.reduceAdd, Nat.reduceSub, Nat.reduceLT, Nat.reduceEqDiff, Nat.reduceLeDiff, Nat.reduceBEq, reduceCtorEq, Int.reduceToNat, ↓reduceIte]; try omega)
    rfl
  · intro i hi N hN
    have hg : i < L.length → (L.map (lkP d)).getD i .junk = lkP d (L.getD i default) := fun h => by
      rw [List.getD_eq_getElem?_getD, List.getElem?_map, List.getElem?_eq_getElem h, List.getD_eq_getElem?_getD, List.getElem?_eq_getElem h]; rfl
    have ht : (L.take i).length = i := by rw [List.length_take]; omega
    have hsn : i < L.length → (L.take (i + 1)).map G = (L.take i).map G ++ [G (L.getD i default)] := fun h => by
      rw [take_snoc default L i h, List.map_append]; rfl
    generalize L.getD i default = b at *
    have hlk := hlk b
    have hGb := hGb b
    have hv := hv b
    generalize textT d b = t at *
    generalize scan t = sc at *
    obtain ⟨ok, v, s, base, lk, rs, ofs, e, m⟩ := sc
    simp only at hv
    try rw [← hv] at hGb
    simp only [scanP, flat] at *
    rw [hlk] at hg
    (try simp (maxSteps := 1000000) (disch := first | omega | (simp only [LN, numOk, verOk, rfP, rvP, rhP, frP, hg, ht] <;> omega) | exact Ck.mk rfl) only [VC, T, Nat.reduceMul, Nat.reduceAdd, Nat.reduceSub, Nat.reduceLT, Nat.reduceEqDiff, Nat.reduceLeDiff, Nat.reduceBEq, reduceCtorEq, Int.reduceToNat, ↓reduceIte, rfP, rvP, rhP, frP, hg, ht])
    repeat' (first
      | (refine br_go (fun e f => ?_) (fun e f => ?_) <;> (try simp only [BB] at f) <;> (try simp only [numOk, verOk] at f) <;> (try simp (maxSteps := 1000000) (disch := first | omega | (simp only [LN, numOk, verOk, rfP, rvP, rhP, frP, hg, ht] <;> omega) | exact Ck.mk rfl) only [e, VC, T, Nat.reduceMul, Nat.reduceAdd, Nat.reduceSub, Nat.reduceLT, Nat.reduceEqDiff, Nat.reduceLeDiff, Nat.reduceBEq, reduceCtorEq, Int.reduceToNat, ↓reduceIte, rfP, rvP, rhP, frP, hg, ht]) <;> (try clear e))
      | (refine pick_go (fun e f => ?_) (fun e f => ?_) <;> (try simp only [BB] at f) <;> (try simp only [numOk, verOk] at f) <;> (try simp (maxSteps := 1000000) (disch := first | omega | (simp only [LN, numOk, verOk, rfP, rvP, rhP, frP, hg, ht] <;> omega) | exact Ck.mk rfl) only [e, VC, T, Nat.reduceMul, Nat.reduceAdd, Nat.reduceSub, Nat.reduceLT, Nat.reduceEqDiff, Nat.reduceLeDiff, Nat.reduceBEq, reduceCtorEq, Int.reduceToNat, ↓reduceIte, rfP, rvP, rhP, frP, hg, ht]) <;> (try clear e)))
    · refine hN (i + 1) _ (by omega) (by omega) ?_
      rw [hsn (by omega), ← hGb]
      (simp (disch := first | omega | (simp only [LN, numOk, verOk] <;> omega) | exact Ck.mk rfl) only [SB, EQ, Nat.reduceMul, Nat.reduceAdd, Nat.reduceSub, Nat.reduceLT, Nat.reduceEqDiff, Nat.reduceLeDiff, Nat.reduceBEq, reduceCtorEq, Int.reduceToNat, ↓reduceIte]; try omega)
    · obtain rfl : i = L.length := by omega
      rw [List.take_length]
      exact fin_t [some 448] (⟨rfl, rfl⟩) rfl (by simp [RV, RV2, RVl, RV1, tau, tget, hget, data1, oneOf]) (by simp [RH, RVl, RV1, tau, hget, data1]) (by simp [Taus, hget])
theorem impl_ChainTexts_G (d : Dk) (h : DkOk d) : FnE Tryz.prog 22 [dkP d] [] (fun r m => r = .row 64 (chainT d).length ∧ m = [(64, .row ⟨1, 0⟩ ((chainT d).map (fun b => .str (textT d b))))]) := by
  have hL := impl_links d h
  have hlen := chainT_length d
  have hlk : ∀ b, lkP d b = .agg (.int .i64 b :: .str (textT d b) :: flat (scanP (scan (textT d b)))) := fun _ => rfl
  have hv := fun b => scan_ver (textT d b)
  generalize hG : (fun b => .str (textT d b) : Int → PV) = G
  have hGb := fun b => congrFun hG b
  try simp only at hGb
  generalize chainT d = L at *
  obtain ⟨ns, es, os, ss, r, x⟩ := d
  generalize hd : ((ns, es, os, ss, r, x) : Dk) = d at *
  have hdk : dkP d = .agg [.far (ns.map ndP), .far (es.map enP), .far (os.map enP), .far (ss.map .str), .int .i64 r, .int .i64 x] := by rw [← hd]; rfl
  rw [hdk] at hL ⊢
  refine fn_e tok (n := 21) (rs := [.tmp 2]) Tryz.func22 (by decide) rfl rfl rfl rfl (low_of rfl) ?_
  (try simp (maxSteps := 1000000) (disch := first | omega | (simp only [LN, numOk, verOk, rfP, rvP, rhP, frP] <;> omega) | exact Ck.mk rfl) only [VC, T, Nat.reduceMul, Nat.reduceAdd, Nat.reduceSub, Nat.reduceLT, Nat.reduceEqDiff, Nat.reduceLeDiff, Nat.reduceBEq, reduceCtorEq, Int.reduceToNat, ↓reduceIte, rfP, rvP, rhP, frP])
  repeat' (first
    | (refine br_go (fun e f => ?_) (fun e f => ?_) <;> (try simp only [BB] at f) <;> (try simp only [numOk, verOk] at f) <;> (try simp (maxSteps := 1000000) (disch := first | omega | (simp only [LN, numOk, verOk, rfP, rvP, rhP, frP] <;> omega) | exact Ck.mk rfl) only [e, VC, T, Nat.reduceMul, Nat.reduceAdd, Nat.reduceSub, Nat.reduceLT, Nat.reduceEqDiff, Nat.reduceLeDiff, Nat.reduceBEq, reduceCtorEq, Int.reduceToNat, ↓reduceIte, rfP, rvP, rhP, frP]) <;> (try clear e))
    | (refine pick_go (fun e f => ?_) (fun e f => ?_) <;> (try simp only [BB] at f) <;> (try simp only [numOk, verOk] at f) <;> (try simp (maxSteps := 1000000) (disch := first | omega | (simp only [LN, numOk, verOk, rfP, rvP, rhP, frP] <;> omega) | exact Ck.mk rfl) only [e, VC, T, Nat.reduceMul, Nat.reduceAdd, Nat.reduceSub, Nat.reduceLT, Nat.reduceEqDiff, Nat.reduceLeDiff, Nat.reduceBEq, reduceCtorEq, Int.reduceToNat, ↓reduceIte, rfP, rvP, rhP, frP]) <;> (try clear e))
    | ((first | refine call_x (hL) rfl ⟨rfl⟩ ?_); (try simp (maxSteps := 1000000) (disch := first | omega | (simp only [LN, numOk, verOk, rfP, rvP, rhP, frP] <;> omega) | exact Ck.mk rfl) only [VC, T, Nat.reduceMul, Nat.reduceAdd, Nat.reduceSub, Nat.reduceLT, Nat.reduceEqDiff, Nat.reduceLeDiff, Nat.reduceBEq, reduceCtorEq, Int.reduceToNat, ↓reduceIte, rfP, rvP, rhP, frP])))
  refine lp_go (fun i : Nat => ⟨21, [(3, .row 448 i), (8, .far (L.map (lkP d))), (9, .int .i64 L.length), (10, .int .i64 i)], [(448, .row ⟨1, 0⟩ ((L.take i).map G))]⟩) (fun i => i ≤ L.length) (fun i => L.length - i) 0 ?_ (Nat.zero_le _) ?_
  · (simp (disch := first | omega | (simp only [LN, numOk, verOk] <;> omega) | exact Ck.mk rfl) only [SB, EQ, Nat.reduceMul, Nat.reduceAdd, Nat.reduceSub, Nat.reduceLT, Nat.reduceEqDiff, Nat.reduceLeDiff, Nat.reduceBEq, reduceCtorEq, Int.reduceToNat, ↓reduceIte]; try omega)
    rfl
  · intro i hi N hN
    have hg : i < L.length → (L.map (lkP d)).getD i .junk = lkP d (L.getD i default) := fun h => by
      rw [List.getD_eq_getElem?_getD, List.getElem?_map, List.getElem?_eq_getElem h, List.getD_eq_getElem?_getD, List.getElem?_eq_getElem h]; rfl
    have ht : (L.take i).length = i := by rw [List.length_take]; omega
    have hsn : i < L.length → (L.take (i + 1)).map G = (L.take i).map G ++ [G (L.getD i default)] := fun h => by
      rw [take_snoc default L i h, List.map_append]; rfl
    generalize L.getD i default = b at *
    have hlk := hlk b
    have hGb := hGb b
    have hv := hv b
    generalize textT d b = t at *
    generalize scan t = sc at *
    obtain ⟨ok, v, s, base, lk, rs, ofs, e, m⟩ := sc
    simp only at hv
    try rw [← hv] at hGb
    simp only [scanP, flat] at *
    rw [hlk] at hg
    (try simp (maxSteps := 1000000) (disch := first | omega | (simp only [LN, numOk, verOk, rfP, rvP, rhP, frP, hg, ht] <;> omega) | exact Ck.mk rfl) only [VC, T, Nat.reduceMul, Nat.reduceAdd, Nat.reduceSub, Nat.reduceLT, Nat.reduceEqDiff, Nat.reduceLeDiff, Nat.reduceBEq, reduceCtorEq, Int.reduceToNat, ↓reduceIte, rfP, rvP, rhP, frP, hg, ht])
    repeat' (first
      | (refine br_go (fun e f => ?_) (fun e f => ?_) <;> (try simp only [BB] at f) <;> (try simp only [numOk, verOk] at f) <;> (try simp (maxSteps := 1000000) (disch := first | omega | (simp only [LN, numOk, verOk, rfP, rvP, rhP, frP, hg, ht] <;> omega) | exact Ck.mk rfl) only [e, VC, T, Nat.reduceMul, Nat.reduceAdd, Nat.reduceSub, Nat.reduceLT, Nat.reduceEqDiff, Nat.reduceLeDiff, Nat.reduceBEq, reduceCtorEq, Int.reduceToNat, ↓reduceIte, rfP, rvP, rhP, frP, hg, ht]) <;> (try clear e))
      | (refine pick_go (fun e f => ?_) (fun e f => ?_) <;> (try simp only [BB] at f) <;> (try simp only [numOk, verOk] at f) <;> (try simp (maxSteps := 1000000) (disch := first | omega | (simp only [LN, numOk, verOk, rfP, rvP, rhP, frP, hg, ht] <;> omega) | exact Ck.mk rfl) only [e, VC, T, Nat.reduceMul, Nat.reduceAdd, Nat.reduceSub, Nat.reduceLT, Nat.reduceEqDiff, Nat.reduceLeDiff, Nat.reduceBEq, reduceCtorEq, Int.reduceToNat, ↓reduceIte, rfP, rvP, rhP, frP, hg, ht]) <;> (try clear e)))
    · refine hN (i + 1) _ (by omega) (by omega) ?_
      rw [hsn (by omega), ← hGb]
      (simp (disch := first | omega | (simp only [LN, numOk, verOk] <;> omega) | exact Ck.mk rfl) only [SB, EQ, Nat.reduceMul, Nat.reduceAdd, Nat.reduceSub, Nat.reduceLT, Nat.reduceEqDiff, Nat.reduceLeDiff, Nat.reduceBEq, reduceCtorEq, Int.reduceToNat, ↓reduceIte]; try omega)
    · obtain rfl : i = L.length := by omega
      rw [List.take_length]
      exact fin_t [some 448] (⟨rfl, rfl⟩) rfl (by simp [RV, RV2, RVl, RV1, tau, tget, hget, data1, oneOf]) (by simp [RH, RVl, RV1, tau, hget, data1]) (by simp [Taus, hget])
theorem impl_VersionsOn_G (d : Dk) (h : DkOk d) : FnE Tryz.prog 35 [dkP d] [] (fun r m => r = .row 64 (chainT d).length ∧ m = [(64, .row ⟨1, 0⟩ ((chainT d).map (fun b => .int .i64 (rHead (textT d b)).1)))]) := by
  have hL := impl_links d h
  have hlen := chainT_length d
  have hlk : ∀ b, lkP d b = .agg (.int .i64 b :: .str (textT d b) :: flat (scanP (scan (textT d b)))) := fun _ => rfl
  have hv := fun b => scan_ver (textT d b)
  generalize hG : (fun b => .int .i64 (rHead (textT d b)).1 : Int → PV) = G
  have hGb := fun b => congrFun hG b
  try simp only at hGb
  generalize chainT d = L at *
  obtain ⟨ns, es, os, ss, r, x⟩ := d
  generalize hd : ((ns, es, os, ss, r, x) : Dk) = d at *
  have hdk : dkP d = .agg [.far (ns.map ndP), .far (es.map enP), .far (os.map enP), .far (ss.map .str), .int .i64 r, .int .i64 x] := by rw [← hd]; rfl
  rw [hdk] at hL ⊢
  refine fn_e tok (n := 23) (rs := [.tmp 2]) Tryz.func35 (by decide) rfl rfl rfl rfl (low_of rfl) ?_
  (try simp (maxSteps := 1000000) (disch := first | omega | (simp only [LN, numOk, verOk, rfP, rvP, rhP, frP] <;> omega) | exact Ck.mk rfl) only [VC, T, Nat.reduceMul, Nat.reduceAdd, Nat.reduceSub, Nat.reduceLT, Nat.reduceEqDiff, Nat.reduceLeDiff, Nat.reduceBEq, reduceCtorEq, Int.reduceToNat, ↓reduceIte, rfP, rvP, rhP, frP])
  repeat' (first
    | (refine br_go (fun e f => ?_) (fun e f => ?_) <;> (try simp only [BB] at f) <;> (try simp only [numOk, verOk] at f) <;> (try simp (maxSteps := 1000000) (disch := first | omega | (simp only [LN, numOk, verOk, rfP, rvP, rhP, frP] <;> omega) | exact Ck.mk rfl) only [e, VC, T, Nat.reduceMul, Nat.reduceAdd, Nat.reduceSub, Nat.reduceLT, Nat.reduceEqDiff, Nat.reduceLeDiff, Nat.reduceBEq, reduceCtorEq, Int.reduceToNat, ↓reduceIte, rfP, rvP, rhP, frP]) <;> (try clear e))
    | (refine pick_go (fun e f => ?_) (fun e f => ?_) <;> (try simp only [BB] at f) <;> (try simp only [numOk, verOk] at f) <;> (try simp (maxSteps := 1000000) (disch := first | omega | (simp only [LN, numOk, verOk, rfP, rvP, rhP, frP] <;> omega) | exact Ck.mk rfl) only [e, VC, T, Nat.reduceMul, Nat.reduceAdd, Nat.reduceSub, Nat.reduceLT, Nat.reduceEqDiff, Nat.reduceLeDiff, Nat.reduceBEq, reduceCtorEq, Int.reduceToNat, ↓reduceIte, rfP, rvP, rhP, frP]) <;> (try clear e))
    | ((first | refine call_x (hL) rfl ⟨rfl⟩ ?_); (try simp (maxSteps := 1000000) (disch := first | omega | (simp only [LN, numOk, verOk, rfP, rvP, rhP, frP] <;> omega) | exact Ck.mk rfl) only [VC, T, Nat.reduceMul, Nat.reduceAdd, Nat.reduceSub, Nat.reduceLT, Nat.reduceEqDiff, Nat.reduceLeDiff, Nat.reduceBEq, reduceCtorEq, Int.reduceToNat, ↓reduceIte, rfP, rvP, rhP, frP])))
  refine lp_go (fun i : Nat => ⟨23, [(3, .row 448 i), (8, .far (L.map (lkP d))), (9, .int .i64 L.length), (10, .int .i64 i)], [(448, .row ⟨1, 0⟩ ((L.take i).map G))]⟩) (fun i => i ≤ L.length) (fun i => L.length - i) 0 ?_ (Nat.zero_le _) ?_
  · (simp (disch := first | omega | (simp only [LN, numOk, verOk] <;> omega) | exact Ck.mk rfl) only [SB, EQ, Nat.reduceMul, Nat.reduceAdd, Nat.reduceSub, Nat.reduceLT, Nat.reduceEqDiff, Nat.reduceLeDiff, Nat.reduceBEq, reduceCtorEq, Int.reduceToNat, ↓reduceIte]; try omega)
    rfl
  · intro i hi N hN
    have hg : i < L.length → (L.map (lkP d)).getD i .junk = lkP d (L.getD i default) := fun h => by
      rw [List.getD_eq_getElem?_getD, List.getElem?_map, List.getElem?_eq_getElem h, List.getD_eq_getElem?_getD, List.getElem?_eq_getElem h]; rfl
    have ht : (L.take i).length = i := by rw [List.length_take]; omega
    have hsn : i < L.length → (L.take (i + 1)).map G = (L.take i).map G ++ [G (L.getD i default)] := fun h => by
      rw [take_snoc default L i h, List.map_append]; rfl
    generalize L.getD i default = b at *
    have hlk := hlk b
    have hGb := hGb b
    have hv := hv b
    generalize textT d b = t at *
    generalize scan t = sc at *
    obtain ⟨ok, v, s, base, lk, rs, ofs, e, m⟩ := sc
    simp only at hv
    try rw [← hv] at hGb
    simp only [scanP, flat] at *
    rw [hlk] at hg
    (try simp (maxSteps := 1000000) (disch := first | omega | (simp only [LN, numOk, verOk, rfP, rvP, rhP, frP, hg, ht] <;> omega) | exact Ck.mk rfl) only [VC, T, Nat.reduceMul, Nat.reduceAdd, Nat.reduceSub, Nat.reduceLT, Nat.reduceEqDiff, Nat.reduceLeDiff, Nat.reduceBEq, reduceCtorEq, Int.reduceToNat, ↓reduceIte, rfP, rvP, rhP, frP, hg, ht])
    repeat' (first
      | (refine br_go (fun e f => ?_) (fun e f => ?_) <;> (try simp only [BB] at f) <;> (try simp only [numOk, verOk] at f) <;> (try simp (maxSteps := 1000000) (disch := first | omega | (simp only [LN, numOk, verOk, rfP, rvP, rhP, frP, hg, ht] <;> omega) | exact Ck.mk rfl) only [e, VC, T, Nat.reduceMul, Nat.reduceAdd, Nat.reduceSub, Nat.reduceLT, Nat.reduceEqDiff, Nat.reduceLeDiff, Nat.reduceBEq, reduceCtorEq, Int.reduceToNat, ↓reduceIte, rfP, rvP, rhP, frP, hg, ht]) <;> (try clear e))
      | (refine pick_go (fun e f => ?_) (fun e f => ?_) <;> (try simp only [BB] at f) <;> (try simp only [numOk, verOk] at f) <;> (try simp (maxSteps := 1000000) (disch := first | omega | (simp only [LN, numOk, verOk, rfP, rvP, rhP, frP, hg, ht] <;> omega) | exact Ck.mk rfl) only [e, VC, T, Nat.reduceMul, Nat.reduceAdd, Nat.reduceSub, Nat.reduceLT, Nat.reduceEqDiff, Nat.reduceLeDiff, Nat.reduceBEq, reduceCtorEq, Int.reduceToNat, ↓reduceIte, rfP, rvP, rhP, frP, hg, ht]) <;> (try clear e)))
    · refine hN (i + 1) _ (by omega) (by omega) ?_
      rw [hsn (by omega), ← hGb]
      (simp (disch := first | omega | (simp only [LN, numOk, verOk] <;> omega) | exact Ck.mk rfl) only [SB, EQ, Nat.reduceMul, Nat.reduceAdd, Nat.reduceSub, Nat.reduceLT, Nat.reduceEqDiff, Nat.reduceLeDiff, Nat.reduceBEq, reduceCtorEq, Int.reduceToNat, ↓reduceIte]; try omega)
    · obtain rfl : i = L.length := by omega
      rw [List.take_length]
      exact fin_t [some 448] (⟨rfl, rfl⟩) rfl (by simp [RV, RV2, RVl, RV1, tau, tget, hget, data1, oneOf]) (by simp [RH, RVl, RV1, tau, hget, data1]) (by simp [Taus, hget])
end Go.Pv

/- What functions of the program and of the reference do, in plain values. -/
namespace Go.Pv
open Go.Proofs Go.Mth
set_option linter.unusedSimpArgs false
set_option linter.unusedVariables false
set_option maxHeartbeats 4000000
set_option maxRecDepth 4000

/-! ### rows of records, texts, versions -/
theorem impl_Chain_R (d : Dk) (h : DkOk d) : FnE Tryz.prog 30 [dkP d] [] (fun r m => r = .row 64 (chainT d).length ∧ m = [(64, .row ⟨1, 0⟩ ((chainT d).map (.int .i64)))]) := impl_Chain_G d h
theorem textsT_len (d : Dk) : (textsT d).length = (chainT d).length := List.length_map _
theorem versT_len (d : Dk) : (versT d).length = (chainT d).length := List.length_map _
theorem textsT_map (d : Dk) : (chainT d).map (fun b => PV.str (textT d b)) = (textsT d).map .str := (List.map_map).symm
theorem versT_map (d : Dk) : (chainT d).map (fun b => PV.int .i64 (rHead (textT d b)).1) = (versT d).map (.int .i64) := (List.map_map).symm
theorem impl_ChainTexts_R (d : Dk) (h : DkOk d) : FnE Tryz.prog 22 [dkP d] [] (fun r m => r = .row 64 (textsT d).length ∧ m = [(64, .row ⟨1, 0⟩ ((textsT d).map .str))]) := by
  rw [textsT_len, ← textsT_map]
  exact impl_ChainTexts_G d h
theorem impl_VersionsOn_R (d : Dk) (h : DkOk d) : FnE Tryz.prog 35 [dkP d] [] (fun r m => r = .row 64 (versT d).length ∧ m = [(64, .row ⟨1, 0⟩ ((versT d).map (.int .i64)))]) := by
  rw [versT_len, ← versT_map]
  exact impl_VersionsOn_G d h
theorem impl_Chain (d : Dk) (h : DkOk d) : Fn Tryz.prog 30 [dkP d] [] (.far ((chainT d).map (.int .i64))) [] := by
  obtain ⟨_, _, ⟨rfl, rfl⟩, k⟩ := impl_Chain_R d h
  refine k.far ?_
  simp [fz, fz2, fz1, cvtl, elems, hget, data1]
theorem impl_ChainTexts (d : Dk) (h : DkOk d) : Fn Tryz.prog 22 [dkP d] [] (.far ((textsT d).map .str)) [] := by
  obtain ⟨_, _, ⟨rfl, rfl⟩, k⟩ := impl_ChainTexts_R d h
  refine k.far ?_
  simp [fz, fz2, fz1, cvtl, elems, hget, data1]
theorem impl_VersionsOn (d : Dk) (h : DkOk d) : Fn Tryz.prog 35 [dkP d] [] (.far ((versT d).map (.int .i64))) [] := by
  obtain ⟨_, _, ⟨rfl, rfl⟩, k⟩ := impl_VersionsOn_R d h
  refine k.far ?_
  simp [fz, fz2, fz1, cvtl, elems, hget, data1]
def flR (d : Dk) (L : List Int) : List ByteArray := L.flatMap fun b => recs (textT d b)
theorem flR_snoc (d : Dk) (L : List Int) (i : Nat) (h : i < L.length) : flR d (L.take (i + 1)) = flR d (L.take i) ++ recs (textT d (L.getD i default)) := by
  unfold flR
  rw [take_snoc default L i h, List.flatMap_append, List.flatMap_cons, List.flatMap_nil, List.append_nil]
  rfl
theorem impl_RowOf_R (d : Dk) (h : DkOk d) : FnE Tryz.prog 28 [dkP d] [] (fun r m => r = .row 64 (rowT d).length ∧ m = [(64, .row ⟨1, 0⟩ ((rowT d).map .str))]) := by
  have hL := impl_links d h
  have hlen := chainT_length d
  have hlk : ∀ b, lkP d b = .agg (.int .i64 b :: .str (textT d b) :: flat (scanP (scan (textT d b)))) := fun _ => rfl
  have hR : rowT d = flR d (chainT d) := rfl
  have hfl := fun L => flat_le d h L
  have hle := textT_le h
  rw [hR]
  generalize chainT d = L at *
  obtain ⟨ns, es, os, ss, r, x⟩ := d
  generalize hd : ((ns, es, os, ss, r, x) : Dk) = d at *
  have hdk : dkP d = .agg [.far (ns.map ndP), .far (es.map enP), .far (os.map enP), .far (ss.map .str), .int .i64 r, .int .i64 x] := by rw [← hd]; rfl
  rw [hdk] at hL ⊢
  refine fn_e tok (n := 21) (rs := [.tmp 2]) Tryz.func28 (by decide) rfl rfl rfl rfl (low_of rfl) ?_
  (try simp (maxSteps := 1000000) (disch := first | omega | (simp only [LN, numOk, verOk, rfP, rvP, rhP, frP] <;> omega) | exact Ck.mk rfl) only [VC, T, Nat.reduceMul, Nat.reduceAdd, Nat.reduceSub, Nat.reduceLT, Nat.reduceEqDiff, Nat.reduceLeDiff, Nat.reduceBEq, reduceCtorEq, Int.reduceToNat, ↓reduceIte, rfP, rvP, rhP, frP])
  repeat' (first
    | (refine br_go (fun e f => ?_) (fun e f => ?_) <;> (try simp only [BB] at f) <;> (try simp only [numOk, verOk] at f) <;> (try simp (maxSteps := 1000000) (disch := first | omega | (simp only [LN, numOk, verOk, rfP, rvP, rhP, frP] <;> omega) | exact Ck.mk rfl) only [e, VC, T, Nat.reduceMul, Nat.reduceAdd, Nat.reduceSub, Nat.reduceLT, Nat.reduceEqDiff, Nat.reduceLeDiff, Nat.reduceBEq, reduceCtorEq, Int.reduceToNat, ↓reduceIte, rfP, rvP, rhP, frP]) <;> (try clear e))
    | (refine pick_go (fun e f => ?_) (fun e f => ?_) <;> (try simp only [BB] at f) <;> (try simp only [numOk, verOk] at f) <;> (try simp (maxSteps := 1000000) (disch := first | omega | (simp only [LN, numOk, verOk, rfP, rvP, rhP, frP] <;> omega) | exact Ck.mk rfl) only [e, VC, T, Nat.reduceMul, Nat.reduceAdd, Nat.reduceSub, Nat.reduceLT, Nat.reduceEqDiff, Nat.reduceLeDiff, Nat.reduceBEq, reduceCtorEq, Int.reduceToNat, ↓reduceIte, rfP, rvP, rhP, frP]) <;> (try clear e))
    | ((first | refine call_x (hL) rfl ⟨rfl⟩ ?_); (try simp (maxSteps := 1000000) (disch := first | omega | (simp only [LN, numOk, verOk, rfP, rvP, rhP, frP] <;> omega) | exact Ck.mk rfl) only [VC, T, Nat.reduceMul, Nat.reduceAdd, Nat.reduceSub, Nat.reduceLT, Nat.reduceEqDiff, Nat.reduceLeDiff, Nat.reduceBEq, reduceCtorEq, Int.reduceToNat, ↓reduceIte, rfP, rvP, rhP, frP])))
  refine lp_go (fun i : Nat => ⟨21, [(3, .row 448 (flR d (L.take i)).length), (8, .far (L.map (lkP d))), (9, .int .i64 L.length), (10, .int .i64 i)], [(448, .row ⟨1, 0⟩ ((flR d (L.take i)).map .str))]⟩) (fun i => i ≤ L.length) (fun i => L.length - i) 0 ?_ (Nat.zero_le _) ?_
  · (simp (disch := first | omega | (simp only [LN, numOk, verOk] <;> omega) | exact Ck.mk rfl) only [SB, EQ, Nat.reduceMul, Nat.reduceAdd, Nat.reduceSub, Nat.reduceLT, Nat.reduceEqDiff, Nat.reduceLeDiff, Nat.reduceBEq, reduceCtorEq, Int.reduceToNat, ↓reduceIte]; try omega)
    exact ⟨rfl, rfl⟩
  · intro i hi N hN
    have hg : i < L.length → (L.map (lkP d)).getD i .junk = lkP d (L.getD i default) := fun h => by
      rw [List.getD_eq_getElem?_getD, List.getElem?_map, List.getElem?_eq_getElem h, List.getD_eq_getElem?_getD, List.getElem?_eq_getElem h]; rfl
    have ht : (flR d (L.take i)).length ≤ 1048576 * 16 := by
      have := (hfl (L.take i)).1
      rw [List.length_take] at this
      unfold flR
      omega
    have hsn := flR_snoc d L i
    generalize hM : flR d (L.take i) = M at *
    generalize L.getD i default = b at *
    have hlk := hlk b
    have hle := hle b
    have hre := (recs_le (textT d b)).1
    generalize textT d b = t at *
    unfold recs at *
    generalize scan t = sc at *
    obtain ⟨ok, v, s, base, lk, rs, ofs, e, m⟩ := sc
    simp only [scanP, flat] at *
    rw [hlk] at hg
    (try simp (maxSteps := 1000000) (disch := first | omega | (simp only [LN, numOk, verOk, rfP, rvP, rhP, frP, hg] <;> omega) | exact Ck.mk rfl) only [VC, T, Nat.reduceMul, Nat.reduceAdd, Nat.reduceSub, Nat.reduceLT, Nat.reduceEqDiff, Nat.reduceLeDiff, Nat.reduceBEq, reduceCtorEq, Int.reduceToNat, ↓reduceIte, rfP, rvP, rhP, frP, hg])
    repeat' (first
      | (refine br_go (fun e f => ?_) (fun e f => ?_) <;> (try simp only [BB] at f) <;> (try simp only [numOk, verOk] at f) <;> (try simp (maxSteps := 1000000) (disch := first | omega | (simp only [LN, numOk, verOk, rfP, rvP, rhP, frP, hg] <;> omega) | exact Ck.mk rfl) only [e, VC, T, Nat.reduceMul, Nat.reduceAdd, Nat.reduceSub, Nat.reduceLT, Nat.reduceEqDiff, Nat.reduceLeDiff, Nat.reduceBEq, reduceCtorEq, Int.reduceToNat, ↓reduceIte, rfP, rvP, rhP, frP, hg]) <;> (try clear e))
      | (refine pick_go (fun e f => ?_) (fun e f => ?_) <;> (try simp only [BB] at f) <;> (try simp only [numOk, verOk] at f) <;> (try simp (maxSteps := 1000000) (disch := first | omega | (simp only [LN, numOk, verOk, rfP, rvP, rhP, frP, hg] <;> omega) | exact Ck.mk rfl) only [e, VC, T, Nat.reduceMul, Nat.reduceAdd, Nat.reduceSub, Nat.reduceLT, Nat.reduceEqDiff, Nat.reduceLeDiff, Nat.reduceBEq, reduceCtorEq, Int.reduceToNat, ↓reduceIte, rfP, rvP, rhP, frP, hg]) <;> (try clear e)))
    · refine hN (i + 1) _ (by omega) (by omega) ?_
      rw [hsn (by omega)]
      (simp (disch := first | omega | (simp only [LN, numOk, verOk] <;> omega) | exact Ck.mk rfl) only [SB, EQ, Nat.reduceMul, Nat.reduceAdd, Nat.reduceSub, Nat.reduceLT, Nat.reduceEqDiff, Nat.reduceLeDiff, Nat.reduceBEq, reduceCtorEq, Int.reduceToNat, ↓reduceIte]; try omega)
      exact List.map_append.symm
    · obtain rfl : i = L.length := by omega
      rw [List.take_length] at hM
      rw [hM]
      exact fin_t [some 448] (⟨rfl, rfl⟩) rfl (by simp [RV, RV2, RVl, RV1, tau, tget, hget, data1, oneOf]) (by simp [RH, RVl, RV1, tau, hget, data1]) (by simp [Taus, hget])
theorem impl_RowOf (d : Dk) (h : DkOk d) : Fn Tryz.prog 28 [dkP d] [] (.far ((rowT d).map .str)) [] := by
  obtain ⟨_, _, ⟨rfl, rfl⟩, k⟩ := impl_RowOf_R d h
  refine k.far ?_
  simp [fz, fz2, fz1, cvtl, elems, hget, data1]
theorem spec_LinkOf (rs : List ByteArray) (hl : rs.length < 9223372036854775808) (hr : ∀ r ∈ rs, r.size ≤ 140737488355000) : Fn Tryz.prog 49 [.far (rs.map .str)] [] (.int .i64 (linkAll 0 rs)) [] := by
  refine fn_x tok (n := 18) (rs := [.tmp 2]) Tryz.func49 (by decide) rfl rfl rfl rfl ?_
  (try simp (maxSteps := 1000000) (disch := first | omega | (simp only [LN, numOk, verOk, rfP, rvP, rhP, frP] <;> omega) | exact Ck.mk rfl) only [VC, T, Nat.reduceMul, Nat.reduceAdd, Nat.reduceSub, Nat.reduceLT, Nat.reduceEqDiff, Nat.reduceLeDiff, Nat.reduceBEq, reduceCtorEq, Int.reduceToNat, ↓reduceIte, rfP, rvP, rhP, frP])
  repeat' (first
    | (refine br_go (fun e f => ?_) (fun e f => ?_) <;> (try simp only [BB] at f) <;> (try simp only [numOk, verOk] at f) <;> (try simp (maxSteps := 1000000) (disch := first | omega | (simp only [LN, numOk, verOk, rfP, rvP, rhP, frP] <;> omega) | exact Ck.mk rfl) only [e, VC, T, Nat.reduceMul, Nat.reduceAdd, Nat.reduceSub, Nat.reduceLT, Nat.reduceEqDiff, Nat.reduceLeDiff, Nat.reduceBEq, reduceCtorEq, Int.reduceToNat, ↓reduceIte, rfP, rvP, rhP, frP]) <;> (try clear e))
    | (refine pick_go (fun e f => ?_) (fun e f => ?_) <;> (try simp only [BB] at f) <;> (try simp only [numOk, verOk] at f) <;> (try simp (maxSteps := 1000000) (disch := first | omega | (simp only [LN, numOk, verOk, rfP, rvP, rhP, frP] <;> omega) | exact Ck.mk rfl) only [e, VC, T, Nat.reduceMul, Nat.reduceAdd, Nat.reduceSub, Nat.reduceLT, Nat.reduceEqDiff, Nat.reduceLeDiff, Nat.reduceBEq, reduceCtorEq, Int.reduceToNat, ↓reduceIte, rfP, rvP, rhP, frP]) <;> (try clear e)))
  refine lp_go (fun i : Nat => ⟨18, [(0, .far (rs.map .str)), (3, .int .i64 (linkAll 0 (rs.take i))), (4, .int .i64 i)], []⟩) (fun i => i ≤ rs.length) (fun i => rs.length - i) 0 ?_ (by omega) ?_
  · (simp (disch := first | omega | (simp only [LN, numOk, verOk] <;> omega) | exact Ck.mk rfl) only [SB, EQ, Nat.reduceMul, Nat.reduceAdd, Nat.reduceSub, Nat.reduceLT, Nat.reduceEqDiff, Nat.reduceLeDiff, Nat.reduceBEq, reduceCtorEq, Int.reduceToNat, ↓reduceIte]; try omega)
    rfl
  · intro i hi N hN
    (try simp (maxSteps := 1000000) (disch := first | omega | (simp only [LN, numOk, verOk, rfP, rvP, rhP, frP, linkAll_snoc] <;> omega) | exact Ck.mk rfl) only [VC, T, Nat.reduceMul, Nat.reduceAdd, Nat.reduceSub, Nat.reduceLT, Nat.reduceEqDiff, Nat.reduceLeDiff, Nat.reduceBEq, reduceCtorEq, Int.reduceToNat, ↓reduceIte, rfP, rvP, rhP, frP, linkAll_snoc])
    repeat' (first
      | (refine br_go (fun e f => ?_) (fun e f => ?_) <;> (try simp only [BB] at f) <;> (try simp only [numOk, verOk] at f) <;> (try simp (maxSteps := 1000000) (disch := first | omega | (simp only [LN, numOk, verOk, rfP, rvP, rhP, frP, linkAll_snoc] <;> omega) | exact Ck.mk rfl) only [e, VC, T, Nat.reduceMul, Nat.reduceAdd, Nat.reduceSub, Nat.reduceLT, Nat.reduceEqDiff, Nat.reduceLeDiff, Nat.reduceBEq, reduceCtorEq, Int.reduceToNat, ↓reduceIte, rfP, rvP, rhP, frP, linkAll_snoc]) <;> (try clear e))
      | (refine pick_go (fun e f => ?_) (fun e f => ?_) <;> (try simp only [BB] at f) <;> (try simp only [numOk, verOk] at f) <;> (try simp (maxSteps := 1000000) (disch := first | omega | (simp only [LN, numOk, verOk, rfP, rvP, rhP, frP, linkAll_snoc] <;> omega) | exact Ck.mk rfl) only [e, VC, T, Nat.reduceMul, Nat.reduceAdd, Nat.reduceSub, Nat.reduceLT, Nat.reduceEqDiff, Nat.reduceLeDiff, Nat.reduceBEq, reduceCtorEq, Int.reduceToNat, ↓reduceIte, rfP, rvP, rhP, frP, linkAll_snoc]) <;> (try clear e))
      | ((first | refine call_x (spec_LinkMore _ _ (hr _ (getD_mem _ _ (by omega)))) rfl ⟨rfl⟩ ?_); (try simp (maxSteps := 1000000) (disch := first | omega | (simp only [LN, numOk, verOk, rfP, rvP, rhP, frP, linkAll_snoc] <;> omega) | exact Ck.mk rfl) only [VC, T, Nat.reduceMul, Nat.reduceAdd, Nat.reduceSub, Nat.reduceLT, Nat.reduceEqDiff, Nat.reduceLeDiff, Nat.reduceBEq, reduceCtorEq, Int.reduceToNat, ↓reduceIte, rfP, rvP, rhP, frP, linkAll_snoc])))
    · refine hN (i + 1) _ (by omega) (by omega) ?_
      (simp (disch := first | omega | (simp only [LN, numOk, verOk] <;> omega) | exact Ck.mk rfl) only [SB, EQ, Nat.reduceMul, Nat.reduceAdd, Nat.reduceSub, Nat.reduceLT, Nat.reduceEqDiff, Nat.reduceLeDiff, Nat.reduceBEq, reduceCtorEq, Int.reduceToNat, ↓reduceIte]; try omega)
    · obtain rfl : i = rs.length := by omega
      rw [List.take_length]
theorem impl_RowLink (d : Dk) (h : DkOk d) (hR : Fn Tryz.prog 28 [dkP d] [] (.far ((rowT d).map .str)) []) : Fn Tryz.prog 17 [dkP d] [] (.int .i64 (linkT d)) [] := by
  obtain ⟨r1, r2⟩ := rowT_le h
  unfold linkT
  generalize rowT d = rs at *
  have hL := impl_LinkOf rs (by omega) (fun r hr => by have := r2 r hr; omega)
  unfold dkP at *
  refine fn_x tok (n := 6) (rs := [.tmp 2]) Tryz.func17 (by decide) rfl rfl rfl rfl ?_
  (try simp (maxSteps := 1000000) (disch := first | omega | (simp only [LN, numOk, verOk, rfP, rvP, rhP, frP] <;> omega) | exact Ck.mk rfl) only [VC, T, Nat.reduceMul, Nat.reduceAdd, Nat.reduceSub, Nat.reduceLT, Nat.reduceEqDiff, Nat.reduceLeDiff, Nat.reduceBEq, reduceCtorEq, Int.reduceToNat, ↓reduceIte, rfP, rvP, rhP, frP])
  repeat' (first
    | (refine br_go (fun e f => ?_) (fun e f => ?_) <;> (try simp only [BB] at f) <;> (try simp only [numOk, verOk] at f) <;> (try simp (maxSteps := 1000000) (disch := first | omega | (simp only [LN, numOk, verOk, rfP, rvP, rhP, frP] <;> omega) | exact Ck.mk rfl) only [e, VC, T, Nat.reduceMul, Nat.reduceAdd, Nat.reduceSub, Nat.reduceLT, Nat.reduceEqDiff, Nat.reduceLeDiff, Nat.reduceBEq, reduceCtorEq, Int.reduceToNat, ↓reduceIte, rfP, rvP, rhP, frP]) <;> (try clear e))
    | (refine pick_go (fun e f => ?_) (fun e f => ?_) <;> (try simp only [BB] at f) <;> (try simp only [numOk, verOk] at f) <;> (try simp (maxSteps := 1000000) (disch := first | omega | (simp only [LN, numOk, verOk, rfP, rvP, rhP, frP] <;> omega) | exact Ck.mk rfl) only [e, VC, T, Nat.reduceMul, Nat.reduceAdd, Nat.reduceSub, Nat.reduceLT, Nat.reduceEqDiff, Nat.reduceLeDiff, Nat.reduceBEq, reduceCtorEq, Int.reduceToNat, ↓reduceIte, rfP, rvP, rhP, frP]) <;> (try clear e))
    | ((first | refine call_x (hR) rfl ⟨rfl⟩ ?_ | refine call_x (hL) rfl ⟨rfl⟩ ?_); (try simp (maxSteps := 1000000) (disch := first | omega | (simp only [LN, numOk, verOk, rfP, rvP, rhP, frP] <;> omega) | exact Ck.mk rfl) only [VC, T, Nat.reduceMul, Nat.reduceAdd, Nat.reduceSub, Nat.reduceLT, Nat.reduceEqDiff, Nat.reduceLeDiff, Nat.reduceBEq, reduceCtorEq, Int.reduceToNat, ↓reduceIte, rfP, rvP, rhP, frP])))
theorem spec_RowLink (d : Dk) (h : DkOk d) (hR : Fn Tryz.prog 27 [dkP d] [] (.far ((rowT d).map .str)) []) : Fn Tryz.prog 15 [dkP d] [] (.int .i64 (linkT d)) [] := by
  obtain ⟨r1, r2⟩ := rowT_le h
  unfold linkT
  generalize rowT d = rs at *
  have hL := spec_LinkOf rs (by omega) (fun r hr => by have := r2 r hr; omega)
  unfold dkP at *
  refine fn_x tok (n := 6) (rs := [.tmp 2]) Tryz.func15 (by decide) rfl rfl rfl rfl ?_
  (try simp (maxSteps := 1000000) (disch := first | omega | (simp only [LN, numOk, verOk, rfP, rvP, rhP, frP] <;> omega) | exact Ck.mk rfl) only [VC, T, Nat.reduceMul, Nat.reduceAdd, Nat.reduceSub, Nat.reduceLT, Nat.reduceEqDiff, Nat.reduceLeDiff, Nat.reduceBEq, reduceCtorEq, Int.reduceToNat, ↓reduceIte, rfP, rvP, rhP, frP])
  repeat' (first
    | (refine br_go (fun e f => ?_) (fun e f => ?_) <;> (try simp only [BB] at f) <;> (try simp only [numOk, verOk] at f) <;> (try simp (maxSteps := 1000000) (disch := first | omega | (simp only [LN, numOk, verOk, rfP, rvP, rhP, frP] <;> omega) | exact Ck.mk rfl) only [e, VC, T, Nat.reduceMul, Nat.reduceAdd, Nat.reduceSub, Nat.reduceLT, Nat.reduceEqDiff, Nat.reduceLeDiff, Nat.reduceBEq, reduceCtorEq, Int.reduceToNat, ↓reduceIte, rfP, rvP, rhP, frP]) <;> (try clear e))
    | (refine pick_go (fun e f => ?_) (fun e f => ?_) <;> (try simp only [BB] at f) <;> (try simp only [numOk, verOk] at f) <;> (try simp (maxSteps := 1000000) (disch := first | omega | (simp only [LN, numOk, verOk, rfP, rvP, rhP, frP] <;> omega) | exact Ck.mk rfl) only [e, VC, T, Nat.reduceMul, Nat.reduceAdd, Nat.reduceSub, Nat.reduceLT, Nat.reduceEqDiff, Nat.reduceLeDiff, Nat.reduceBEq, reduceCtorEq, Int.reduceToNat, ↓reduceIte, rfP, rvP, rhP, frP]) <;> (try clear e))
    | ((first | refine call_x (hR) rfl ⟨rfl⟩ ?_ | refine call_x (hL) rfl ⟨rfl⟩ ?_); (try simp (maxSteps := 1000000) (disch := first | omega | (simp only [LN, numOk, verOk, rfP, rvP, rhP, frP] <;> omega) | exact Ck.mk rfl) only [VC, T, Nat.reduceMul, Nat.reduceAdd, Nat.reduceSub, Nat.reduceLT, Nat.reduceEqDiff, Nat.reduceLeDiff, Nat.reduceBEq, reduceCtorEq, Int.reduceToNat, ↓reduceIte, rfP, rvP, rhP, frP])))
theorem oldT_drop (l : List Int) (i : Nat) (h : i < l.length) : oldT (l.drop i) = (if l.getD i default = 1 then 1 else 0) + oldT (l.drop (i + 1)) := by
  rw [List.drop_eq_getElem_cons h, List.getD_eq_getElem?_getD, List.getElem?_eq_getElem h]; rfl
theorem oldT_r (l : List Int) : 0 ≤ oldT l ∧ oldT l ≤ l.length := by
  induction l with
  | nil => decide
  | cons v l ih =>
    have : oldT (v :: l) = (if v = 1 then 1 else 0) + oldT l := rfl
    rw [this, List.length_cons]
    split <;> omega
theorem impl_OldOn (d : Dk) (l : List Int) (hl : l.length ≤ 16) (hV : Fn Tryz.prog 35 [dkP d] [] (.far (l.map (.int .i64))) []) : Fn Tryz.prog 20 [dkP d] [] (.int .i64 (oldT l)) [] := by
  unfold dkP at *
  refine fn_x tok (n := 19) (rs := [.tmp 2]) Tryz.func20 (by decide) rfl rfl rfl rfl ?_
  (try simp (maxSteps := 1000000) (disch := first | omega | (simp only [LN, numOk, verOk, rfP, rvP, rhP, frP] <;> omega) | exact Ck.mk rfl) only [VC, T, Nat.reduceMul, Nat.reduceAdd, Nat.reduceSub, Nat.reduceLT, Nat.reduceEqDiff, Nat.reduceLeDiff, Nat.reduceBEq, reduceCtorEq, Int.reduceToNat, ↓reduceIte, rfP, rvP, rhP, frP])
  repeat' (first
    | (refine br_go (fun e f => ?_) (fun e f => ?_) <;> (try simp only [BB] at f) <;> (try simp only [numOk, verOk] at f) <;> (try simp (maxSteps := 1000000) (disch := first | omega | (simp only [LN, numOk, verOk, rfP, rvP, rhP, frP] <;> omega) | exact Ck.mk rfl) only [e, VC, T, Nat.reduceMul, Nat.reduceAdd, Nat.reduceSub, Nat.reduceLT, Nat.reduceEqDiff, Nat.reduceLeDiff, Nat.reduceBEq, reduceCtorEq, Int.reduceToNat, ↓reduceIte, rfP, rvP, rhP, frP]) <;> (try clear e))
    | (refine pick_go (fun e f => ?_) (fun e f => ?_) <;> (try simp only [BB] at f) <;> (try simp only [numOk, verOk] at f) <;> (try simp (maxSteps := 1000000) (disch := first | omega | (simp only [LN, numOk, verOk, rfP, rvP, rhP, frP] <;> omega) | exact Ck.mk rfl) only [e, VC, T, Nat.reduceMul, Nat.reduceAdd, Nat.reduceSub, Nat.reduceLT, Nat.reduceEqDiff, Nat.reduceLeDiff, Nat.reduceBEq, reduceCtorEq, Int.reduceToNat, ↓reduceIte, rfP, rvP, rhP, frP]) <;> (try clear e))
    | ((first | refine call_x (hV) rfl ⟨rfl⟩ ?_); (try simp (maxSteps := 1000000) (disch := first | omega | (simp only [LN, numOk, verOk, rfP, rvP, rhP, frP] <;> omega) | exact Ck.mk rfl) only [VC, T, Nat.reduceMul, Nat.reduceAdd, Nat.reduceSub, Nat.reduceLT, Nat.reduceEqDiff, Nat.reduceLeDiff, Nat.reduceBEq, reduceCtorEq, Int.reduceToNat, ↓reduceIte, rfP, rvP, rhP, frP])))
  refine lp_go (fun x : Nat × Int => ⟨19, [(3, .int .i64 x.2), (7, .far (l.map (.int .i64))), (8, .int .i64 l.length), (9, .int .i64 x.1)], []⟩) (fun x => x.1 ≤ l.length ∧ (0 ≤ x.2 ∧ x.2 ≤ x.1) ∧ oldT l = x.2 + oldT (l.drop x.1)) (fun x => l.length - x.1) (0, 0) ?_ ⟨Nat.zero_le _, by simp, by simp⟩ ?_
  · (simp (disch := first | omega | (simp only [LN, numOk, verOk] <;> omega) | exact Ck.mk rfl) only [SB, EQ, Nat.reduceMul, Nat.reduceAdd, Nat.reduceSub, Nat.reduceLT, Nat.reduceEqDiff, Nat.reduceLeDiff, Nat.reduceBEq, reduceCtorEq, Int.reduceToNat, ↓reduceIte]; try omega)
  · rintro ⟨i, n⟩ ⟨h1, h2, h3⟩ N hN
    simp only at h1 h2 h3
    have hd := oldT_drop l i
    (try simp (maxSteps := 1000000) (disch := first | omega | (simp only [LN, numOk, verOk, rfP, rvP, rhP, frP] <;> omega) | exact Ck.mk rfl) only [VC, T, Nat.reduceMul, Nat.reduceAdd, Nat.reduceSub, Nat.reduceLT, Nat.reduceEqDiff, Nat.reduceLeDiff, Nat.reduceBEq, reduceCtorEq, Int.reduceToNat, ↓reduceIte, rfP, rvP, rhP, frP])
    repeat' (first
      | (refine br_go (fun e f => ?_) (fun e f => ?_) <;> (try simp only [BB] at f) <;> (try simp only [numOk, verOk] at f) <;> (try simp (maxSteps := 1000000) (disch := first | omega | (simp only [LN, numOk, verOk, rfP, rvP, rhP, frP] <;> omega) | exact Ck.mk rfl) only [e, VC, T, Nat.reduceMul, Nat.reduceAdd, Nat.reduceSub, Nat.reduceLT, Nat.reduceEqDiff, Nat.reduceLeDiff, Nat.reduceBEq, reduceCtorEq, Int.reduceToNat, ↓reduceIte, rfP, rvP, rhP, frP]) <;> (try clear e))
      | (refine pick_go (fun e f => ?_) (fun e f => ?_) <;> (try simp only [BB] at f) <;> (try simp only [numOk, verOk] at f) <;> (try simp (maxSteps := 1000000) (disch := first | omega | (simp only [LN, numOk, verOk, rfP, rvP, rhP, frP] <;> omega) | exact Ck.mk rfl) only [e, VC, T, Nat.reduceMul, Nat.reduceAdd, Nat.reduceSub, Nat.reduceLT, Nat.reduceEqDiff, Nat.reduceLeDiff, Nat.reduceBEq, reduceCtorEq, Int.reduceToNat, ↓reduceIte, rfP, rvP, rhP, frP]) <;> (try clear e)))
    · rw [if_pos f] at hd
      refine hN (i + 1, n + 1) _ ⟨by simp only; omega, ⟨by simp only; omega, by simp only; omega⟩, by simp only; rw [h3, hd (by omega)]; omega⟩ (by simp only; omega) ?_
      (simp (disch := first | omega | (simp only [LN, numOk, verOk] <;> omega) | exact Ck.mk rfl) only [SB, EQ, Nat.reduceMul, Nat.reduceAdd, Nat.reduceSub, Nat.reduceLT, Nat.reduceEqDiff, Nat.reduceLeDiff, Nat.reduceBEq, reduceCtorEq, Int.reduceToNat, ↓reduceIte]; try omega)
    · rw [if_neg f] at hd
      refine hN (i + 1, n) _ ⟨by simp only; omega, ⟨by simp only; omega, by simp only; omega⟩, by simp only; rw [h3, hd (by omega)]; omega⟩ (by simp only; omega) ?_
      (simp (disch := first | omega | (simp only [LN, numOk, verOk] <;> omega) | exact Ck.mk rfl) only [SB, EQ, Nat.reduceMul, Nat.reduceAdd, Nat.reduceSub, Nat.reduceLT, Nat.reduceEqDiff, Nat.reduceLeDiff, Nat.reduceBEq, reduceCtorEq, Int.reduceToNat, ↓reduceIte]; try omega)
    · rw [h3, List.drop_eq_nil_of_le (by omega), show oldT [] = 0 from rfl, Int.add_zero]
theorem spec_OldOn (d : Dk) (l : List Int) (hl : l.length ≤ 16) (hV : Fn Tryz.prog 34 [dkP d] [] (.far (l.map (.int .i64))) []) : Fn Tryz.prog 19 [dkP d] [] (.int .i64 (oldT l)) [] := by
  unfold dkP at *
  refine fn_x tok (n := 22) (rs := [.tmp 2]) Tryz.func19 (by decide) rfl rfl rfl rfl ?_
  (try simp (maxSteps := 1000000) (disch := first | omega | (simp only [LN, numOk, verOk, rfP, rvP, rhP, frP] <;> omega) | exact Ck.mk rfl) only [VC, T, Nat.reduceMul, Nat.reduceAdd, Nat.reduceSub, Nat.reduceLT, Nat.reduceEqDiff, Nat.reduceLeDiff, Nat.reduceBEq, reduceCtorEq, Int.reduceToNat, ↓reduceIte, rfP, rvP, rhP, frP])
  repeat' (first
    | (refine br_go (fun e f => ?_) (fun e f => ?_) <;> (try simp only [BB] at f) <;> (try simp only [numOk, verOk] at f) <;> (try simp (maxSteps := 1000000) (disch := first | omega | (simp only [LN, numOk, verOk, rfP, rvP, rhP, frP] <;> omega) | exact Ck.mk rfl) only [e, VC, T, Nat.reduceMul, Nat.reduceAdd, Nat.reduceSub, Nat.reduceLT, Nat.reduceEqDiff, Nat.reduceLeDiff, Nat.reduceBEq, reduceCtorEq, Int.reduceToNat, ↓reduceIte, rfP, rvP, rhP, frP]) <;> (try clear e))
    | (refine pick_go (fun e f => ?_) (fun e f => ?_) <;> (try simp only [BB] at f) <;> (try simp only [numOk, verOk] at f) <;> (try simp (maxSteps := 1000000) (disch := first | omega | (simp only [LN, numOk, verOk, rfP, rvP, rhP, frP] <;> omega) | exact Ck.mk rfl) only [e, VC, T, Nat.reduceMul, Nat.reduceAdd, Nat.reduceSub, Nat.reduceLT, Nat.reduceEqDiff, Nat.reduceLeDiff, Nat.reduceBEq, reduceCtorEq, Int.reduceToNat, ↓reduceIte, rfP, rvP, rhP, frP]) <;> (try clear e))
    | ((first | refine call_x (hV) rfl ⟨rfl⟩ ?_); (try simp (maxSteps := 1000000) (disch := first | omega | (simp only [LN, numOk, verOk, rfP, rvP, rhP, frP] <;> omega) | exact Ck.mk rfl) only [VC, T, Nat.reduceMul, Nat.reduceAdd, Nat.reduceSub, Nat.reduceLT, Nat.reduceEqDiff, Nat.reduceLeDiff, Nat.reduceBEq, reduceCtorEq, Int.reduceToNat, ↓reduceIte, rfP, rvP, rhP, frP])))
  refine lp_go (fun x : Nat × Int => ⟨22, [(3, .int .i64 x.2), (4, .far (l.map (.int .i64))), (5, .int .i64 x.1)], []⟩) (fun x => x.1 ≤ l.length ∧ (0 ≤ x.2 ∧ x.2 ≤ x.1) ∧ oldT l = x.2 + oldT (l.drop x.1)) (fun x => l.length - x.1) (0, 0) ?_ ⟨Nat.zero_le _, by simp, by simp⟩ ?_
  · (simp (disch := first | omega | (simp only [LN, numOk, verOk] <;> omega) | exact Ck.mk rfl) only [SB, EQ, Nat.reduceMul, Nat.reduceAdd, Nat.reduceSub, Nat.reduceLT, Nat.reduceEqDiff, Nat.reduceLeDiff, Nat.reduceBEq, reduceCtorEq, Int.reduceToNat, ↓reduceIte]; try omega)
  · rintro ⟨i, n⟩ ⟨h1, h2, h3⟩ N hN
    simp only at h1 h2 h3
    have hd := oldT_drop l i
    (try simp (maxSteps := 1000000) (disch := first | omega | (simp only [LN, numOk, verOk, rfP, rvP, rhP, frP] <;> omega) | exact Ck.mk rfl) only [VC, T, Nat.reduceMul, Nat.reduceAdd, Nat.reduceSub, Nat.reduceLT, Nat.reduceEqDiff, Nat.reduceLeDiff, Nat.reduceBEq, reduceCtorEq, Int.reduceToNat, ↓reduceIte, rfP, rvP, rhP, frP])
    repeat' (first
      | (refine br_go (fun e f => ?_) (fun e f => ?_) <;> (try simp only [BB] at f) <;> (try simp only [numOk, verOk] at f) <;> (try simp (maxSteps := 1000000) (disch := first | omega | (simp only [LN, numOk, verOk, rfP, rvP, rhP, frP] <;> omega) | exact Ck.mk rfl) only [e, VC, T, Nat.reduceMul, Nat.reduceAdd, Nat.reduceSub, Nat.reduceLT, Nat.reduceEqDiff, Nat.reduceLeDiff, Nat.reduceBEq, reduceCtorEq, Int.reduceToNat, ↓reduceIte, rfP, rvP, rhP, frP]) <;> (try clear e))
      | (refine pick_go (fun e f => ?_) (fun e f => ?_) <;> (try simp only [BB] at f) <;> (try simp only [numOk, verOk] at f) <;> (try simp (maxSteps := 1000000) (disch := first | omega | (simp only [LN, numOk, verOk, rfP, rvP, rhP, frP] <;> omega) | exact Ck.mk rfl) only [e, VC, T, Nat.reduceMul, Nat.reduceAdd, Nat.reduceSub, Nat.reduceLT, Nat.reduceEqDiff, Nat.reduceLeDiff, Nat.reduceBEq, reduceCtorEq, Int.reduceToNat, ↓reduceIte, rfP, rvP, rhP, frP]) <;> (try clear e)))
    · rw [if_pos f] at hd
      refine hN (i + 1, n + 1) _ ⟨by simp only; omega, ⟨by simp only; omega, by simp only; omega⟩, by simp only; rw [h3, hd (by omega)]; omega⟩ (by simp only; omega) ?_
      (simp (disch := first | omega | (simp only [LN, numOk, verOk] <;> omega) | exact Ck.mk rfl) only [SB, EQ, Nat.reduceMul, Nat.reduceAdd, Nat.reduceSub, Nat.reduceLT, Nat.reduceEqDiff, Nat.reduceLeDiff, Nat.reduceBEq, reduceCtorEq, Int.reduceToNat, ↓reduceIte]; try omega)
    · rw [if_neg f] at hd
      refine hN (i + 1, n) _ ⟨by simp only; omega, ⟨by simp only; omega, by simp only; omega⟩, by simp only; rw [h3, hd (by omega)]; omega⟩ (by simp only; omega) ?_
      (simp (disch := first | omega | (simp only [LN, numOk, verOk] <;> omega) | exact Ck.mk rfl) only [SB, EQ, Nat.reduceMul, Nat.reduceAdd, Nat.reduceSub, Nat.reduceLT, Nat.reduceEqDiff, Nat.reduceLeDiff, Nat.reduceBEq, reduceCtorEq, Int.reduceToNat, ↓reduceIte]; try omega)
    · rw [h3, List.drop_eq_nil_of_le (by omega), show oldT [] = 0 from rfl, Int.add_zero]
end Go.Pv

/- What functions of the program and of the reference do, in plain values. -/
namespace Go.Pv
open Go.Proofs Go.Mth
set_option linter.unusedSimpArgs false
set_option linter.unusedVariables false
set_option maxHeartbeats 4000000
set_option maxRecDepth 4000

/-! ### the reference's rows -/
theorem spec_LinkAfter (b : ByteArray) (hb : b.size ≤ 1073741824) : Fn Tryz.prog 63 [.str b] [] (.int .i64 (linkAll (scan b).2.2.2.2.1 (scan b).2.2.2.2.2.1)) [] := by
  have hS := spec_Scan b hb
  have hF := scan_f b
  generalize scan b = t at *
  obtain ⟨ok, v, s, base, l, rs, os, e, m⟩ := t
  obtain ⟨f1, f2, f3, f4, f5, f6, f7, f8, f9⟩ := hF
  simp only [scanP] at f1 f2 f3 f4 f5 f6 f7 f8 f9 hS ⊢
  refine fn_x tok (n := 26) (rs := [.tmp 2]) Tryz.func63 (by decide) rfl rfl rfl rfl ?_
  (try simp (maxSteps := 1000000) (disch := first | omega | (simp only [LN, numOk, verOk, rfP, rvP, rhP, frP] <;> omega) | exact Ck.mk rfl) only [VC, T, Nat.reduceMul, Nat.reduceAdd, Nat.reduceSub, Nat.reduceLT, Nat.reduceEqDiff, Nat.reduceLeDiff, Nat.reduceBEq, reduceCtorEq, Int.reduceToNat, ↓reduceIte, rfP, rvP, rhP, frP])
  repeat' (first
    | (refine br_go (fun e f => ?_) (fun e f => ?_) <;> (try simp only [BB] at f) <;> (try simp only [numOk, verOk] at f) <;> (try simp (maxSteps := 1000000) (disch := first | omega | (simp only [LN, numOk, verOk, rfP, rvP, rhP, frP] <;> omega) | exact Ck.mk rfl) only [e, VC, T, Nat.reduceMul, Nat.reduceAdd, Nat.reduceSub, Nat.reduceLT, Nat.reduceEqDiff, Nat.reduceLeDiff, Nat.reduceBEq, reduceCtorEq, Int.reduceToNat, ↓reduceIte, rfP, rvP, rhP, frP]) <;> (try clear e))
    | (refine pick_go (fun e f => ?_) (fun e f => ?_) <;> (try simp only [BB] at f) <;> (try simp only [numOk, verOk] at f) <;> (try simp (maxSteps := 1000000) (disch := first | omega | (simp only [LN, numOk, verOk, rfP, rvP, rhP, frP] <;> omega) | exact Ck.mk rfl) only [e, VC, T, Nat.reduceMul, Nat.reduceAdd, Nat.reduceSub, Nat.reduceLT, Nat.reduceEqDiff, Nat.reduceLeDiff, Nat.reduceBEq, reduceCtorEq, Int.reduceToNat, ↓reduceIte, rfP, rvP, rhP, frP]) <;> (try clear e))
    | ((first | refine call_x (hS) rfl ⟨rfl⟩ ?_); (try simp (maxSteps := 1000000) (disch := first | omega | (simp only [LN, numOk, verOk, rfP, rvP, rhP, frP] <;> omega) | exact Ck.mk rfl) only [VC, T, Nat.reduceMul, Nat.reduceAdd, Nat.reduceSub, Nat.reduceLT, Nat.reduceEqDiff, Nat.reduceLeDiff, Nat.reduceBEq, reduceCtorEq, Int.reduceToNat, ↓reduceIte, rfP, rvP, rhP, frP])))
  refine lp_go (fun i : Nat => ⟨26, [(3, .ref 256 0), (4, .int .i64 (linkAll l (rs.take i))), (5, .int .i64 i)], [(256, .box 62 [.bool ok, .int .i64 v, .int .i64 s, .int .i64 base, .int .i64 l, .far (rs.map .str), .far (os.map (.int .i64)), .int .i64 e, .bool m])]⟩) (fun i => i ≤ rs.length) (fun i => rs.length - i) 0 ?_ (by omega) ?_
  · (simp (disch := first | omega | (simp only [LN, numOk, verOk] <;> omega) | exact Ck.mk rfl) only [SB, EQ, Nat.reduceMul, Nat.reduceAdd, Nat.reduceSub, Nat.reduceLT, Nat.reduceEqDiff, Nat.reduceLeDiff, Nat.reduceBEq, reduceCtorEq, Int.reduceToNat, ↓reduceIte]; try omega)
    rfl
  · intro i hi N hN
    (try simp (maxSteps := 1000000) (disch := first | omega | (simp only [LN, numOk, verOk, rfP, rvP, rhP, frP, linkAll_snoc] <;> omega) | exact Ck.mk rfl) only [VC, T, Nat.reduceMul, Nat.reduceAdd, Nat.reduceSub, Nat.reduceLT, Nat.reduceEqDiff, Nat.reduceLeDiff, Nat.reduceBEq, reduceCtorEq, Int.reduceToNat, ↓reduceIte, rfP, rvP, rhP, frP, linkAll_snoc])
    repeat' (first
      | (refine br_go (fun e f => ?_) (fun e f => ?_) <;> (try simp only [BB] at f) <;> (try simp only [numOk, verOk] at f) <;> (try simp (maxSteps := 1000000) (disch := first | omega | (simp only [LN, numOk, verOk, rfP, rvP, rhP, frP, linkAll_snoc] <;> omega) | exact Ck.mk rfl) only [e, VC, T, Nat.reduceMul, Nat.reduceAdd, Nat.reduceSub, Nat.reduceLT, Nat.reduceEqDiff, Nat.reduceLeDiff, Nat.reduceBEq, reduceCtorEq, Int.reduceToNat, ↓reduceIte, rfP, rvP, rhP, frP, linkAll_snoc]) <;> (try clear e))
      | (refine pick_go (fun e f => ?_) (fun e f => ?_) <;> (try simp only [BB] at f) <;> (try simp only [numOk, verOk] at f) <;> (try simp (maxSteps := 1000000) (disch := first | omega | (simp only [LN, numOk, verOk, rfP, rvP, rhP, frP, linkAll_snoc] <;> omega) | exact Ck.mk rfl) only [e, VC, T, Nat.reduceMul, Nat.reduceAdd, Nat.reduceSub, Nat.reduceLT, Nat.reduceEqDiff, Nat.reduceLeDiff, Nat.reduceBEq, reduceCtorEq, Int.reduceToNat, ↓reduceIte, rfP, rvP, rhP, frP, linkAll_snoc]) <;> (try clear e))
      | ((first | refine call_x (spec_LinkMore _ _ (by have := f6 _ (getD_mem rs i (by omega)); omega)) rfl ⟨rfl⟩ ?_); (try simp (maxSteps := 1000000) (disch := first | omega | (simp only [LN, numOk, verOk, rfP, rvP, rhP, frP, linkAll_snoc] <;> omega) | exact Ck.mk rfl) only [VC, T, Nat.reduceMul, Nat.reduceAdd, Nat.reduceSub, Nat.reduceLT, Nat.reduceEqDiff, Nat.reduceLeDiff, Nat.reduceBEq, reduceCtorEq, Int.reduceToNat, ↓reduceIte, rfP, rvP, rhP, frP, linkAll_snoc])))
    · refine hN (i + 1) _ (by omega) (by omega) ?_
      (simp (disch := first | omega | (simp only [LN, numOk, verOk] <;> omega) | exact Ck.mk rfl) only [SB, EQ, Nat.reduceMul, Nat.reduceAdd, Nat.reduceSub, Nat.reduceLT, Nat.reduceEqDiff, Nat.reduceLeDiff, Nat.reduceBEq, reduceCtorEq, Int.reduceToNat, ↓reduceIte]; try omega)
    · obtain rfl : i = rs.length := by omega
      rw [List.take_length]
theorem spec_Chain (d : Dk) (h : DkOk d) : Fn Tryz.prog 29 [dkP d] [] (.far ((chainT d).map (.int .i64))) [] := by
  have hT := fun b hb => spec_TextAt d b h hb
  have hle := textT_le h
  have hsn := chGo_snoc d
  have hsp := chGo_stop d
  obtain ⟨ns, es, os, ss, r, x⟩ := d
  generalize hd : ((ns, es, os, ss, r, x) : Dk) = d at *
  have hdk : dkP d = .agg [.far (ns.map ndP), .far (es.map enP), .far (os.map enP), .far (ss.map .str), .int .i64 r, .int .i64 x] := by rw [← hd]; rfl
  rw [hdk] at hT ⊢
  refine fn_x tok (n := 38) (rs := [.tmp 2]) Tryz.func29 (by decide) rfl rfl rfl rfl ?_
  (try simp (maxSteps := 1000000) (disch := first | omega | (simp only [LN, numOk, verOk, rfP, rvP, rhP, frP] <;> omega) | exact Ck.mk rfl) only [VC, T, Nat.reduceMul, Nat.reduceAdd, Nat.reduceSub, Nat.reduceLT, Nat.reduceEqDiff, Nat.reduceLeDiff, Nat.reduceBEq, reduceCtorEq, Int.reduceToNat, ↓reduceIte, rfP, rvP, rhP, frP])
  repeat' (first
    | (refine br_go (fun e f => ?_) (fun e f => ?_) <;> (try simp only [BB] at f) <;> (try simp only [numOk, verOk] at f) <;> (try simp (maxSteps := 1000000) (disch := first | omega | (simp only [LN, numOk, verOk, rfP, rvP, rhP, frP] <;> omega) | exact Ck.mk rfl) only [e, VC, T, Nat.reduceMul, Nat.reduceAdd, Nat.reduceSub, Nat.reduceLT, Nat.reduceEqDiff, Nat.reduceLeDiff, Nat.reduceBEq, reduceCtorEq, Int.reduceToNat, ↓reduceIte, rfP, rvP, rhP, frP]) <;> (try clear e))
    | (refine pick_go (fun e f => ?_) (fun e f => ?_) <;> (try simp only [BB] at f) <;> (try simp only [numOk, verOk] at f) <;> (try simp (maxSteps := 1000000) (disch := first | omega | (simp only [LN, numOk, verOk, rfP, rvP, rhP, frP] <;> omega) | exact Ck.mk rfl) only [e, VC, T, Nat.reduceMul, Nat.reduceAdd, Nat.reduceSub, Nat.reduceLT, Nat.reduceEqDiff, Nat.reduceLeDiff, Nat.reduceBEq, reduceCtorEq, Int.reduceToNat, ↓reduceIte, rfP, rvP, rhP, frP]) <;> (try clear e)))
  refine lp_go (fun x' : List Int × Int × Int => ⟨38, [(1, .ref 128 0), (3, .row 576 x'.1.length), (4, .int .i64 x'.2.1), (5, .int .i64 x'.2.2)], [(128, .box 32 [.far (ns.map ndP), .far (es.map enP), .far (os.map enP), .far (ss.map .str), .int .i64 r, .int .i64 x]), (576, .row ⟨1, 0⟩ (x'.1.map (.int .i64)))]⟩) (fun x => x.1.length ≤ 16 ∧ (0 ≤ x.2.1 ∧ x.2.1 ≤ 1048576 * x.1.length) ∧ chainT d = x.1 ++ chGo d (16 - x.1.length) x.2.1 x.2.2) (fun x => 16 - x.1.length) ([], 0, 0) ?_ ⟨by simp, by simp, rfl⟩ ?_
  · (simp (disch := first | omega | (simp only [LN, numOk, verOk] <;> omega) | exact Ck.mk rfl) only [SB, EQ, Nat.reduceMul, Nat.reduceAdd, Nat.reduceSub, Nat.reduceLT, Nat.reduceEqDiff, Nat.reduceLeDiff, Nat.reduceBEq, reduceCtorEq, Int.reduceToNat, ↓reduceIte]; try omega)
  · rintro ⟨L, b, l⟩ ⟨h1, h2, h3⟩ N hN
    simp only at h1 h2 h3 hN
    have hT := hT b ⟨by omega, by omega⟩
    have hle := hle b
    have hsn := hsn L b l h3
    have hsp := hsp L b l h3
    have hnx := fun s1 (q1 : L.length < 16) (q2 : goOk (textT d b) b l) => hN (L ++ [b], b + (recs (textT d b)).length, linkAll l (recs (textT d b))) s1 ⟨by simp only [List.length_append, List.length_singleton]; omega, ⟨by simp only; omega, by have := (recs_le (textT d b)).1; simp only [List.length_append, List.length_singleton]; omega⟩, hsn q1 q2⟩ (by simp only [List.length_append, List.length_singleton]; omega)
    generalize textT d b = t at *
    have hS := spec_RecordsIn t (by omega)
    have hG := spec_GoesOn t b l (by omega)
    have hA := spec_LinkAfter t (by omega)
    have hlk := scan_link t
    obtain ⟨z1, z2⟩ := recs_le t
    generalize hg : ((rHead t).2.2.2.2 && decide ((rHead t).2.2.1 = b) && decide ((rHead t).2.2.2.1 = l)) = g at *
    have hgo := goOk_iff t b l g hg
    have hll : goOk t b l → (scan t).2.2.2.2.1 = l := fun q => by rw [hlk]; exact q.1.2.2
    unfold recs at *
    generalize scan t = sc at *
    obtain ⟨ok, v, s, base, lk, rs, ofs, e, m⟩ := sc
    simp only at *
    cases g
    · have hn : ¬ goOk t b l := fun q => by have := (hgo.1 q).1; cases this
      (try simp (maxSteps := 1000000) (disch := first | omega | (simp only [LN, numOk, verOk, rfP, rvP, rhP, frP] <;> omega) | exact Ck.mk rfl) only [VC, T, Nat.reduceMul, Nat.reduceAdd, Nat.reduceSub, Nat.reduceLT, Nat.reduceEqDiff, Nat.reduceLeDiff, Nat.reduceBEq, reduceCtorEq, Int.reduceToNat, ↓reduceIte, rfP, rvP, rhP, frP])
      repeat' (first
        | (refine br_go (fun e f => ?_) (fun e f => ?_) <;> (try simp only [BB] at f) <;> (try simp only [numOk, verOk] at f) <;> (try simp (maxSteps := 1000000) (disch := first | omega | (simp only [LN, numOk, verOk, rfP, rvP, rhP, frP] <;> omega) | exact Ck.mk rfl) only [e, VC, T, Nat.reduceMul, Nat.reduceAdd, Nat.reduceSub, Nat.reduceLT, Nat.reduceEqDiff, Nat.reduceLeDiff, Nat.reduceBEq, reduceCtorEq, Int.reduceToNat, ↓reduceIte, rfP, rvP, rhP, frP]) <;> (try clear e))
        | (refine pick_go (fun e f => ?_) (fun e f => ?_) <;> (try simp only [BB] at f) <;> (try simp only [numOk, verOk] at f) <;> (try simp (maxSteps := 1000000) (disch := first | omega | (simp only [LN, numOk, verOk, rfP, rvP, rhP, frP] <;> omega) | exact Ck.mk rfl) only [e, VC, T, Nat.reduceMul, Nat.reduceAdd, Nat.reduceSub, Nat.reduceLT, Nat.reduceEqDiff, Nat.reduceLeDiff, Nat.reduceBEq, reduceCtorEq, Int.reduceToNat, ↓reduceIte, rfP, rvP, rhP, frP]) <;> (try clear e))
        | ((first | refine call_x (hT) rfl ⟨rfl⟩ ?_ | refine call_x (hS) rfl ⟨rfl⟩ ?_ | refine call_x (hG) rfl ⟨rfl⟩ ?_ | refine call_x (hA) rfl ⟨rfl⟩ ?_); (try simp (maxSteps := 1000000) (disch := first | omega | (simp only [LN, numOk, verOk, rfP, rvP, rhP, frP] <;> omega) | exact Ck.mk rfl) only [VC, T, Nat.reduceMul, Nat.reduceAdd, Nat.reduceSub, Nat.reduceLT, Nat.reduceEqDiff, Nat.reduceLeDiff, Nat.reduceBEq, reduceCtorEq, Int.reduceToNat, ↓reduceIte, rfP, rvP, rhP, frP])))
      · rw [hsp (.inr hn)]
      · rw [hsp (.inr hn)]
      · rw [hsp (.inl (by omega))]
    · (try simp (maxSteps := 1000000) (disch := first | omega | (simp only [LN, numOk, verOk, rfP, rvP, rhP, frP] <;> omega) | exact Ck.mk rfl) only [VC, T, Nat.reduceMul, Nat.reduceAdd, Nat.reduceSub, Nat.reduceLT, Nat.reduceEqDiff, Nat.reduceLeDiff, Nat.reduceBEq, reduceCtorEq, Int.reduceToNat, ↓reduceIte, rfP, rvP, rhP, frP])
      repeat' (first
        | (refine br_go (fun e f => ?_) (fun e f => ?_) <;> (try simp only [BB] at f) <;> (try simp only [numOk, verOk] at f) <;> (try simp (maxSteps := 1000000) (disch := first | omega | (simp only [LN, numOk, verOk, rfP, rvP, rhP, frP] <;> omega) | exact Ck.mk rfl) only [e, VC, T, Nat.reduceMul, Nat.reduceAdd, Nat.reduceSub, Nat.reduceLT, Nat.reduceEqDiff, Nat.reduceLeDiff, Nat.reduceBEq, reduceCtorEq, Int.reduceToNat, ↓reduceIte, rfP, rvP, rhP, frP]) <;> (try clear e))
        | (refine pick_go (fun e f => ?_) (fun e f => ?_) <;> (try simp only [BB] at f) <;> (try simp only [numOk, verOk] at f) <;> (try simp (maxSteps := 1000000) (disch := first | omega | (simp only [LN, numOk, verOk, rfP, rvP, rhP, frP] <;> omega) | exact Ck.mk rfl) only [e, VC, T, Nat.reduceMul, Nat.reduceAdd, Nat.reduceSub, Nat.reduceLT, Nat.reduceEqDiff, Nat.reduceLeDiff, Nat.reduceBEq, reduceCtorEq, Int.reduceToNat, ↓reduceIte, rfP, rvP, rhP, frP]) <;> (try clear e))
        | ((first | refine call_x (hT) rfl ⟨rfl⟩ ?_ | refine call_x (hS) rfl ⟨rfl⟩ ?_ | refine call_x (hG) rfl ⟨rfl⟩ ?_ | refine call_x (hA) rfl ⟨rfl⟩ ?_); (try simp (maxSteps := 1000000) (disch := first | omega | (simp only [LN, numOk, verOk, rfP, rvP, rhP, frP] <;> omega) | exact Ck.mk rfl) only [VC, T, Nat.reduceMul, Nat.reduceAdd, Nat.reduceSub, Nat.reduceLT, Nat.reduceEqDiff, Nat.reduceLeDiff, Nat.reduceBEq, reduceCtorEq, Int.reduceToNat, ↓reduceIte, rfP, rvP, rhP, frP])))
      · rw [hsp (.inr fun q => by have := (hgo.1 q).2; omega)]
      · have q := hgo.2 ⟨rfl, by omega⟩
        refine hnx _ (by omega) q ?_
        rw [← hll q]
        (simp (disch := first | omega | (simp only [LN, numOk, verOk] <;> omega) | exact Ck.mk rfl) only [SB, EQ, Nat.reduceMul, Nat.reduceAdd, Nat.reduceSub, Nat.reduceLT, Nat.reduceEqDiff, Nat.reduceLeDiff, Nat.reduceBEq, reduceCtorEq, Int.reduceToNat, ↓reduceIte]; try omega)
      · rw [hsp (.inl (by omega))]
theorem spec_RowOf (d : Dk) (h : DkOk d) : Fn Tryz.prog 27 [dkP d] [] (.far ((rowT d).map .str)) [] := by
  have hL := spec_Chain d h
  have hT := fun b hb => spec_TextAt d b h hb
  have hlen := chainT_length d
  have hR : rowT d = flR d (chainT d) := rfl
  have hfl := fun L => flat_le d h L
  have hle := textT_le h
  rw [hR]
  have hbs := chainT_range h
  generalize chainT d = L at *
  obtain ⟨ns, es, os, ss, r, x⟩ := d
  generalize hd : ((ns, es, os, ss, r, x) : Dk) = d at *
  have hdk : dkP d = .agg [.far (ns.map ndP), .far (es.map enP), .far (os.map enP), .far (ss.map .str), .int .i64 r, .int .i64 x] := by rw [← hd]; rfl
  rw [hdk] at hL hT ⊢
  refine fn_x tok (n := 25) (rs := [.tmp 2]) Tryz.func27 (by decide) rfl rfl rfl rfl ?_
  (try simp (maxSteps := 1000000) (disch := first | omega | (simp only [LN, numOk, verOk, rfP, rvP, rhP, frP] <;> omega) | exact Ck.mk rfl) only [VC, T, Nat.reduceMul, Nat.reduceAdd, Nat.reduceSub, Nat.reduceLT, Nat.reduceEqDiff, Nat.reduceLeDiff, Nat.reduceBEq, reduceCtorEq, Int.reduceToNat, ↓reduceIte, rfP, rvP, rhP, frP])
  repeat' (first
    | (refine br_go (fun e f => ?_) (fun e f => ?_) <;> (try simp only [BB] at f) <;> (try simp only [numOk, verOk] at f) <;> (try simp (maxSteps := 1000000) (disch := first | omega | (simp only [LN, numOk, verOk, rfP, rvP, rhP, frP] <;> omega) | exact Ck.mk rfl) only [e, VC, T, Nat.reduceMul, Nat.reduceAdd, Nat.reduceSub, Nat.reduceLT, Nat.reduceEqDiff, Nat.reduceLeDiff, Nat.reduceBEq, reduceCtorEq, Int.reduceToNat, ↓reduceIte, rfP, rvP, rhP, frP]) <;> (try clear e))
    | (refine pick_go (fun e f => ?_) (fun e f => ?_) <;> (try simp only [BB] at f) <;> (try simp only [numOk, verOk] at f) <;> (try simp (maxSteps := 1000000) (disch := first | omega | (simp only [LN, numOk, verOk, rfP, rvP, rhP, frP] <;> omega) | exact Ck.mk rfl) only [e, VC, T, Nat.reduceMul, Nat.reduceAdd, Nat.reduceSub, Nat.reduceLT, Nat.reduceEqDiff, Nat.reduceLeDiff, Nat.reduceBEq, reduceCtorEq, Int.reduceToNat, ↓reduceIte, rfP, rvP, rhP, frP]) <;> (try clear e))
    | ((first | refine call_x (hL) rfl ⟨rfl⟩ ?_); (try simp (maxSteps := 1000000) (disch := first | omega | (simp only [LN, numOk, verOk, rfP, rvP, rhP, frP] <;> omega) | exact Ck.mk rfl) only [VC, T, Nat.reduceMul, Nat.reduceAdd, Nat.reduceSub, Nat.reduceLT, Nat.reduceEqDiff, Nat.reduceLeDiff, Nat.reduceBEq, reduceCtorEq, Int.reduceToNat, ↓reduceIte, rfP, rvP, rhP, frP])))
  refine lp_go (fun i : Nat => ⟨25, [(1, .ref 128 0), (3, .row 448 (flR d (L.take i)).length), (4, .far (L.map (.int .i64))), (5, .int .i64 i)], [(128, .box 32 [.far (ns.map ndP), .far (es.map enP), .far (os.map enP), .far (ss.map .str), .int .i64 r, .int .i64 x]), (448, .row ⟨1, 0⟩ ((flR d (L.take i)).map .str))]⟩) (fun i => i ≤ L.length) (fun i => L.length - i) 0 ?_ (Nat.zero_le _) ?_
  · (simp (disch := first | omega | (simp only [LN, numOk, verOk] <;> omega) | exact Ck.mk rfl) only [SB, EQ, Nat.reduceMul, Nat.reduceAdd, Nat.reduceSub, Nat.reduceLT, Nat.reduceEqDiff, Nat.reduceLeDiff, Nat.reduceBEq, reduceCtorEq, Int.reduceToNat, ↓reduceIte]; try omega)
    exact ⟨rfl, rfl⟩
  · intro i hi N hN
    have ht : (flR d (L.take i)).length ≤ 1048576 * 16 := by
      have := (hfl (L.take i)).1
      rw [List.length_take] at this
      unfold flR
      omega
    have hsn := flR_snoc d L i
    have hb : i < L.length → 0 ≤ L.getD i default ∧ L.getD i default ≤ 16777216 := fun h => hbs _ (getD_mem _ _ h)
    generalize hM : flR d (L.take i) = M at *
    generalize hbb : L.getD i default = b at *
    have hT := fun hb => hT b hb
    have hle := hle b
    have hre := (recs_le (textT d b)).1
    generalize textT d b = t at *
    have hS := spec_RecordsIn t (by omega)
    unfold recs at *
    generalize (scan t).2.2.2.2.2.1 = rs at *
    (try simp (maxSteps := 1000000) (disch := first | omega | (simp only [LN, numOk, verOk, rfP, rvP, rhP, frP, hbb] <;> omega) | exact Ck.mk rfl) only [VC, T, Nat.reduceMul, Nat.reduceAdd, Nat.reduceSub, Nat.reduceLT, Nat.reduceEqDiff, Nat.reduceLeDiff, Nat.reduceBEq, reduceCtorEq, Int.reduceToNat, ↓reduceIte, rfP, rvP, rhP, frP, hbb])
    repeat' (first
      | (refine br_go (fun e f => ?_) (fun e f => ?_) <;> (try simp only [BB] at f) <;> (try simp only [numOk, verOk] at f) <;> (try simp (maxSteps := 1000000) (disch := first | omega | (simp only [LN, numOk, verOk, rfP, rvP, rhP, frP, hbb] <;> omega) | exact Ck.mk rfl) only [e, VC, T, Nat.reduceMul, Nat.reduceAdd, Nat.reduceSub, Nat.reduceLT, Nat.reduceEqDiff, Nat.reduceLeDiff, Nat.reduceBEq, reduceCtorEq, Int.reduceToNat, ↓reduceIte, rfP, rvP, rhP, frP, hbb]) <;> (try clear e))
      | (refine pick_go (fun e f => ?_) (fun e f => ?_) <;> (try simp only [BB] at f) <;> (try simp only [numOk, verOk] at f) <;> (try simp (maxSteps := 1000000) (disch := first | omega | (simp only [LN, numOk, verOk, rfP, rvP, rhP, frP, hbb] <;> omega) | exact Ck.mk rfl) only [e, VC, T, Nat.reduceMul, Nat.reduceAdd, Nat.reduceSub, Nat.reduceLT, Nat.reduceEqDiff, Nat.reduceLeDiff, Nat.reduceBEq, reduceCtorEq, Int.reduceToNat, ↓reduceIte, rfP, rvP, rhP, frP, hbb]) <;> (try clear e))
      | ((first | refine dr_go mixed (id := 6) [([], [3], []), ([], [1], []), ([], [4], []), ([], [5], []), ([2, 3], [17, 18], []), ([2, 3, 4], [19], []), ([1, 2, 3, 4, 5], [16, 20], []), ([1, 2, 3, 4, 5, 6], [21], []), ([0, 1, 2, 3, 4, 5, 6, 7], [15, 22], []), ([0, 1, 2, 3, 4, 5, 6, 7, 8], [23], [])] rfl rfl rfl ?_ | refine call_x (hT ⟨by omega, by omega⟩) rfl ⟨rfl⟩ ?_ | refine call_x (hS) rfl ⟨rfl⟩ ?_); (try simp (maxSteps := 1000000) (disch := first | omega | (simp only [LN, numOk, verOk, rfP, rvP, rhP, frP, hbb] <;> omega) | exact Ck.mk rfl) only [VC, T, Nat.reduceMul, Nat.reduceAdd, Nat.reduceSub, Nat.reduceLT, Nat.reduceEqDiff, Nat.reduceLeDiff, Nat.reduceBEq, reduceCtorEq, Int.reduceToNat, ↓reduceIte, rfP, rvP, rhP, frP, hbb])))
    · refine hN (i + 1) _ (by omega) (by omega) ?_
      rw [hsn (by omega)]
      (simp (disch := first | omega | (simp only [LN, numOk, verOk] <;> omega) | exact Ck.mk rfl) only [SB, EQ, Nat.reduceMul, Nat.reduceAdd, Nat.reduceSub, Nat.reduceLT, Nat.reduceEqDiff, Nat.reduceLeDiff, Nat.reduceBEq, reduceCtorEq, Int.reduceToNat, ↓reduceIte]; try omega)
      exact List.map_append.symm
    · obtain rfl : i = L.length := by omega
      rw [List.take_length] at hM
      rw [hM]
theorem spec_ChainTexts (d : Dk) (h : DkOk d) : Fn Tryz.prog 21 [dkP d] [] (.far ((textsT d).map .str)) [] := by
  rw [← textsT_map]
  have hL := spec_Chain d h
  have hT := fun b hb => spec_TextAt d b h hb
  have hlen := chainT_length d
  have hle := textT_le h
  have hbs := chainT_range h
  generalize hG : (fun b => .str (textT d b) : Int → PV) = G
  have hGb := fun b => congrFun hG b
  try simp only at hGb
  generalize chainT d = L at *
  obtain ⟨ns, es, os, ss, r, x⟩ := d
  generalize hd : ((ns, es, os, ss, r, x) : Dk) = d at *
  have hdk : dkP d = .agg [.far (ns.map ndP), .far (es.map enP), .far (os.map enP), .far (ss.map .str), .int .i64 r, .int .i64 x] := by rw [← hd]; rfl
  rw [hdk] at hL hT ⊢
  refine fn_x tok (n := 25) (rs := [.tmp 2]) Tryz.func21 (by decide) rfl rfl rfl rfl ?_
  (try simp (maxSteps := 1000000) (disch := first | omega | (simp only [LN, numOk, verOk, rfP, rvP, rhP, frP] <;> omega) | exact Ck.mk rfl) only [VC, T, Nat.reduceMul, Nat.reduceAdd, Nat.reduceSub, Nat.reduceLT, Nat.reduceEqDiff, Nat.reduceLeDiff, Nat.reduceBEq, reduceCtorEq, Int.reduceToNat, ↓reduceIte, rfP, rvP, rhP, frP])
  repeat' (first
    | (refine br_go (fun e f => ?_) (fun e f => ?_) <;> (try simp only [BB] at f) <;> (try simp only [numOk, verOk] at f) <;> (try simp (maxSteps := 1000000) (disch := first | omega | (simp only [LN, numOk, verOk, rfP, rvP, rhP, frP] <;> omega) | exact Ck.mk rfl) only [e, VC, T, Nat.reduceMul, Nat.reduceAdd, Nat.reduceSub, Nat.reduceLT, Nat.reduceEqDiff, Nat.reduceLeDiff, Nat.reduceBEq, reduceCtorEq, Int.reduceToNat, ↓reduceIte, rfP, rvP, rhP, frP]) <;> (try clear e))
    | (refine pick_go (fun e f => ?_) (fun e f => ?_) <;> (try simp only [BB] at f) <;> (try simp only [numOk, verOk] at f) <;> (try simp (maxSteps := 1000000) (disch := first | omega | (simp only [LN, numOk, verOk, rfP, rvP, rhP, frP] <;> omega) | exact Ck.mk rfl) only [e, VC, T, Nat.reduceMul, Nat.reduceAdd, Nat.reduceSub, Nat.reduceLT, Nat.reduceEqDiff, Nat.reduceLeDiff, Nat.reduceBEq, reduceCtorEq, Int.reduceToNat, ↓reduceIte, rfP, rvP, rhP, frP]) <;> (try clear e))
    | ((first | refine call_x (hL) rfl ⟨rfl⟩ ?_); (try simp (maxSteps := 1000000) (disch := first | omega | (simp only [LN, numOk, verOk, rfP, rvP, rhP, frP] <;> omega) | exact Ck.mk rfl) only [VC, T, Nat.reduceMul, Nat.reduceAdd, Nat.reduceSub, Nat.reduceLT, Nat.reduceEqDiff, Nat.reduceLeDiff, Nat.reduceBEq, reduceCtorEq, Int.reduceToNat, ↓reduceIte, rfP, rvP, rhP, frP])))
  refine lp_go (fun i : Nat => ⟨25, [(1, .ref 128 0), (3, .row 448 i), (4, .far (L.map (.int .i64))), (5, .int .i64 i)], [(128, .box 32 [.far (ns.map ndP), .far (es.map enP), .far (os.map enP), .far (ss.map .str), .int .i64 r, .int .i64 x]), (448, .row ⟨1, 0⟩ ((L.take i).map G))]⟩) (fun i => i ≤ L.length) (fun i => L.length - i) 0 ?_ (Nat.zero_le _) ?_
  · (simp (disch := first | omega | (simp only [LN, numOk, verOk] <;> omega) | exact Ck.mk rfl) only [SB, EQ, Nat.reduceMul, Nat.reduceAdd, Nat.reduceSub, Nat.reduceLT, Nat.reduceEqDiff, Nat.reduceLeDiff, Nat.reduceBEq, reduceCtorEq, Int.reduceToNat, ↓reduceIte]; try omega)
    rfl
  · intro i hi N hN
    have ht : (L.take i).length = i := by rw [List.length_take]; omega
    have hsn : i < L.length → (L.take (i + 1)).map G = (L.take i).map G ++ [G (L.getD i default)] := fun h => by
      rw [take_snoc default L i h, List.map_append]; rfl
    have hb : i < L.length → 0 ≤ L.getD i default ∧ L.getD i default ≤ 16777216 := fun h => hbs _ (getD_mem _ _ h)
    generalize hbb : L.getD i default = b at *
    have hT := fun hb => hT b hb
    have hle := hle b
    have hGb := hGb b
    generalize textT d b = t at *
    (try simp (maxSteps := 1000000) (disch := first | omega | (simp only [LN, numOk, verOk, rfP, rvP, rhP, frP, hbb, ht] <;> omega) | exact Ck.mk rfl) only [VC, T, Nat.reduceMul, Nat.reduceAdd, Nat.reduceSub, Nat.reduceLT, Nat.reduceEqDiff, Nat.reduceLeDiff, Nat.reduceBEq, reduceCtorEq, Int.reduceToNat, ↓reduceIte, rfP, rvP, rhP, frP, hbb, ht])
    repeat' (first
      | (refine br_go (fun e f => ?_) (fun e f => ?_) <;> (try simp only [BB] at f) <;> (try simp only [numOk, verOk] at f) <;> (try simp (maxSteps := 1000000) (disch := first | omega | (simp only [LN, numOk, verOk, rfP, rvP, rhP, frP, hbb, ht] <;> omega) | exact Ck.mk rfl) only [e, VC, T, Nat.reduceMul, Nat.reduceAdd, Nat.reduceSub, Nat.reduceLT, Nat.reduceEqDiff, Nat.reduceLeDiff, Nat.reduceBEq, reduceCtorEq, Int.reduceToNat, ↓reduceIte, rfP, rvP, rhP, frP, hbb, ht]) <;> (try clear e))
      | (refine pick_go (fun e f => ?_) (fun e f => ?_) <;> (try simp only [BB] at f) <;> (try simp only [numOk, verOk] at f) <;> (try simp (maxSteps := 1000000) (disch := first | omega | (simp only [LN, numOk, verOk, rfP, rvP, rhP, frP, hbb, ht] <;> omega) | exact Ck.mk rfl) only [e, VC, T, Nat.reduceMul, Nat.reduceAdd, Nat.reduceSub, Nat.reduceLT, Nat.reduceEqDiff, Nat.reduceLeDiff, Nat.reduceBEq, reduceCtorEq, Int.reduceToNat, ↓reduceIte, rfP, rvP, rhP, frP, hbb, ht]) <;> (try clear e))
      | ((first | refine dr_go mixed (id := 6) [([], [3], []), ([], [1], []), ([], [4], []), ([], [5], []), ([2, 3], [17, 18], []), ([2, 3, 4], [19], []), ([1, 2, 3, 4, 5], [16, 20], []), ([1, 2, 3, 4, 5, 6], [21], []), ([0, 1, 2, 3, 4, 5, 6, 7], [15, 22], []), ([0, 1, 2, 3, 4, 5, 6, 7, 8], [23], [])] rfl rfl rfl ?_ | refine call_x (hT ⟨by omega, by omega⟩) rfl ⟨rfl⟩ ?_); (try simp (maxSteps := 1000000) (disch := first | omega | (simp only [LN, numOk, verOk, rfP, rvP, rhP, frP, hbb, ht] <;> omega) | exact Ck.mk rfl) only [VC, T, Nat.reduceMul, Nat.reduceAdd, Nat.reduceSub, Nat.reduceLT, Nat.reduceEqDiff, Nat.reduceLeDiff, Nat.reduceBEq, reduceCtorEq, Int.reduceToNat, ↓reduceIte, rfP, rvP, rhP, frP, hbb, ht])))
    · refine hN (i + 1) _ (by omega) (by omega) ?_
      rw [hsn (by omega), ← hGb]
      (simp (disch := first | omega | (simp only [LN, numOk, verOk] <;> omega) | exact Ck.mk rfl) only [SB, EQ, Nat.reduceMul, Nat.reduceAdd, Nat.reduceSub, Nat.reduceLT, Nat.reduceEqDiff, Nat.reduceLeDiff, Nat.reduceBEq, reduceCtorEq, Int.reduceToNat, ↓reduceIte]; try omega)
    · obtain rfl : i = L.length := by omega
      rw [List.take_length]
theorem spec_VersionsOn (d : Dk) (h : DkOk d) : Fn Tryz.prog 34 [dkP d] [] (.far ((versT d).map (.int .i64))) [] := by
  rw [← versT_map]
  have hL := spec_Chain d h
  have hT := fun b hb => spec_TextAt d b h hb
  have hlen := chainT_length d
  have hle := textT_le h
  have hbs := chainT_range h
  generalize hG : (fun b => .int .i64 (rHead (textT d b)).1 : Int → PV) = G
  have hGb := fun b => congrFun hG b
  try simp only at hGb
  generalize chainT d = L at *
  obtain ⟨ns, es, os, ss, r, x⟩ := d
  generalize hd : ((ns, es, os, ss, r, x) : Dk) = d at *
  have hdk : dkP d = .agg [.far (ns.map ndP), .far (es.map enP), .far (os.map enP), .far (ss.map .str), .int .i64 r, .int .i64 x] := by rw [← hd]; rfl
  rw [hdk] at hL hT ⊢
  refine fn_x tok (n := 33) (rs := [.tmp 2]) Tryz.func34 (by decide) rfl rfl rfl rfl ?_
  (try simp (maxSteps := 1000000) (disch := first | omega | (simp only [LN, numOk, verOk, rfP, rvP, rhP, frP] <;> omega) | exact Ck.mk rfl) only [VC, T, Nat.reduceMul, Nat.reduceAdd, Nat.reduceSub, Nat.reduceLT, Nat.reduceEqDiff, Nat.reduceLeDiff, Nat.reduceBEq, reduceCtorEq, Int.reduceToNat, ↓reduceIte, rfP, rvP, rhP, frP])
  repeat' (first
    | (refine br_go (fun e f => ?_) (fun e f => ?_) <;> (try simp only [BB] at f) <;> (try simp only [numOk, verOk] at f) <;> (try simp (maxSteps := 1000000) (disch := first | omega | (simp only [LN, numOk, verOk, rfP, rvP, rhP, frP] <;> omega) | exact Ck.mk rfl) only [e, VC, T, Nat.reduceMul, Nat.reduceAdd, Nat.reduceSub, Nat.reduceLT, Nat.reduceEqDiff, Nat.reduceLeDiff, Nat.reduceBEq, reduceCtorEq, Int.reduceToNat, ↓reduceIte, rfP, rvP, rhP, frP]) <;> (try clear e))
    | (refine pick_go (fun e f => ?_) (fun e f => ?_) <;> (try simp only [BB] at f) <;> (try simp only [numOk, verOk] at f) <;> (try simp (maxSteps := 1000000) (disch := first | omega | (simp only [LN, numOk, verOk, rfP, rvP, rhP, frP] <;> omega) | exact Ck.mk rfl) only [e, VC, T, Nat.reduceMul, Nat.reduceAdd, Nat.reduceSub, Nat.reduceLT, Nat.reduceEqDiff, Nat.reduceLeDiff, Nat.reduceBEq, reduceCtorEq, Int.reduceToNat, ↓reduceIte, rfP, rvP, rhP, frP]) <;> (try clear e))
    | ((first | refine call_x (hL) rfl ⟨rfl⟩ ?_); (try simp (maxSteps := 1000000) (disch := first | omega | (simp only [LN, numOk, verOk, rfP, rvP, rhP, frP] <;> omega) | exact Ck.mk rfl) only [VC, T, Nat.reduceMul, Nat.reduceAdd, Nat.reduceSub, Nat.reduceLT, Nat.reduceEqDiff, Nat.reduceLeDiff, Nat.reduceBEq, reduceCtorEq, Int.reduceToNat, ↓reduceIte, rfP, rvP, rhP, frP])))
  refine lp_go (fun i : Nat => ⟨33, [(1, .ref 128 0), (3, .row 576 i), (4, .far (L.map (.int .i64))), (5, .int .i64 i)], [(128, .box 32 [.far (ns.map ndP), .far (es.map enP), .far (os.map enP), .far (ss.map .str), .int .i64 r, .int .i64 x]), (576, .row ⟨1, 0⟩ ((L.take i).map G))]⟩) (fun i => i ≤ L.length) (fun i => L.length - i) 0 ?_ (Nat.zero_le _) ?_
  · (simp (disch := first | omega | (simp only [LN, numOk, verOk] <;> omega) | exact Ck.mk rfl) only [SB, EQ, Nat.reduceMul, Nat.reduceAdd, Nat.reduceSub, Nat.reduceLT, Nat.reduceEqDiff, Nat.reduceLeDiff, Nat.reduceBEq, reduceCtorEq, Int.reduceToNat, ↓reduceIte]; try omega)
    rfl
  · intro i hi N hN
    have ht : (L.take i).length = i := by rw [List.length_take]; omega
    have hsn : i < L.length → (L.take (i + 1)).map G = (L.take i).map G ++ [G (L.getD i default)] := fun h => by
      rw [take_snoc default L i h, List.map_append]; rfl
    have hb : i < L.length → 0 ≤ L.getD i default ∧ L.getD i default ≤ 16777216 := fun h => hbs _ (getD_mem _ _ h)
    generalize hbb : L.getD i default = b at *
    have hT := fun hb => hT b hb
    have hle := hle b
    have hGb := hGb b
    generalize textT d b = t at *
    (try simp (maxSteps := 1000000) (disch := first | omega | (simp only [LN, numOk, verOk, rfP, rvP, rhP, frP, hbb, ht] <;> omega) | exact Ck.mk rfl) only [VC, T, Nat.reduceMul, Nat.reduceAdd, Nat.reduceSub, Nat.reduceLT, Nat.reduceEqDiff, Nat.reduceLeDiff, Nat.reduceBEq, reduceCtorEq, Int.reduceToNat, ↓reduceIte, rfP, rvP, rhP, frP, hbb, ht])
    repeat' (first
      | (refine br_go (fun e f => ?_) (fun e f => ?_) <;> (try simp only [BB] at f) <;> (try simp only [numOk, verOk] at f) <;> (try simp (maxSteps := 1000000) (disch := first | omega | (simp only [LN, numOk, verOk, rfP, rvP, rhP, frP, hbb, ht] <;> omega) | exact Ck.mk rfl) only [e, VC, T, Nat.reduceMul, Nat.reduceAdd, Nat.reduceSub, Nat.reduceLT, Nat.reduceEqDiff, Nat.reduceLeDiff, Nat.reduceBEq, reduceCtorEq, Int.reduceToNat, ↓reduceIte, rfP, rvP, rhP, frP, hbb, ht]) <;> (try clear e))
      | (refine pick_go (fun e f => ?_) (fun e f => ?_) <;> (try simp only [BB] at f) <;> (try simp only [numOk, verOk] at f) <;> (try simp (maxSteps := 1000000) (disch := first | omega | (simp only [LN, numOk, verOk, rfP, rvP, rhP, frP, hbb, ht] <;> omega) | exact Ck.mk rfl) only [e, VC, T, Nat.reduceMul, Nat.reduceAdd, Nat.reduceSub, Nat.reduceLT, Nat.reduceEqDiff, Nat.reduceLeDiff, Nat.reduceBEq, reduceCtorEq, Int.reduceToNat, ↓reduceIte, rfP, rvP, rhP, frP, hbb, ht]) <;> (try clear e))
      | ((first | refine dr_go mixed (id := 6) [([], [1], []), ([], [4], []), ([], [5], []), ([1, 2], [19, 20], []), ([1, 2, 3], [21], []), ([0, 1, 2, 3, 4], [18, 22], []), ([0, 1, 2, 3, 4, 5], [23], []), ([0, 1, 2, 3, 4, 5, 6], [24], []), ([0, 1, 2, 3, 4, 5, 6, 7], [17], []), ([0, 1, 2, 3, 4, 5, 6, 7], [17], []), ([], [], []), ([0, 1, 2, 3, 4, 5, 6, 7, 8, 10], [6, 25], []), ([0, 1, 2, 3, 4, 5, 6, 7, 8, 9, 10, 11], [26], [])] rfl rfl rfl ?_ | refine call_x (hT ⟨by omega, by omega⟩) rfl ⟨rfl⟩ ?_ | refine call_x (spec_ReadHead t (by omega)) rfl ⟨rfl⟩ ?_); (try simp (maxSteps := 1000000) (disch := first | omega | (simp only [LN, numOk, verOk, rfP, rvP, rhP, frP, hbb, ht] <;> omega) | exact Ck.mk rfl) only [VC, T, Nat.reduceMul, Nat.reduceAdd, Nat.reduceSub, Nat.reduceLT, Nat.reduceEqDiff, Nat.reduceLeDiff, Nat.reduceBEq, reduceCtorEq, Int.reduceToNat, ↓reduceIte, rfP, rvP, rhP, frP, hbb, ht])))
    · refine hN (i + 1) _ (by omega) (by omega) ?_
      rw [hsn (by omega), ← hGb]
      (simp (disch := first | omega | (simp only [LN, numOk, verOk] <;> omega) | exact Ck.mk rfl) only [SB, EQ, Nat.reduceMul, Nat.reduceAdd, Nat.reduceSub, Nat.reduceLT, Nat.reduceEqDiff, Nat.reduceLeDiff, Nat.reduceBEq, reduceCtorEq, Int.reduceToNat, ↓reduceIte]; try omega)
    · obtain rfl : i = L.length := by omega
      rw [List.take_length]
end Go.Pv

/- What functions of the program and of the reference do, in plain values. -/
namespace Go.Pv
open Go.Proofs Go.Mth
set_option linter.unusedSimpArgs false
set_option linter.unusedVariables false
set_option maxHeartbeats 4000000

/-! ### the laws' own functions: slices of numbers and of texts -/
theorem eq_step {α : Type} [Inhabited α] (xs ys : List α) (i : Nat) (hl : xs.length = ys.length) (hi : i < xs.length) (h : xs.take i = ys.take i) (he : xs.getD i default = ys.getD i default) : xs.take (i + 1) = ys.take (i + 1) := by
  rw [List.take_succ_eq_append_getElem hi, List.take_succ_eq_append_getElem (by omega), h]
  rw [List.getD_eq_getElem?_getD, List.getD_eq_getElem?_getD, List.getElem?_eq_getElem hi, List.getElem?_eq_getElem (by omega : i < ys.length)] at he
  exact congrArg (fun x => ys.take i ++ [x]) he
theorem row_step {α : Type} [Inhabited α] (xs : List α) (z : α) (n i : Nat) (hn : n = xs.length) (hi : i < n) : (xs.take i ++ List.replicate (n - i) z).set i (xs.getD i default) = xs.take (i + 1) ++ List.replicate (n - (i + 1)) z := by
  subst hn
  rw [show xs.length - i = (xs.length - (i + 1)) + 1 by omega, List.replicate_succ, List.take_succ_eq_append_getElem hi, List.set_append_right _ _ (by rw [List.length_take]; omega), List.length_take, Nat.min_eq_left (by omega), Nat.sub_self, List.set_cons_zero, List.append_assoc, List.getD_eq_getElem?_getD, List.getElem?_eq_getElem hi]
  rfl
theorem mark_step {α : Type} (f : Int → α) (xs : List α) (k : Int) (i : Nat) (hi : i < xs.length) : ((seqL i k).map f ++ xs.drop i).set i (f (k + i)) = (seqL (i + 1) k).map f ++ xs.drop (i + 1) := by
  rw [List.drop_eq_getElem_cons hi, List.set_append_right _ _ (by rw [List.length_map, seqL_length]; omega), List.length_map, seqL_length, Nat.sub_self, List.set_cons_zero, seqL_snoc, List.map_append, List.append_assoc]; rfl
theorem seqL_getD {α : Type} (f : Int → α) [Inhabited α] (n : Nat) (k : Int) (i : Nat) (hi : i < n) : ((seqL n k).map f).getD i default = f (k + i) := by
  have h := seqL_get n k i hi
  rw [rd, Int.toNat_natCast, List.getD_eq_getElem?_getD] at h
  have hl : i < (seqL n k).length := by rw [seqL_length]; exact hi
  rw [List.getElem?_eq_getElem hl] at h
  rw [List.getD_eq_getElem?_getD, List.getElem?_map, List.getElem?_eq_getElem hl]
  exact congrArg f h
theorem laws_eqStr (xs ys : List ByteArray) (hx : xs.length ≤ 4611686018427387904) : Fn Tryz.prog 23 [.far (xs.map .str), .far (ys.map .str)] [] (.bool (decide (xs = ys))) [] := by
  refine fn_x tok (n := 26) (rs := [.tmp 4]) Tryz.func23 (by decide) rfl rfl rfl rfl ?_
  (try simp (maxSteps := 1000000) (disch := first | omega | (simp only [LN, numOk, verOk] <;> omega) | exact Ck.mk rfl) only [VC, T, Nat.reduceMul, Nat.reduceAdd, Nat.reduceSub, Nat.reduceLT, Nat.reduceEqDiff, Nat.reduceLeDiff, Nat.reduceBEq, reduceCtorEq, Int.reduceToNat, ↓reduceIte])
  repeat' (first
    | (refine br_go (fun e f => ?_) (fun e f => ?_) <;> (try simp only [BB] at f) <;> (try simp only [numOk, verOk] at f) <;> (try simp (maxSteps := 1000000) (disch := first | omega | (simp only [LN, numOk, verOk] <;> omega) | exact Ck.mk rfl) only [e, VC, T, Nat.reduceMul, Nat.reduceAdd, Nat.reduceSub, Nat.reduceLT, Nat.reduceEqDiff, Nat.reduceLeDiff, Nat.reduceBEq, reduceCtorEq, Int.reduceToNat, ↓reduceIte]) <;> (try clear e))
    | (refine pick_go (fun e f => ?_) (fun e f => ?_) <;> (try simp only [BB] at f) <;> (try simp only [numOk, verOk] at f) <;> (try simp (maxSteps := 1000000) (disch := first | omega | (simp only [LN, numOk, verOk] <;> omega) | exact Ck.mk rfl) only [e, VC, T, Nat.reduceMul, Nat.reduceAdd, Nat.reduceSub, Nat.reduceLT, Nat.reduceEqDiff, Nat.reduceLeDiff, Nat.reduceBEq, reduceCtorEq, Int.reduceToNat, ↓reduceIte]) <;> (try clear e)))
  · have hl : xs.length = ys.length := by omega
    refine lp_go (fun i : Nat => ⟨26, [(0, .far (xs.map .str)), (1, .far (ys.map .str)), (5, .int .i64 i)], []⟩) (fun i => i ≤ xs.length ∧ xs.take i = ys.take i) (fun i => xs.length - i) 0 ?_ ⟨Nat.zero_le _, rfl⟩ ?_
    · (simp (disch := first | omega | (simp only [LN, numOk, verOk] <;> omega) | exact Ck.mk rfl) only [SB, EQ, Nat.reduceMul, Nat.reduceAdd, Nat.reduceSub, Nat.reduceLT, Nat.reduceEqDiff, Nat.reduceLeDiff, Nat.reduceBEq, reduceCtorEq, Int.reduceToNat, ↓reduceIte]; try omega)
    · rintro i ⟨h1, h2⟩ N hN
      (try simp (maxSteps := 1000000) (disch := first | omega | (simp only [LN, numOk, verOk] <;> omega) | exact Ck.mk rfl) only [VC, T, Nat.reduceMul, Nat.reduceAdd, Nat.reduceSub, Nat.reduceLT, Nat.reduceEqDiff, Nat.reduceLeDiff, Nat.reduceBEq, reduceCtorEq, Int.reduceToNat, ↓reduceIte])
      repeat' (first
        | (refine br_go (fun e f => ?_) (fun e f => ?_) <;> (try simp only [BB] at f) <;> (try simp only [numOk, verOk] at f) <;> (try simp (maxSteps := 1000000) (disch := first | omega | (simp only [LN, numOk, verOk] <;> omega) | exact Ck.mk rfl) only [e, VC, T, Nat.reduceMul, Nat.reduceAdd, Nat.reduceSub, Nat.reduceLT, Nat.reduceEqDiff, Nat.reduceLeDiff, Nat.reduceBEq, reduceCtorEq, Int.reduceToNat, ↓reduceIte]) <;> (try clear e))
        | (refine pick_go (fun e f => ?_) (fun e f => ?_) <;> (try simp only [BB] at f) <;> (try simp only [numOk, verOk] at f) <;> (try simp (maxSteps := 1000000) (disch := first | omega | (simp only [LN, numOk, verOk] <;> omega) | exact Ck.mk rfl) only [e, VC, T, Nat.reduceMul, Nat.reduceAdd, Nat.reduceSub, Nat.reduceLT, Nat.reduceEqDiff, Nat.reduceLeDiff, Nat.reduceBEq, reduceCtorEq, Int.reduceToNat, ↓reduceIte]) <;> (try clear e))
        | ((first | refine dr_go mixed (id := 6) [([], [0], []), ([], [5], []), ([0, 1], [17, 18], []), ([0, 1, 2], [19], []), ([], [1], []), ([], [5], []), ([4, 5], [21, 22], []), ([4, 5, 6], [23], []), ([0, 1, 2, 3, 4, 5, 6, 7], [20, 24], [])] rfl rfl rfl ?_); (try simp (maxSteps := 1000000) (disch := first | omega | (simp only [LN, numOk, verOk] <;> omega) | exact Ck.mk rfl) only [VC, T, Nat.reduceMul, Nat.reduceAdd, Nat.reduceSub, Nat.reduceLT, Nat.reduceEqDiff, Nat.reduceLeDiff, Nat.reduceBEq, reduceCtorEq, Int.reduceToNat, ↓reduceIte])))
      · refine hN (i + 1) _ ⟨by omega, eq_step xs ys i hl (by omega) h2 f⟩ (by omega) ?_
        (simp (disch := first | omega | (simp only [LN, numOk, verOk] <;> omega) | exact Ck.mk rfl) only [SB, EQ, Nat.reduceMul, Nat.reduceAdd, Nat.reduceSub, Nat.reduceLT, Nat.reduceEqDiff, Nat.reduceLeDiff, Nat.reduceBEq, reduceCtorEq, Int.reduceToNat, ↓reduceIte]; try omega)
      · rw [decide_eq_false fun h => f (by rw [h])]
      · rw [List.take_of_length_le (by omega), List.take_of_length_le (by omega)] at h2
        rw [decide_eq_true h2]
  · rw [decide_eq_false fun h => f (by rw [h])]
theorem laws_eqInt (xs ys : List Int) (hx : xs.length ≤ 4611686018427387904) : Fn Tryz.prog 31 [.far (xs.map (.int .i64)), .far (ys.map (.int .i64))] [] (.bool (decide (xs = ys))) [] := by
  refine fn_x tok (n := 26) (rs := [.tmp 4]) Tryz.func31 (by decide) rfl rfl rfl rfl ?_
  (try simp (maxSteps := 1000000) (disch := first | omega | (simp only [LN, numOk, verOk] <;> omega) | exact Ck.mk rfl) only [VC, T, Nat.reduceMul, Nat.reduceAdd, Nat.reduceSub, Nat.reduceLT, Nat.reduceEqDiff, Nat.reduceLeDiff, Nat.reduceBEq, reduceCtorEq, Int.reduceToNat, ↓reduceIte])
  repeat' (first
    | (refine br_go (fun e f => ?_) (fun e f => ?_) <;> (try simp only [BB] at f) <;> (try simp only [numOk, verOk] at f) <;> (try simp (maxSteps := 1000000) (disch := first | omega | (simp only [LN, numOk, verOk] <;> omega) | exact Ck.mk rfl) only [e, VC, T, Nat.reduceMul, Nat.reduceAdd, Nat.reduceSub, Nat.reduceLT, Nat.reduceEqDiff, Nat.reduceLeDiff, Nat.reduceBEq, reduceCtorEq, Int.reduceToNat, ↓reduceIte]) <;> (try clear e))
    | (refine pick_go (fun e f => ?_) (fun e f => ?_) <;> (try simp only [BB] at f) <;> (try simp only [numOk, verOk] at f) <;> (try simp (maxSteps := 1000000) (disch := first | omega | (simp only [LN, numOk, verOk] <;> omega) | exact Ck.mk rfl) only [e, VC, T, Nat.reduceMul, Nat.reduceAdd, Nat.reduceSub, Nat.reduceLT, Nat.reduceEqDiff, Nat.reduceLeDiff, Nat.reduceBEq, reduceCtorEq, Int.reduceToNat, ↓reduceIte]) <;> (try clear e)))
  · have hl : xs.length = ys.length := by omega
    refine lp_go (fun i : Nat => ⟨26, [(0, .far (xs.map (.int .i64))), (1, .far (ys.map (.int .i64))), (5, .int .i64 i)], []⟩) (fun i => i ≤ xs.length ∧ xs.take i = ys.take i) (fun i => xs.length - i) 0 ?_ ⟨Nat.zero_le _, rfl⟩ ?_
    · (simp (disch := first | omega | (simp only [LN, numOk, verOk] <;> omega) | exact Ck.mk rfl) only [SB, EQ, Nat.reduceMul, Nat.reduceAdd, Nat.reduceSub, Nat.reduceLT, Nat.reduceEqDiff, Nat.reduceLeDiff, Nat.reduceBEq, reduceCtorEq, Int.reduceToNat, ↓reduceIte]; try omega)
    · rintro i ⟨h1, h2⟩ N hN
      (try simp (maxSteps := 1000000) (disch := first | omega | (simp only [LN, numOk, verOk] <;> omega) | exact Ck.mk rfl) only [VC, T, Nat.reduceMul, Nat.reduceAdd, Nat.reduceSub, Nat.reduceLT, Nat.reduceEqDiff, Nat.reduceLeDiff, Nat.reduceBEq, reduceCtorEq, Int.reduceToNat, ↓reduceIte])
      repeat' (first
        | (refine br_go (fun e f => ?_) (fun e f => ?_) <;> (try simp only [BB] at f) <;> (try simp only [numOk, verOk] at f) <;> (try simp (maxSteps := 1000000) (disch := first | omega | (simp only [LN, numOk, verOk] <;> omega) | exact Ck.mk rfl) only [e, VC, T, Nat.reduceMul, Nat.reduceAdd, Nat.reduceSub, Nat.reduceLT, Nat.reduceEqDiff, Nat.reduceLeDiff, Nat.reduceBEq, reduceCtorEq, Int.reduceToNat, ↓reduceIte]) <;> (try clear e))
        | (refine pick_go (fun e f => ?_) (fun e f => ?_) <;> (try simp only [BB] at f) <;> (try simp only [numOk, verOk] at f) <;> (try simp (maxSteps := 1000000) (disch := first | omega | (simp only [LN, numOk, verOk] <;> omega) | exact Ck.mk rfl) only [e, VC, T, Nat.reduceMul, Nat.reduceAdd, Nat.reduceSub, Nat.reduceLT, Nat.reduceEqDiff, Nat.reduceLeDiff, Nat.reduceBEq, reduceCtorEq, Int.reduceToNat, ↓reduceIte]) <;> (try clear e))
        | ((first | refine dr_go mixed (id := 6) [([], [0], []), ([], [5], []), ([0, 1], [17, 18], []), ([0, 1, 2], [19], []), ([], [1], []), ([], [5], []), ([4, 5], [21, 22], []), ([4, 5, 6], [23], []), ([0, 1, 2, 3, 4, 5, 6, 7], [20, 24], [])] rfl rfl rfl ?_); (try simp (maxSteps := 1000000) (disch := first | omega | (simp only [LN, numOk, verOk] <;> omega) | exact Ck.mk rfl) only [VC, T, Nat.reduceMul, Nat.reduceAdd, Nat.reduceSub, Nat.reduceLT, Nat.reduceEqDiff, Nat.reduceLeDiff, Nat.reduceBEq, reduceCtorEq, Int.reduceToNat, ↓reduceIte])))
      · refine hN (i + 1) _ ⟨by omega, eq_step xs ys i hl (by omega) h2 f⟩ (by omega) ?_
        (simp (disch := first | omega | (simp only [LN, numOk, verOk] <;> omega) | exact Ck.mk rfl) only [SB, EQ, Nat.reduceMul, Nat.reduceAdd, Nat.reduceSub, Nat.reduceLT, Nat.reduceEqDiff, Nat.reduceLeDiff, Nat.reduceBEq, reduceCtorEq, Int.reduceToNat, ↓reduceIte]; try omega)
      · rw [decide_eq_false fun h => f (by rw [h])]
      · rw [List.take_of_length_le (by omega), List.take_of_length_le (by omega)] at h2
        rw [decide_eq_true h2]
  · rw [decide_eq_false fun h => f (by rw [h])]
theorem laws_toStr_R (xs : List ByteArray) (hx : xs.length ≤ 1073741824) : FnE Tryz.prog 52 [.far (xs.map .str)] [] (fun r m => r = .row 64 xs.length ∧ m = [(64, .row ⟨1, 0⟩ (xs.map .str))]) := by
  refine fn_e tok (n := 22) (rs := [.tmp 2]) Tryz.func52 (by decide) rfl rfl rfl rfl (low_of rfl) ?_
  (try simp (maxSteps := 1000000) (disch := first | omega | (simp only [LN, numOk, verOk] <;> omega) | exact Ck.mk rfl) only [VC, T, Nat.reduceMul, Nat.reduceAdd, Nat.reduceSub, Nat.reduceLT, Nat.reduceEqDiff, Nat.reduceLeDiff, Nat.reduceBEq, reduceCtorEq, Int.reduceToNat, ↓reduceIte])
  repeat' (first
    | (refine br_go (fun e f => ?_) (fun e f => ?_) <;> (try simp only [BB] at f) <;> (try simp only [numOk, verOk] at f) <;> (try simp (maxSteps := 1000000) (disch := first | omega | (simp only [LN, numOk, verOk] <;> omega) | exact Ck.mk rfl) only [e, VC, T, Nat.reduceMul, Nat.reduceAdd, Nat.reduceSub, Nat.reduceLT, Nat.reduceEqDiff, Nat.reduceLeDiff, Nat.reduceBEq, reduceCtorEq, Int.reduceToNat, ↓reduceIte]) <;> (try clear e))
    | (refine pick_go (fun e f => ?_) (fun e f => ?_) <;> (try simp only [BB] at f) <;> (try simp only [numOk, verOk] at f) <;> (try simp (maxSteps := 1000000) (disch := first | omega | (simp only [LN, numOk, verOk] <;> omega) | exact Ck.mk rfl) only [e, VC, T, Nat.reduceMul, Nat.reduceAdd, Nat.reduceSub, Nat.reduceLT, Nat.reduceEqDiff, Nat.reduceLeDiff, Nat.reduceBEq, reduceCtorEq, Int.reduceToNat, ↓reduceIte]) <;> (try clear e)))
  refine lp_go (fun i : Nat => ⟨22, [(0, .far (xs.map .str)), (3, .row 512 xs.length), (4, .int .i64 i)], [(512, .row ⟨1, 0⟩ ((xs.take i ++ List.replicate (xs.length - i) (⟨#[]⟩ : ByteArray)).map .str))]⟩) (fun i => i ≤ xs.length) (fun i => xs.length - i) 0 ?_ (Nat.zero_le _) ?_
  · (simp (disch := first | omega | (simp only [LN, numOk, verOk] <;> omega) | exact Ck.mk rfl) only [SB, EQ, Nat.reduceMul, Nat.reduceAdd, Nat.reduceSub, Nat.reduceLT, Nat.reduceEqDiff, Nat.reduceLeDiff, Nat.reduceBEq, reduceCtorEq, Int.reduceToNat, ↓reduceIte]; try omega)
    first | (simp; done) | (simp; exact .inr rfl)
  · intro i hi N hN
    have hs := row_step xs (⟨#[]⟩ : ByteArray) xs.length i rfl
    have hln : (xs.take i ++ List.replicate (xs.length - i) (⟨#[]⟩ : ByteArray)).length = xs.length := by rw [List.length_append, List.length_take, List.length_replicate]; omega
    (try simp (maxSteps := 1000000) (disch := first | omega | (simp only [LN, numOk, verOk, hln, hs] <;> omega) | exact Ck.mk rfl) only [VC, T, Nat.reduceMul, Nat.reduceAdd, Nat.reduceSub, Nat.reduceLT, Nat.reduceEqDiff, Nat.reduceLeDiff, Nat.reduceBEq, reduceCtorEq, Int.reduceToNat, ↓reduceIte, hln, hs])
    repeat' (first
      | (refine br_go (fun e f => ?_) (fun e f => ?_) <;> (try simp only [BB] at f) <;> (try simp only [numOk, verOk] at f) <;> (try simp (maxSteps := 1000000) (disch := first | omega | (simp only [LN, numOk, verOk, hln, hs] <;> omega) | exact Ck.mk rfl) only [e, VC, T, Nat.reduceMul, Nat.reduceAdd, Nat.reduceSub, Nat.reduceLT, Nat.reduceEqDiff, Nat.reduceLeDiff, Nat.reduceBEq, reduceCtorEq, Int.reduceToNat, ↓reduceIte, hln, hs]) <;> (try clear e))
      | (refine pick_go (fun e f => ?_) (fun e f => ?_) <;> (try simp only [BB] at f) <;> (try simp only [numOk, verOk] at f) <;> (try simp (maxSteps := 1000000) (disch := first | omega | (simp only [LN, numOk, verOk, hln, hs] <;> omega) | exact Ck.mk rfl) only [e, VC, T, Nat.reduceMul, Nat.reduceAdd, Nat.reduceSub, Nat.reduceLT, Nat.reduceEqDiff, Nat.reduceLeDiff, Nat.reduceBEq, reduceCtorEq, Int.reduceToNat, ↓reduceIte, hln, hs]) <;> (try clear e)))
    · refine hN (i + 1) _ (by omega) (by omega) ?_
      (simp (disch := first | omega | (simp only [LN, numOk, verOk] <;> omega) | exact Ck.mk rfl) only [SB, EQ, Nat.reduceMul, Nat.reduceAdd, Nat.reduceSub, Nat.reduceLT, Nat.reduceEqDiff, Nat.reduceLeDiff, Nat.reduceBEq, reduceCtorEq, Int.reduceToNat, ↓reduceIte]; try omega)
    · obtain rfl : i = xs.length := by omega
      exact fin_t [some 512] (⟨rfl, rfl⟩) rfl (by simp [RV, RV2, RVl, RV1, tau, tget, hget, data1, oneOf]) (by simp [RH, RVl, RV1, tau, hget, data1]) (by simp [Taus, hget])
theorem laws_toStr (xs : List ByteArray) (hx : xs.length ≤ 1073741824) : Fn Tryz.prog 52 [.far (xs.map .str)] [] (.far (xs.map .str)) [] := by
  obtain ⟨_, _, ⟨rfl, rfl⟩, h⟩ := laws_toStr_R xs hx
  refine h.far ?_
  simp [fz, fz2, fz1, cvtl, elems, hget, data1]
end Go.Pv

/- What functions of the program and of the reference do, in plain values. -/
namespace Go.Pv
open Go.Proofs Go.Mth
set_option linter.unusedSimpArgs false
set_option linter.unusedVariables false
set_option maxHeartbeats 4000000

/-! ### laws over slices: how much there is, heads -/
def sumSz (l : List ByteArray) : Int := l.foldr (fun s n => (s.size : Int) + n) 0
theorem sumSz_nil : sumSz [] = 0 := rfl
theorem sumSz_cons (s : ByteArray) (l : List ByteArray) : sumSz (s :: l) = s.size + sumSz l := rfl
theorem sumSz_pos (l : List ByteArray) : 0 ≤ sumSz l := by
  induction l with
  | nil => exact Int.le_refl _
  | cons s l ih => rw [sumSz_cons]; omega
theorem sumSz_mem : ∀ {l : List ByteArray} {s : ByteArray}, s ∈ l → (s.size : Int) ≤ sumSz l
  | x :: l, s, h => by
    rw [sumSz_cons]
    rcases List.mem_cons.1 h with rfl | h
    · have := sumSz_pos l; omega
    · have := sumSz_mem h; omega
theorem sumSz_drop (l : List ByteArray) (i : Nat) (h : i < l.length) : sumSz (l.drop i) = (l.getD i default).size + sumSz (l.drop (i + 1)) := by
  rw [List.drop_eq_getElem_cons h, List.getD_eq_getElem?_getD, List.getElem?_eq_getElem h]; rfl
/-- What is left, if anything is. -/
theorem laws_szStringS (xs : List ByteArray) (n : Int) (hn : 0 ≤ n ∧ n ≤ 1048576) (hx : xs.length ≤ 9223372036854775807) (hs : ∀ s ∈ xs, s.size ≤ 9223372036854775807) : FnV Tryz.prog 48 [.far (xs.map .str), .int .i64 n] (fun r => ∃ m : Int, r = .int .i64 m ∧ (0 ≤ m → m = n - xs.length - sumSz xs) ∧ -1 ≤ m ∧ m ≤ n) := by
  refine fn_v tok (n := 28) (rs := [.tmp 4]) Tryz.func48 (by decide) rfl rfl rfl rfl ?_
  (try simp (maxSteps := 1000000) (disch := first | omega | (simp only [LN, numOk, verOk, rfP, rvP, rhP, frP] <;> omega) | exact Ck.mk rfl) only [VC, T, Nat.reduceMul, Nat.reduceAdd, Nat.reduceSub, Nat.reduceLT, Nat.reduceEqDiff, Nat.reduceLeDiff, Nat.reduceBEq, reduceCtorEq, Int.reduceToNat, ↓reduceIte, rfP, rvP, rhP, frP])
  repeat' (first
    | (refine br_go (fun e f => ?_) (fun e f => ?_) <;> (try simp only [BB] at f) <;> (try simp only [numOk, verOk] at f) <;> (try simp (maxSteps := 1000000) (disch := first | omega | (simp only [LN, numOk, verOk, rfP, rvP, rhP, frP] <;> omega) | exact Ck.mk rfl) only [e, VC, T, Nat.reduceMul, Nat.reduceAdd, Nat.reduceSub, Nat.reduceLT, Nat.reduceEqDiff, Nat.reduceLeDiff, Nat.reduceBEq, reduceCtorEq, Int.reduceToNat, ↓reduceIte, rfP, rvP, rhP, frP]) <;> (try clear e))
    | (refine pick_go (fun e f => ?_) (fun e f => ?_) <;> (try simp only [BB] at f) <;> (try simp only [numOk, verOk] at f) <;> (try simp (maxSteps := 1000000) (disch := first | omega | (simp only [LN, numOk, verOk, rfP, rvP, rhP, frP] <;> omega) | exact Ck.mk rfl) only [e, VC, T, Nat.reduceMul, Nat.reduceAdd, Nat.reduceSub, Nat.reduceLT, Nat.reduceEqDiff, Nat.reduceLeDiff, Nat.reduceBEq, reduceCtorEq, Int.reduceToNat, ↓reduceIte, rfP, rvP, rhP, frP]) <;> (try clear e)))
  · exact ⟨-1, rfl, fun h => by omega, by omega, by omega⟩
  · refine lp_go (fun x : Nat × Int => ⟨28, [(0, .far (xs.map .str)), (1, .int .i64 x.2), (5, .int .i64 x.1)], []⟩) (fun x => x.1 ≤ xs.length ∧ (0 ≤ x.2 ∧ x.2 ≤ n) ∧ n - xs.length - sumSz xs = x.2 - sumSz (xs.drop x.1)) (fun x => xs.length - x.1) (0, n - xs.length) ?_ ⟨Nat.zero_le _, by simp only; omega, rfl⟩ ?_
    · (simp (disch := first | omega | (simp only [LN, numOk, verOk] <;> omega) | exact Ck.mk rfl) only [SB, EQ, Nat.reduceMul, Nat.reduceAdd, Nat.reduceSub, Nat.reduceLT, Nat.reduceEqDiff, Nat.reduceLeDiff, Nat.reduceBEq, reduceCtorEq, Int.reduceToNat, ↓reduceIte]; try omega)
    · rintro ⟨i, m⟩ ⟨h1, h2, h3⟩ N hN
      simp only at h1 h2 h3
      have hd := sumSz_drop xs i
      have hz : i < xs.length → (xs.getD i default).size ≤ 9223372036854775807 := fun h => hs _ (getD_mem _ _ h)
      have hp := sumSz_pos (xs.drop (i + 1))
      (try simp (maxSteps := 1000000) (disch := first | omega | (simp only [LN, numOk, verOk, rfP, rvP, rhP, frP] <;> omega) | exact Ck.mk rfl) only [VC, T, Nat.reduceMul, Nat.reduceAdd, Nat.reduceSub, Nat.reduceLT, Nat.reduceEqDiff, Nat.reduceLeDiff, Nat.reduceBEq, reduceCtorEq, Int.reduceToNat, ↓reduceIte, rfP, rvP, rhP, frP])
      repeat' (first
        | (refine br_go (fun e f => ?_) (fun e f => ?_) <;> (try simp only [BB] at f) <;> (try simp only [numOk, verOk] at f) <;> (try simp (maxSteps := 1000000) (disch := first | omega | (simp only [LN, numOk, verOk, rfP, rvP, rhP, frP] <;> omega) | exact Ck.mk rfl) only [e, VC, T, Nat.reduceMul, Nat.reduceAdd, Nat.reduceSub, Nat.reduceLT, Nat.reduceEqDiff, Nat.reduceLeDiff, Nat.reduceBEq, reduceCtorEq, Int.reduceToNat, ↓reduceIte, rfP, rvP, rhP, frP]) <;> (try clear e))
        | (refine pick_go (fun e f => ?_) (fun e f => ?_) <;> (try simp only [BB] at f) <;> (try simp only [numOk, verOk] at f) <;> (try simp (maxSteps := 1000000) (disch := first | omega | (simp only [LN, numOk, verOk, rfP, rvP, rhP, frP] <;> omega) | exact Ck.mk rfl) only [e, VC, T, Nat.reduceMul, Nat.reduceAdd, Nat.reduceSub, Nat.reduceLT, Nat.reduceEqDiff, Nat.reduceLeDiff, Nat.reduceBEq, reduceCtorEq, Int.reduceToNat, ↓reduceIte, rfP, rvP, rhP, frP]) <;> (try clear e)))
      · exact ⟨-1, rfl, fun h => by omega, by omega, by omega⟩
      · refine hN (i + 1, m - (xs.getD i default).size) _ ⟨by simp only; omega, ⟨by simp only; omega, by simp only; omega⟩, by simp only; have := hd (by omega); omega⟩ (by simp only; omega) ?_
        (simp (disch := first | omega | (simp only [LN, numOk, verOk] <;> omega) | exact Ck.mk rfl) only [SB, EQ, Nat.reduceMul, Nat.reduceAdd, Nat.reduceSub, Nat.reduceLT, Nat.reduceEqDiff, Nat.reduceLeDiff, Nat.reduceBEq, reduceCtorEq, Int.reduceToNat, ↓reduceIte]; try omega)
      · rw [List.drop_eq_nil_of_le (by omega), sumSz_nil] at h3
        exact ⟨m, rfl, fun _ => by omega, by omega, by omega⟩
def pfor (i : Int) : List (Int × Int) → (Int × Int) × Bool
  | [] => ((0, 0), false)
  | p :: l => if (pfor i l).2 = true then pfor i l else if p.1 ≤ i then (p, true) else ((0, 0), false)
theorem pfor_snoc (i : Int) (l : List (Int × Int)) (p : Int × Int) : pfor i (l ++ [p]) = if p.1 ≤ i then (p, true) else pfor i l := by
  induction l with
  | nil => simp [pfor]
  | cons q l ih =>
    rw [List.cons_append]
    unfold pfor
    rw [ih]
    by_cases h : p.1 ≤ i
    · simp [h]
    · simp [h]
def pfP (x : (Int × Int) × Bool) : PV := .tup [.agg [.int .i64 x.1.1, .int .i64 x.1.2], .bool x.2]
end Go.Pv

/- What functions of the program and of the reference do, in plain values. -/
namespace Go.Pv
open Go.Proofs Go.Mth
set_option linter.unusedSimpArgs false
set_option linter.unusedVariables false
set_option maxHeartbeats 4000000
set_option maxRecDepth 4000

/-! ### the laws' own functions: marks -/
/-- The decimal figures of a number, ahead of what is there. -/
def digs : Nat → Nat → ByteArray → ByteArray
  | 0, _, o => o
  | d + 1, k, o => if k = 0 then o else digs d (k / 10) (strOf [48 + ((k % 10 : Nat) : Int)] ++ o)
def markT (k : Int) : ByteArray := if k ≤ 0 then ⟨#[109, 48]⟩ else ⟨#[109]⟩ ++ digs 20 k.toNat ⟨#[]⟩
theorem laws_markText (k : Int) (hk : k ≤ 9223372036854775807) : Fn Tryz.prog 60 [.int .i64 k] [] (.str (markT k)) [] := by
  refine fn_x tok (n := 20) (rs := [.tmp 2]) Tryz.func60 (by decide) rfl rfl rfl rfl ?_
  (try simp (maxSteps := 1000000) (disch := first | omega | (simp only [LN, numOk, verOk, rfP, rvP, rhP, frP] <;> omega) | exact Ck.mk rfl) only [VC, T, Nat.reduceMul, Nat.reduceAdd, Nat.reduceSub, Nat.reduceLT, Nat.reduceEqDiff, Nat.reduceLeDiff, Nat.reduceBEq, reduceCtorEq, Int.reduceToNat, ↓reduceIte, rfP, rvP, rhP, frP])
  repeat' (first
    | (refine br_go (fun e f => ?_) (fun e f => ?_) <;> (try simp only [BB] at f) <;> (try simp only [numOk, verOk] at f) <;> (try simp (maxSteps := 1000000) (disch := first | omega | (simp only [LN, numOk, verOk, rfP, rvP, rhP, frP] <;> omega) | exact Ck.mk rfl) only [e, VC, T, Nat.reduceMul, Nat.reduceAdd, Nat.reduceSub, Nat.reduceLT, Nat.reduceEqDiff, Nat.reduceLeDiff, Nat.reduceBEq, reduceCtorEq, Int.reduceToNat, ↓reduceIte, rfP, rvP, rhP, frP]) <;> (try clear e))
    | (refine pick_go (fun e f => ?_) (fun e f => ?_) <;> (try simp only [BB] at f) <;> (try simp only [numOk, verOk] at f) <;> (try simp (maxSteps := 1000000) (disch := first | omega | (simp only [LN, numOk, verOk, rfP, rvP, rhP, frP] <;> omega) | exact Ck.mk rfl) only [e, VC, T, Nat.reduceMul, Nat.reduceAdd, Nat.reduceSub, Nat.reduceLT, Nat.reduceEqDiff, Nat.reduceLeDiff, Nat.reduceBEq, reduceCtorEq, Int.reduceToNat, ↓reduceIte, rfP, rvP, rhP, frP]) <;> (try clear e)))
  · unfold markT; rw [if_pos f]
  · unfold markT
    rw [if_neg (by omega)]
    obtain ⟨n, rfl⟩ := Int.eq_ofNat_of_zero_le (show 0 ≤ k by omega)
    refine lp_go (fun x : Nat × Nat × ByteArray => ⟨20, [(0, .int .i64 x.2.1), (3, .str x.2.2)], []⟩) (fun x => (x.2.1 < 10 ^ x.1 ∧ x.2.1 ≤ n) ∧ x.2.2.size + x.1 ≤ 20 ∧ digs 20 n ⟨#[]⟩ = digs x.1 x.2.1 x.2.2) (fun x => x.2.1) (20, n, ⟨#[]⟩) ?_ ⟨⟨by simp only; omega, Nat.le_refl _⟩, Nat.le_refl _, rfl⟩ ?_
    · (simp (disch := first | omega | (simp only [LN, numOk, verOk] <;> omega) | exact Ck.mk rfl) only [SB, EQ, Nat.reduceMul, Nat.reduceAdd, Nat.reduceSub, Nat.reduceLT, Nat.reduceEqDiff, Nat.reduceLeDiff, Nat.reduceBEq, reduceCtorEq, Int.reduceToNat, ↓reduceIte]; try omega)
    · rintro ⟨d, m, o⟩ ⟨h1, h2, h3⟩ N hN
      simp only at h1 h2 h3
      have e1 : (m : Int).tmod 10 = ((m % 10 : Nat) : Int) := by rw [Int.tmod_eq_emod_of_nonneg (by omega)]; omega
      have e2 : (m : Int).tdiv 10 = ((m / 10 : Nat) : Int) := by rw [Int.tdiv_eq_ediv_of_nonneg (by omega)]; omega
      have e3 : (48 + ((m % 10 : Nat) : Int)) % 256 = 48 + ((m % 10 : Nat) : Int) := by omega
      have e4 : ∀ z : Int, strP [.int .u8 z] = strOf [z] := fun z => rfl
      have e5 : (∀ z ∈ [PV.int .u8 (48 + ((m % 10 : Nat) : Int))], isByte z) = True := eq_true fun z hz => by rw [List.mem_singleton.1 hz]; exact ⟨by omega, by omega⟩
      have hz := strOf_size [48 + ((m % 10 : Nat) : Int)]
      have hm : 0 < m → ∃ e, d = e + 1 := fun h => by
        cases d with
        | zero => simp at h1; omega
        | succ e => exact ⟨e, rfl⟩
      (try simp (maxSteps := 1000000) (disch := first | omega | (simp only [LN, numOk, verOk, rfP, rvP, rhP, frP, e1, e2, e3, e4, e5, hz] <;> omega) | exact Ck.mk rfl) only [VC, T, Nat.reduceMul, Nat.reduceAdd, Nat.reduceSub, Nat.reduceLT, Nat.reduceEqDiff, Nat.reduceLeDiff, Nat.reduceBEq, reduceCtorEq, Int.reduceToNat, ↓reduceIte, rfP, rvP, rhP, frP, e1, e2, e3, e4, e5, hz])
      repeat' (first
        | (refine br_go (fun e f => ?_) (fun e f => ?_) <;> (try simp only [BB] at f) <;> (try simp only [numOk, verOk] at f) <;> (try simp (maxSteps := 1000000) (disch := first | omega | (simp only [LN, numOk, verOk, rfP, rvP, rhP, frP, e1, e2, e3, e4, e5, hz] <;> omega) | exact Ck.mk rfl) only [e, VC, T, Nat.reduceMul, Nat.reduceAdd, Nat.reduceSub, Nat.reduceLT, Nat.reduceEqDiff, Nat.reduceLeDiff, Nat.reduceBEq, reduceCtorEq, Int.reduceToNat, ↓reduceIte, rfP, rvP, rhP, frP, e1, e2, e3, e4, e5, hz]) <;> (try clear e))
        | (refine pick_go (fun e f => ?_) (fun e f => ?_) <;> (try simp only [BB] at f) <;> (try simp only [numOk, verOk] at f) <;> (try simp (maxSteps := 1000000) (disch := first | omega | (simp only [LN, numOk, verOk, rfP, rvP, rhP, frP, e1, e2, e3, e4, e5, hz] <;> omega) | exact Ck.mk rfl) only [e, VC, T, Nat.reduceMul, Nat.reduceAdd, Nat.reduceSub, Nat.reduceLT, Nat.reduceEqDiff, Nat.reduceLeDiff, Nat.reduceBEq, reduceCtorEq, Int.reduceToNat, ↓reduceIte, rfP, rvP, rhP, frP, e1, e2, e3, e4, e5, hz]) <;> (try clear e)))
      · obtain ⟨e, rfl⟩ := hm (by omega)
        refine hN (e, m / 10, strOf [48 + ((m % 10 : Nat) : Int)] ++ o) _ ⟨⟨by simp only; rw [Nat.pow_succ] at h1; omega, by simp only; omega⟩, by simp only [ByteArray.size_append]; rw [hz, List.length_singleton]; omega, ?_⟩ (by simp only; omega) ?_
        · rw [h3]
          show (if m = 0 then o else _) = _
          rw [if_neg (by omega)]
        · (simp (disch := first | omega | (simp only [LN, numOk, verOk] <;> omega) | exact Ck.mk rfl) only [SB, EQ, Nat.reduceMul, Nat.reduceAdd, Nat.reduceSub, Nat.reduceLT, Nat.reduceEqDiff, Nat.reduceLeDiff, Nat.reduceBEq, reduceCtorEq, Int.reduceToNat, ↓reduceIte]; try omega)
      · obtain rfl : m = 0 := by omega
        rw [h3]
        cases d <;> rfl
theorem mark_step1 (xs : List Int) (k : Int) (i : Nat) (hi : i < xs.length) : (seqL i k ++ xs.drop i).set i (k + i) = seqL (i + 1) k ++ xs.drop (i + 1) := by
  have := mark_step (fun x => x) xs k i hi
  simpa using this
theorem laws_markIntS (xs : List Int) (k : Int) (hx : xs.length ≤ 1073741824) (hk : 0 ≤ k ∧ k ≤ 1099511627776) (t : TypeId) : FnE Tryz.prog 32 [.row 0 xs.length, .int .i64 k] [(0, .row ⟨1, t⟩ (xs.map (.int .i64)))] (fun r m => r = .int .i64 (k + xs.length) ∧ m = [(0, .row ⟨1, t⟩ ((seqL xs.length k).map (.int .i64)))]) := by
  refine fn_e tok (n := 19) (rs := [.tmp 4]) Tryz.func32 (by decide) rfl rfl rfl rfl (low_of rfl) ?_
  (try simp (maxSteps := 1000000) (disch := first | omega | (simp only [LN, numOk, verOk, rfP, rvP, rhP, frP] <;> omega) | exact Ck.mk rfl) only [VC, T, Nat.reduceMul, Nat.reduceAdd, Nat.reduceSub, Nat.reduceLT, Nat.reduceEqDiff, Nat.reduceLeDiff, Nat.reduceBEq, reduceCtorEq, Int.reduceToNat, ↓reduceIte, rfP, rvP, rhP, frP])
  repeat' (first
    | (refine br_go (fun e f => ?_) (fun e f => ?_) <;> (try simp only [BB] at f) <;> (try simp only [numOk, verOk] at f) <;> (try simp (maxSteps := 1000000) (disch := first | omega | (simp only [LN, numOk, verOk, rfP, rvP, rhP, frP] <;> omega) | exact Ck.mk rfl) only [e, VC, T, Nat.reduceMul, Nat.reduceAdd, Nat.reduceSub, Nat.reduceLT, Nat.reduceEqDiff, Nat.reduceLeDiff, Nat.reduceBEq, reduceCtorEq, Int.reduceToNat, ↓reduceIte, rfP, rvP, rhP, frP]) <;> (try clear e))
    | (refine pick_go (fun e f => ?_) (fun e f => ?_) <;> (try simp only [BB] at f) <;> (try simp only [numOk, verOk] at f) <;> (try simp (maxSteps := 1000000) (disch := first | omega | (simp only [LN, numOk, verOk, rfP, rvP, rhP, frP] <;> omega) | exact Ck.mk rfl) only [e, VC, T, Nat.reduceMul, Nat.reduceAdd, Nat.reduceSub, Nat.reduceLT, Nat.reduceEqDiff, Nat.reduceLeDiff, Nat.reduceBEq, reduceCtorEq, Int.reduceToNat, ↓reduceIte, rfP, rvP, rhP, frP]) <;> (try clear e)))
  refine lp_go (fun i : Nat => ⟨19, [(0, .row 0 xs.length), (1, .int .i64 (k + i)), (5, .int .i64 i)], [(0, .row ⟨1, t⟩ ((seqL i k ++ xs.drop i).map (.int .i64)))]⟩) (fun i => i ≤ xs.length) (fun i => xs.length - i) 0 ?_ (Nat.zero_le _) ?_
  · (simp (disch := first | omega | (simp only [LN, numOk, verOk] <;> omega) | exact Ck.mk rfl) only [SB, EQ, Nat.reduceMul, Nat.reduceAdd, Nat.reduceSub, Nat.reduceLT, Nat.reduceEqDiff, Nat.reduceLeDiff, Nat.reduceBEq, reduceCtorEq, Int.reduceToNat, ↓reduceIte]; try omega)
    simp [seqL]
  · intro i hi N hN
    have hln : (seqL i k ++ xs.drop i).length = xs.length := by rw [List.length_append, seqL_length, List.length_drop]; omega
    have hm := mark_step1 xs k i
    (try simp (maxSteps := 1000000) (disch := first | omega | (simp only [LN, numOk, verOk, rfP, rvP, rhP, frP, hln, hm] <;> omega) | exact Ck.mk rfl) only [VC, T, Nat.reduceMul, Nat.reduceAdd, Nat.reduceSub, Nat.reduceLT, Nat.reduceEqDiff, Nat.reduceLeDiff, Nat.reduceBEq, reduceCtorEq, Int.reduceToNat, ↓reduceIte, rfP, rvP, rhP, frP, hln, hm])
    repeat' (first
      | (refine br_go (fun e f => ?_) (fun e f => ?_) <;> (try simp only [BB] at f) <;> (try simp only [numOk, verOk] at f) <;> (try simp (maxSteps := 1000000) (disch := first | omega | (simp only [LN, numOk, verOk, rfP, rvP, rhP, frP, hln, hm] <;> omega) | exact Ck.mk rfl) only [e, VC, T, Nat.reduceMul, Nat.reduceAdd, Nat.reduceSub, Nat.reduceLT, Nat.reduceEqDiff, Nat.reduceLeDiff, Nat.reduceBEq, reduceCtorEq, Int.reduceToNat, ↓reduceIte, rfP, rvP, rhP, frP, hln, hm]) <;> (try clear e))
      | (refine pick_go (fun e f => ?_) (fun e f => ?_) <;> (try simp only [BB] at f) <;> (try simp only [numOk, verOk] at f) <;> (try simp (maxSteps := 1000000) (disch := first | omega | (simp only [LN, numOk, verOk, rfP, rvP, rhP, frP, hln, hm] <;> omega) | exact Ck.mk rfl) only [e, VC, T, Nat.reduceMul, Nat.reduceAdd, Nat.reduceSub, Nat.reduceLT, Nat.reduceEqDiff, Nat.reduceLeDiff, Nat.reduceBEq, reduceCtorEq, Int.reduceToNat, ↓reduceIte, rfP, rvP, rhP, frP, hln, hm]) <;> (try clear e)))
    · refine hN (i + 1) _ (by omega) (by omega) ?_
      (simp (disch := first | omega | (simp only [LN, numOk, verOk] <;> omega) | exact Ck.mk rfl) only [SB, EQ, Nat.reduceMul, Nat.reduceAdd, Nat.reduceSub, Nat.reduceLT, Nat.reduceEqDiff, Nat.reduceLeDiff, Nat.reduceBEq, reduceCtorEq, Int.reduceToNat, ↓reduceIte]; try omega)
    · obtain rfl : i = xs.length := by omega
      exact fin_t [] (⟨rfl, rfl⟩) rfl (by simp [RV, RV2, RVl, RV1, tau, tget, hget, data1, oneOf]) (by simp [RH, RVl, RV1, tau, hget, data1]) (by simp [Taus, hget])
theorem laws_markStringS (xs : List ByteArray) (k : Int) (hx : xs.length ≤ 1073741824) (hk : 0 ≤ k ∧ k ≤ 1099511627776) (t : TypeId) : FnE Tryz.prog 25 [.row 0 xs.length, .int .i64 k] [(0, .row ⟨1, t⟩ (xs.map .str))] (fun r m => r = .int .i64 (k + xs.length) ∧ m = [(0, .row ⟨1, t⟩ (((seqL xs.length k).map markT).map .str))]) := by
  refine fn_e tok (n := 20) (rs := [.tmp 4]) Tryz.func25 (by decide) rfl rfl rfl rfl (low_of rfl) ?_
  (try simp (maxSteps := 1000000) (disch := first | omega | (simp only [LN, numOk, verOk, rfP, rvP, rhP, frP] <;> omega) | exact Ck.mk rfl) only [VC, T, Nat.reduceMul, Nat.reduceAdd, Nat.reduceSub, Nat.reduceLT, Nat.reduceEqDiff, Nat.reduceLeDiff, Nat.reduceBEq, reduceCtorEq, Int.reduceToNat, ↓reduceIte, rfP, rvP, rhP, frP])
  repeat' (first
    | (refine br_go (fun e f => ?_) (fun e f => ?_) <;> (try simp only [BB] at f) <;> (try simp only [numOk, verOk] at f) <;> (try simp (maxSteps := 1000000) (disch := first | omega | (simp only [LN, numOk, verOk, rfP, rvP, rhP, frP] <;> omega) | exact Ck.mk rfl) only [e, VC, T, Nat.reduceMul, Nat.reduceAdd, Nat.reduceSub, Nat.reduceLT, Nat.reduceEqDiff, Nat.reduceLeDiff, Nat.reduceBEq, reduceCtorEq, Int.reduceToNat, ↓reduceIte, rfP, rvP, rhP, frP]) <;> (try clear e))
    | (refine pick_go (fun e f => ?_) (fun e f => ?_) <;> (try simp only [BB] at f) <;> (try simp only [numOk, verOk] at f) <;> (try simp (maxSteps := 1000000) (disch := first | omega | (simp only [LN, numOk, verOk, rfP, rvP, rhP, frP] <;> omega) | exact Ck.mk rfl) only [e, VC, T, Nat.reduceMul, Nat.reduceAdd, Nat.reduceSub, Nat.reduceLT, Nat.reduceEqDiff, Nat.reduceLeDiff, Nat.reduceBEq, reduceCtorEq, Int.reduceToNat, ↓reduceIte, rfP, rvP, rhP, frP]) <;> (try clear e)))
  refine lp_go (fun i : Nat => ⟨20, [(0, .row 0 xs.length), (1, .int .i64 (k + i)), (5, .int .i64 i)], [(0, .row ⟨1, t⟩ (((seqL i k).map markT ++ xs.drop i).map .str))]⟩) (fun i => i ≤ xs.length) (fun i => xs.length - i) 0 ?_ (Nat.zero_le _) ?_
  · (simp (disch := first | omega | (simp only [LN, numOk, verOk] <;> omega) | exact Ck.mk rfl) only [SB, EQ, Nat.reduceMul, Nat.reduceAdd, Nat.reduceSub, Nat.reduceLT, Nat.reduceEqDiff, Nat.reduceLeDiff, Nat.reduceBEq, reduceCtorEq, Int.reduceToNat, ↓reduceIte]; try omega)
    simp [seqL]
  · intro i hi N hN
    have hln : ((seqL i k).map markT ++ xs.drop i).length = xs.length := by rw [List.length_append, List.length_map, seqL_length, List.length_drop]; omega
    have hm := mark_step markT xs k i
    (try simp (maxSteps := 1000000) (disch := first | omega | (simp only [LN, numOk, verOk, rfP, rvP, rhP, frP, hln, hm] <;> omega) | exact Ck.mk rfl) only [VC, T, Nat.reduceMul, Nat.reduceAdd, Nat.reduceSub, Nat.reduceLT, Nat.reduceEqDiff, Nat.reduceLeDiff, Nat.reduceBEq, reduceCtorEq, Int.reduceToNat, ↓reduceIte, rfP, rvP, rhP, frP, hln, hm])
    repeat' (first
      | (refine br_go (fun e f => ?_) (fun e f => ?_) <;> (try simp only [BB] at f) <;> (try simp only [numOk, verOk] at f) <;> (try simp (maxSteps := 1000000) (disch := first | omega | (simp only [LN, numOk, verOk, rfP, rvP, rhP, frP, hln, hm] <;> omega) | exact Ck.mk rfl) only [e, VC, T, Nat.reduceMul, Nat.reduceAdd, Nat.reduceSub, Nat.reduceLT, Nat.reduceEqDiff, Nat.reduceLeDiff, Nat.reduceBEq, reduceCtorEq, Int.reduceToNat, ↓reduceIte, rfP, rvP, rhP, frP, hln, hm]) <;> (try clear e))
      | (refine pick_go (fun e f => ?_) (fun e f => ?_) <;> (try simp only [BB] at f) <;> (try simp only [numOk, verOk] at f) <;> (try simp (maxSteps := 1000000) (disch := first | omega | (simp only [LN, numOk, verOk, rfP, rvP, rhP, frP, hln, hm] <;> omega) | exact Ck.mk rfl) only [e, VC, T, Nat.reduceMul, Nat.reduceAdd, Nat.reduceSub, Nat.reduceLT, Nat.reduceEqDiff, Nat.reduceLeDiff, Nat.reduceBEq, reduceCtorEq, Int.reduceToNat, ↓reduceIte, rfP, rvP, rhP, frP, hln, hm]) <;> (try clear e))
      | ((first | refine call_x (laws_markText _ (by omega)) rfl ⟨rfl⟩ ?_); (try simp (maxSteps := 1000000) (disch := first | omega | (simp only [LN, numOk, verOk, rfP, rvP, rhP, frP, hln, hm] <;> omega) | exact Ck.mk rfl) only [VC, T, Nat.reduceMul, Nat.reduceAdd, Nat.reduceSub, Nat.reduceLT, Nat.reduceEqDiff, Nat.reduceLeDiff, Nat.reduceBEq, reduceCtorEq, Int.reduceToNat, ↓reduceIte, rfP, rvP, rhP, frP, hln, hm])))
    · refine hN (i + 1) _ (by omega) (by omega) ?_
      (simp (disch := first | omega | (simp only [LN, numOk, verOk] <;> omega) | exact Ck.mk rfl) only [SB, EQ, Nat.reduceMul, Nat.reduceAdd, Nat.reduceSub, Nat.reduceLT, Nat.reduceEqDiff, Nat.reduceLeDiff, Nat.reduceBEq, reduceCtorEq, Int.reduceToNat, ↓reduceIte]; try omega)
    · obtain rfl : i = xs.length := by omega
      exact fin_t [] (⟨rfl, rfl⟩) rfl (by simp [RV, RV2, RVl, RV1, tau, tget, hget, data1, oneOf]) (by simp [RH, RVl, RV1, tau, hget, data1]) (by simp [Taus, hget])
theorem laws_heldIntS (n : Nat) (k : Int) (hx : n ≤ 1073741824) (hk : 0 ≤ k ∧ k ≤ 1099511627776) : Fn Tryz.prog 33 [.far ((seqL n k).map (.int .i64)), .int .i64 k] [] (.int .i64 (k + n)) [] := by
  have hl := seqL_length n k
  refine fn_x tok (n := 21) (rs := [.tmp 4]) Tryz.func33 (by decide) rfl rfl rfl rfl ?_
  (try simp (maxSteps := 1000000) (disch := first | omega | (simp only [LN, numOk, verOk, rfP, rvP, rhP, frP, hl] <;> omega) | exact Ck.mk rfl) only [VC, T, Nat.reduceMul, Nat.reduceAdd, Nat.reduceSub, Nat.reduceLT, Nat.reduceEqDiff, Nat.reduceLeDiff, Nat.reduceBEq, reduceCtorEq, Int.reduceToNat, ↓reduceIte, rfP, rvP, rhP, frP, hl])
  repeat' (first
    | (refine br_go (fun e f => ?_) (fun e f => ?_) <;> (try simp only [BB] at f) <;> (try simp only [numOk, verOk] at f) <;> (try simp (maxSteps := 1000000) (disch := first | omega | (simp only [LN, numOk, verOk, rfP, rvP, rhP, frP, hl] <;> omega) | exact Ck.mk rfl) only [e, VC, T, Nat.reduceMul, Nat.reduceAdd, Nat.reduceSub, Nat.reduceLT, Nat.reduceEqDiff, Nat.reduceLeDiff, Nat.reduceBEq, reduceCtorEq, Int.reduceToNat, ↓reduceIte, rfP, rvP, rhP, frP, hl]) <;> (try clear e))
    | (refine pick_go (fun e f => ?_) (fun e f => ?_) <;> (try simp only [BB] at f) <;> (try simp only [numOk, verOk] at f) <;> (try simp (maxSteps := 1000000) (disch := first | omega | (simp only [LN, numOk, verOk, rfP, rvP, rhP, frP, hl] <;> omega) | exact Ck.mk rfl) only [e, VC, T, Nat.reduceMul, Nat.reduceAdd, Nat.reduceSub, Nat.reduceLT, Nat.reduceEqDiff, Nat.reduceLeDiff, Nat.reduceBEq, reduceCtorEq, Int.reduceToNat, ↓reduceIte, rfP, rvP, rhP, frP, hl]) <;> (try clear e)))
  refine lp_go (fun i : Nat => ⟨21, [(0, .far ((seqL n k).map (.int .i64))), (1, .int .i64 (k + i)), (5, .int .i64 i)], []⟩) (fun i => i ≤ n) (fun i => n - i) 0 ?_ (Nat.zero_le _) ?_
  · (simp (disch := first | omega | (simp only [LN, numOk, verOk] <;> omega) | exact Ck.mk rfl) only [SB, EQ, Nat.reduceMul, Nat.reduceAdd, Nat.reduceSub, Nat.reduceLT, Nat.reduceEqDiff, Nat.reduceLeDiff, Nat.reduceBEq, reduceCtorEq, Int.reduceToNat, ↓reduceIte]; try omega)
  · intro i hi N hN
    have hg : i < n → (seqL n k).getD i default = k + i := fun h => by
      have := seqL_getD (fun x : Int => x) n k i h
      simpa using this
    (try simp (maxSteps := 1000000) (disch := first | omega | (simp only [LN, numOk, verOk, rfP, rvP, rhP, frP, hl, hg] <;> omega) | exact Ck.mk rfl) only [VC, T, Nat.reduceMul, Nat.reduceAdd, Nat.reduceSub, Nat.reduceLT, Nat.reduceEqDiff, Nat.reduceLeDiff, Nat.reduceBEq, reduceCtorEq, Int.reduceToNat, ↓reduceIte, rfP, rvP, rhP, frP, hl, hg])
    repeat' (first
      | (refine br_go (fun e f => ?_) (fun e f => ?_) <;> (try simp only [BB] at f) <;> (try simp only [numOk, verOk] at f) <;> (try simp (maxSteps := 1000000) (disch := first | omega | (simp only [LN, numOk, verOk, rfP, rvP, rhP, frP, hl, hg] <;> omega) | exact Ck.mk rfl) only [e, VC, T, Nat.reduceMul, Nat.reduceAdd, Nat.reduceSub, Nat.reduceLT, Nat.reduceEqDiff, Nat.reduceLeDiff, Nat.reduceBEq, reduceCtorEq, Int.reduceToNat, ↓reduceIte, rfP, rvP, rhP, frP, hl, hg]) <;> (try clear e))
      | (refine pick_go (fun e f => ?_) (fun e f => ?_) <;> (try simp only [BB] at f) <;> (try simp only [numOk, verOk] at f) <;> (try simp (maxSteps := 1000000) (disch := first | omega | (simp only [LN, numOk, verOk, rfP, rvP, rhP, frP, hl, hg] <;> omega) | exact Ck.mk rfl) only [e, VC, T, Nat.reduceMul, Nat.reduceAdd, Nat.reduceSub, Nat.reduceLT, Nat.reduceEqDiff, Nat.reduceLeDiff, Nat.reduceBEq, reduceCtorEq, Int.reduceToNat, ↓reduceIte, rfP, rvP, rhP, frP, hl, hg]) <;> (try clear e)))
    · refine hN (i + 1) _ (by omega) (by omega) ?_
      (simp (disch := first | omega | (simp only [LN, numOk, verOk] <;> omega) | exact Ck.mk rfl) only [SB, EQ, Nat.reduceMul, Nat.reduceAdd, Nat.reduceSub, Nat.reduceLT, Nat.reduceEqDiff, Nat.reduceLeDiff, Nat.reduceBEq, reduceCtorEq, Int.reduceToNat, ↓reduceIte]; try omega)
    · obtain rfl : i = n := by omega
      rfl
theorem laws_heldStringS (n : Nat) (k : Int) (hx : n ≤ 1073741824) (hk : 0 ≤ k ∧ k ≤ 1099511627776) : Fn Tryz.prog 26 [.far (((seqL n k).map markT).map .str), .int .i64 k] [] (.int .i64 (k + n)) [] := by
  have hl := seqL_length n k
  refine fn_x tok (n := 22) (rs := [.tmp 4]) Tryz.func26 (by decide) rfl rfl rfl rfl ?_
  (try simp (maxSteps := 1000000) (disch := first | omega | (simp only [LN, numOk, verOk, rfP, rvP, rhP, frP, hl] <;> omega) | exact Ck.mk rfl) only [VC, T, Nat.reduceMul, Nat.reduceAdd, Nat.reduceSub, Nat.reduceLT, Nat.reduceEqDiff, Nat.reduceLeDiff, Nat.reduceBEq, reduceCtorEq, Int.reduceToNat, ↓reduceIte, rfP, rvP, rhP, frP, hl])
  repeat' (first
    | (refine br_go (fun e f => ?_) (fun e f => ?_) <;> (try simp only [BB] at f) <;> (try simp only [numOk, verOk] at f) <;> (try simp (maxSteps := 1000000) (disch := first | omega | (simp only [LN, numOk, verOk, rfP, rvP, rhP, frP, hl] <;> omega) | exact Ck.mk rfl) only [e, VC, T, Nat.reduceMul, Nat.reduceAdd, Nat.reduceSub, Nat.reduceLT, Nat.reduceEqDiff, Nat.reduceLeDiff, Nat.reduceBEq, reduceCtorEq, Int.reduceToNat, ↓reduceIte, rfP, rvP, rhP, frP, hl]) <;> (try clear e))
    | (refine pick_go (fun e f => ?_) (fun e f => ?_) <;> (try simp only [BB] at f) <;> (try simp only [numOk, verOk] at f) <;> (try simp (maxSteps := 1000000) (disch := first | omega | (simp only [LN, numOk, verOk, rfP, rvP, rhP, frP, hl] <;> omega) | exact Ck.mk rfl) only [e, VC, T, Nat.reduceMul, Nat.reduceAdd, Nat.reduceSub, Nat.reduceLT, Nat.reduceEqDiff, Nat.reduceLeDiff, Nat.reduceBEq, reduceCtorEq, Int.reduceToNat, ↓reduceIte, rfP, rvP, rhP, frP, hl]) <;> (try clear e)))
  refine lp_go (fun i : Nat => ⟨22, [(0, .far (((seqL n k).map markT).map .str)), (1, .int .i64 (k + i)), (5, .int .i64 i)], []⟩) (fun i => i ≤ n) (fun i => n - i) 0 ?_ (Nat.zero_le _) ?_
  · (simp (disch := first | omega | (simp only [LN, numOk, verOk] <;> omega) | exact Ck.mk rfl) only [SB, EQ, Nat.reduceMul, Nat.reduceAdd, Nat.reduceSub, Nat.reduceLT, Nat.reduceEqDiff, Nat.reduceLeDiff, Nat.reduceBEq, reduceCtorEq, Int.reduceToNat, ↓reduceIte]; try omega)
  · intro i hi N hN
    have hg : i < n → ((seqL n k).map markT).getD i default = markT (k + i) := seqL_getD markT n k i
    (try simp (maxSteps := 1000000) (disch := first | omega | (simp only [LN, numOk, verOk, rfP, rvP, rhP, frP, hl, hg] <;> omega) | exact Ck.mk rfl) only [VC, T, Nat.reduceMul, Nat.reduceAdd, Nat.reduceSub, Nat.reduceLT, Nat.reduceEqDiff, Nat.reduceLeDiff, Nat.reduceBEq, reduceCtorEq, Int.reduceToNat, ↓reduceIte, rfP, rvP, rhP, frP, hl, hg])
    repeat' (first
      | (refine br_go (fun e f => ?_) (fun e f => ?_) <;> (try simp only [BB] at f) <;> (try simp only [numOk, verOk] at f) <;> (try simp (maxSteps := 1000000) (disch := first | omega | (simp only [LN, numOk, verOk, rfP, rvP, rhP, frP, hl, hg] <;> omega) | exact Ck.mk rfl) only [e, VC, T, Nat.reduceMul, Nat.reduceAdd, Nat.reduceSub, Nat.reduceLT, Nat.reduceEqDiff, Nat.reduceLeDiff, Nat.reduceBEq, reduceCtorEq, Int.reduceToNat, ↓reduceIte, rfP, rvP, rhP, frP, hl, hg]) <;> (try clear e))
      | (refine pick_go (fun e f => ?_) (fun e f => ?_) <;> (try simp only [BB] at f) <;> (try simp only [numOk, verOk] at f) <;> (try simp (maxSteps := 1000000) (disch := first | omega | (simp only [LN, numOk, verOk, rfP, rvP, rhP, frP, hl, hg] <;> omega) | exact Ck.mk rfl) only [e, VC, T, Nat.reduceMul, Nat.reduceAdd, Nat.reduceSub, Nat.reduceLT, Nat.reduceEqDiff, Nat.reduceLeDiff, Nat.reduceBEq, reduceCtorEq, Int.reduceToNat, ↓reduceIte, rfP, rvP, rhP, frP, hl, hg]) <;> (try clear e))
      | ((first | refine dr_go mixed (id := 4) [([], [0], []), ([], [5], []), ([0, 1], [12, 13], []), ([0, 1, 2], [14], []), ([], [1], []), ([4], [16], []), ([0, 1, 2, 3, 4, 5], [15, 17], [])] rfl rfl rfl ?_ | refine call_x (laws_markText _ (by omega)) rfl ⟨rfl⟩ ?_); (try simp (maxSteps := 1000000) (disch := first | omega | (simp only [LN, numOk, verOk, rfP, rvP, rhP, frP, hl, hg] <;> omega) | exact Ck.mk rfl) only [VC, T, Nat.reduceMul, Nat.reduceAdd, Nat.reduceSub, Nat.reduceLT, Nat.reduceEqDiff, Nat.reduceLeDiff, Nat.reduceBEq, reduceCtorEq, Int.reduceToNat, ↓reduceIte, rfP, rvP, rhP, frP, hl, hg])))
    · refine hN (i + 1) _ (by omega) (by omega) ?_
      (simp (disch := first | omega | (simp only [LN, numOk, verOk] <;> omega) | exact Ck.mk rfl) only [SB, EQ, Nat.reduceMul, Nat.reduceAdd, Nat.reduceSub, Nat.reduceLT, Nat.reduceEqDiff, Nat.reduceLeDiff, Nat.reduceBEq, reduceCtorEq, Int.reduceToNat, ↓reduceIte]; try omega)
    · obtain rfl : i = n := by omega
      rfl
def mkPl (k : Int) (i : Int) : Int × Int := (k + 2 * i, k + 2 * i + 1)
end Go.Pv

/- What functions of the program and of the reference do, in plain values. -/
namespace Go.Pv
open Go.Proofs Go.Mth
set_option linter.unusedSimpArgs false
set_option linter.unusedVariables false
set_option maxHeartbeats 4000000
set_option maxRecDepth 4000

/-! ### the laws' own functions: nodes, entries, disks -/
theorem laws_toNode (a : Int) (b : ByteArray) (c : Int) : Fn Tryz.prog 80 [.agg [.int .i64 a, .str b, .int .i64 c]] [] (.agg [.int .i64 a, .str b, .int .i64 c]) [] := by
  refine fn_x tok (n := 14) (rs := [.cell 2 93]) Tryz.func80 (by decide) rfl rfl rfl rfl ?_
  (try simp (maxSteps := 1000000) (disch := first | omega | (simp only [LN, numOk, verOk, rfP, rvP, rhP, frP] <;> omega) | exact Ck.mk rfl) only [VC, T, Nat.reduceMul, Nat.reduceAdd, Nat.reduceSub, Nat.reduceLT, Nat.reduceEqDiff, Nat.reduceLeDiff, Nat.reduceBEq, reduceCtorEq, Int.reduceToNat, ↓reduceIte, rfP, rvP, rhP, frP])
  repeat' (first
    | (refine br_go (fun e f => ?_) (fun e f => ?_) <;> (try simp only [BB] at f) <;> (try simp only [numOk, verOk] at f) <;> (try simp (maxSteps := 1000000) (disch := first | omega | (simp only [LN, numOk, verOk, rfP, rvP, rhP, frP] <;> omega) | exact Ck.mk rfl) only [e, VC, T, Nat.reduceMul, Nat.reduceAdd, Nat.reduceSub, Nat.reduceLT, Nat.reduceEqDiff, Nat.reduceLeDiff, Nat.reduceBEq, reduceCtorEq, Int.reduceToNat, ↓reduceIte, rfP, rvP, rhP, frP]) <;> (try clear e))
    | (refine pick_go (fun e f => ?_) (fun e f => ?_) <;> (try simp only [BB] at f) <;> (try simp only [numOk, verOk] at f) <;> (try simp (maxSteps := 1000000) (disch := first | omega | (simp only [LN, numOk, verOk, rfP, rvP, rhP, frP] <;> omega) | exact Ck.mk rfl) only [e, VC, T, Nat.reduceMul, Nat.reduceAdd, Nat.reduceSub, Nat.reduceLT, Nat.reduceEqDiff, Nat.reduceLeDiff, Nat.reduceBEq, reduceCtorEq, Int.reduceToNat, ↓reduceIte, rfP, rvP, rhP, frP]) <;> (try clear e)))
theorem laws_toEntry (a : ByteArray) (b : Int) : Fn Tryz.prog 81 [.agg [.str a, .int .i64 b]] [] (.agg [.str a, .int .i64 b]) [] := by
  refine fn_x tok (n := 11) (rs := [.cell 2 78]) Tryz.func81 (by decide) rfl rfl rfl rfl ?_
  (try simp (maxSteps := 1000000) (disch := first | omega | (simp only [LN, numOk, verOk, rfP, rvP, rhP, frP] <;> omega) | exact Ck.mk rfl) only [VC, T, Nat.reduceMul, Nat.reduceAdd, Nat.reduceSub, Nat.reduceLT, Nat.reduceEqDiff, Nat.reduceLeDiff, Nat.reduceBEq, reduceCtorEq, Int.reduceToNat, ↓reduceIte, rfP, rvP, rhP, frP])
  repeat' (first
    | (refine br_go (fun e f => ?_) (fun e f => ?_) <;> (try simp only [BB] at f) <;> (try simp only [numOk, verOk] at f) <;> (try simp (maxSteps := 1000000) (disch := first | omega | (simp only [LN, numOk, verOk, rfP, rvP, rhP, frP] <;> omega) | exact Ck.mk rfl) only [e, VC, T, Nat.reduceMul, Nat.reduceAdd, Nat.reduceSub, Nat.reduceLT, Nat.reduceEqDiff, Nat.reduceLeDiff, Nat.reduceBEq, reduceCtorEq, Int.reduceToNat, ↓reduceIte, rfP, rvP, rhP, frP]) <;> (try clear e))
    | (refine pick_go (fun e f => ?_) (fun e f => ?_) <;> (try simp only [BB] at f) <;> (try simp only [numOk, verOk] at f) <;> (try simp (maxSteps := 1000000) (disch := first | omega | (simp only [LN, numOk, verOk, rfP, rvP, rhP, frP] <;> omega) | exact Ck.mk rfl) only [e, VC, T, Nat.reduceMul, Nat.reduceAdd, Nat.reduceSub, Nat.reduceLT, Nat.reduceEqDiff, Nat.reduceLeDiff, Nat.reduceBEq, reduceCtorEq, Int.reduceToNat, ↓reduceIte, rfP, rvP, rhP, frP]) <;> (try clear e)))
theorem laws_eqNode (x y : Nd) : Fn Tryz.prog 83 [ndP x, ndP y] [] (.bool (decide (x = y))) [] := by
  obtain ⟨a, b, c⟩ := x
  obtain ⟨d, e, g⟩ := y
  unfold ndP
  refine fn_x tok (n := 20) (rs := [.tmp 4]) Tryz.func83 (by decide) rfl rfl rfl rfl ?_
  (try simp (maxSteps := 1000000) (disch := first | omega | (simp only [LN, numOk, verOk, rfP, rvP, rhP, frP] <;> omega) | exact Ck.mk rfl) only [VC, T, Nat.reduceMul, Nat.reduceAdd, Nat.reduceSub, Nat.reduceLT, Nat.reduceEqDiff, Nat.reduceLeDiff, Nat.reduceBEq, reduceCtorEq, Int.reduceToNat, ↓reduceIte, rfP, rvP, rhP, frP])
  repeat' (first
    | (refine br_go (fun e f => ?_) (fun e f => ?_) <;> (try simp only [BB] at f) <;> (try simp only [numOk, verOk] at f) <;> (try simp (maxSteps := 1000000) (disch := first | omega | (simp only [LN, numOk, verOk, rfP, rvP, rhP, frP] <;> omega) | exact Ck.mk rfl) only [e, VC, T, Nat.reduceMul, Nat.reduceAdd, Nat.reduceSub, Nat.reduceLT, Nat.reduceEqDiff, Nat.reduceLeDiff, Nat.reduceBEq, reduceCtorEq, Int.reduceToNat, ↓reduceIte, rfP, rvP, rhP, frP]) <;> (try clear e))
    | (refine pick_go (fun e f => ?_) (fun e f => ?_) <;> (try simp only [BB] at f) <;> (try simp only [numOk, verOk] at f) <;> (try simp (maxSteps := 1000000) (disch := first | omega | (simp only [LN, numOk, verOk, rfP, rvP, rhP, frP] <;> omega) | exact Ck.mk rfl) only [e, VC, T, Nat.reduceMul, Nat.reduceAdd, Nat.reduceSub, Nat.reduceLT, Nat.reduceEqDiff, Nat.reduceLeDiff, Nat.reduceBEq, reduceCtorEq, Int.reduceToNat, ↓reduceIte, rfP, rvP, rhP, frP]) <;> (try clear e)))
  all_goals simp [*]
theorem laws_eqEntry (x y : Et) : Fn Tryz.prog 84 [enP x, enP y] [] (.bool (decide (x = y))) [] := by
  obtain ⟨a, b⟩ := x
  obtain ⟨c, d⟩ := y
  unfold enP
  refine fn_x tok (n := 15) (rs := [.tmp 4]) Tryz.func84 (by decide) rfl rfl rfl rfl ?_
  (try simp (maxSteps := 1000000) (disch := first | omega | (simp only [LN, numOk, verOk, rfP, rvP, rhP, frP] <;> omega) | exact Ck.mk rfl) only [VC, T, Nat.reduceMul, Nat.reduceAdd, Nat.reduceSub, Nat.reduceLT, Nat.reduceEqDiff, Nat.reduceLeDiff, Nat.reduceBEq, reduceCtorEq, Int.reduceToNat, ↓reduceIte, rfP, rvP, rhP, frP])
  repeat' (first
    | (refine br_go (fun e f => ?_) (fun e f => ?_) <;> (try simp only [BB] at f) <;> (try simp only [numOk, verOk] at f) <;> (try simp (maxSteps := 1000000) (disch := first | omega | (simp only [LN, numOk, verOk, rfP, rvP, rhP, frP] <;> omega) | exact Ck.mk rfl) only [e, VC, T, Nat.reduceMul, Nat.reduceAdd, Nat.reduceSub, Nat.reduceLT, Nat.reduceEqDiff, Nat.reduceLeDiff, Nat.reduceBEq, reduceCtorEq, Int.reduceToNat, ↓reduceIte, rfP, rvP, rhP, frP]) <;> (try clear e))
    | (refine pick_go (fun e f => ?_) (fun e f => ?_) <;> (try simp only [BB] at f) <;> (try simp only [numOk, verOk] at f) <;> (try simp (maxSteps := 1000000) (disch := first | omega | (simp only [LN, numOk, verOk, rfP, rvP, rhP, frP] <;> omega) | exact Ck.mk rfl) only [e, VC, T, Nat.reduceMul, Nat.reduceAdd, Nat.reduceSub, Nat.reduceLT, Nat.reduceEqDiff, Nat.reduceLeDiff, Nat.reduceBEq, reduceCtorEq, Int.reduceToNat, ↓reduceIte, rfP, rvP, rhP, frP]) <;> (try clear e)))
  all_goals simp [*]
theorem laws_toNodeS_R (ps : List Nd) (hx : ps.length ≤ 1073741824) : FnE Tryz.prog 50 [.far (ps.map ndP)] [] (fun r m => r = .row 64 ps.length ∧ m = [(64, .row ⟨3, 0⟩ (ps.map ndP))]) := by
  refine fn_e tok (n := 23) (rs := [.tmp 2]) Tryz.func50 (by decide) rfl rfl rfl rfl (low_of rfl) ?_
  (try simp (maxSteps := 1000000) (disch := first | omega | (simp only [LN, numOk, verOk, rfP, rvP, rhP, frP] <;> omega) | exact Ck.mk rfl) only [VC, T, Nat.reduceMul, Nat.reduceAdd, Nat.reduceSub, Nat.reduceLT, Nat.reduceEqDiff, Nat.reduceLeDiff, Nat.reduceBEq, reduceCtorEq, Int.reduceToNat, ↓reduceIte, rfP, rvP, rhP, frP])
  repeat' (first
    | (refine br_go (fun e f => ?_) (fun e f => ?_) <;> (try simp only [BB] at f) <;> (try simp only [numOk, verOk] at f) <;> (try simp (maxSteps := 1000000) (disch := first | omega | (simp only [LN, numOk, verOk, rfP, rvP, rhP, frP] <;> omega) | exact Ck.mk rfl) only [e, VC, T, Nat.reduceMul, Nat.reduceAdd, Nat.reduceSub, Nat.reduceLT, Nat.reduceEqDiff, Nat.reduceLeDiff, Nat.reduceBEq, reduceCtorEq, Int.reduceToNat, ↓reduceIte, rfP, rvP, rhP, frP]) <;> (try clear e))
    | (refine pick_go (fun e f => ?_) (fun e f => ?_) <;> (try simp only [BB] at f) <;> (try simp only [numOk, verOk] at f) <;> (try simp (maxSteps := 1000000) (disch := first | omega | (simp only [LN, numOk, verOk, rfP, rvP, rhP, frP] <;> omega) | exact Ck.mk rfl) only [e, VC, T, Nat.reduceMul, Nat.reduceAdd, Nat.reduceSub, Nat.reduceLT, Nat.reduceEqDiff, Nat.reduceLeDiff, Nat.reduceBEq, reduceCtorEq, Int.reduceToNat, ↓reduceIte, rfP, rvP, rhP, frP]) <;> (try clear e)))
  refine lp_go (fun i : Nat => ⟨23, [(0, .far (ps.map ndP)), (3, .row 512 ps.length), (4, .int .i64 i)], [(512, .row ⟨3, 0⟩ ((ps.take i ++ List.replicate (ps.length - i) ((0, ⟨#[]⟩, 0) : Nd)).map ndP))]⟩) (fun i => i ≤ ps.length) (fun i => ps.length - i) 0 ?_ (Nat.zero_le _) ?_
  · (simp (disch := first | omega | (simp only [LN, numOk, verOk] <;> omega) | exact Ck.mk rfl) only [SB, EQ, Nat.reduceMul, Nat.reduceAdd, Nat.reduceSub, Nat.reduceLT, Nat.reduceEqDiff, Nat.reduceLeDiff, Nat.reduceBEq, reduceCtorEq, Int.reduceToNat, ↓reduceIte]; try omega)
    simp [ndP]
    exact .inr rfl
  · intro i hi N hN
    have hs := row_step ps ((0, ⟨#[]⟩, 0) : Nd) ps.length i rfl
    have hln : (ps.take i ++ List.replicate (ps.length - i) ((0, ⟨#[]⟩, 0) : Nd)).length = ps.length := by rw [List.length_append, List.length_take, List.length_replicate]; omega
    have hg : i < ps.length → (ps.map ndP).getD i .junk = .agg [.int .i64 (ps.getD i default).1, .str (ps.getD i default).2.1, .int .i64 (ps.getD i default).2.2] := fun h => by
      rw [List.getD_eq_getElem?_getD, List.getElem?_map, List.getElem?_eq_getElem h, List.getD_eq_getElem?_getD, List.getElem?_eq_getElem h]; rfl
    have hu : i < ps.length → ∀ x y z, upd (((ps.take i ++ List.replicate (ps.length - i) ((0, ⟨#[]⟩, 0) : Nd)).map ndP).getD i .junk) 0 [x, y, z] = .agg [x, y, z] := fun h x y z => by
      rw [List.getD_eq_getElem?_getD, List.getElem?_map, List.getElem?_eq_getElem (by omega)]; rfl
    have hset : i < ps.length → ((ps.take i ++ List.replicate (ps.length - i) ((0, ⟨#[]⟩, 0) : Nd)).map ndP).set i (.agg [.int .i64 (ps.getD i default).1, .str (ps.getD i default).2.1, .int .i64 (ps.getD i default).2.2]) = (ps.take (i + 1) ++ List.replicate (ps.length - (i + 1)) ((0, ⟨#[]⟩, 0) : Nd)).map ndP := fun h => by
      rw [← hs h, List.map_set]; rfl
    have hu2 : ∀ (p : Nd) x y z, upd (ndP p) 0 [x, y, z] = .agg [x, y, z] := fun _ => by intros; rfl
    (try simp (maxSteps := 1000000) (disch := first | omega | (simp only [LN, numOk, verOk, rfP, rvP, rhP, frP, hln, hg, hu, hu2, hset] <;> omega) | exact Ck.mk rfl) only [VC, T, Nat.reduceMul, Nat.reduceAdd, Nat.reduceSub, Nat.reduceLT, Nat.reduceEqDiff, Nat.reduceLeDiff, Nat.reduceBEq, reduceCtorEq, Int.reduceToNat, ↓reduceIte, rfP, rvP, rhP, frP, hln, hg, hu, hu2, hset])
    repeat' (first
      | (refine br_go (fun e f => ?_) (fun e f => ?_) <;> (try simp only [BB] at f) <;> (try simp only [numOk, verOk] at f) <;> (try simp (maxSteps := 1000000) (disch := first | omega | (simp only [LN, numOk, verOk, rfP, rvP, rhP, frP, hln, hg, hu, hu2, hset] <;> omega) | exact Ck.mk rfl) only [e, VC, T, Nat.reduceMul, Nat.reduceAdd, Nat.reduceSub, Nat.reduceLT, Nat.reduceEqDiff, Nat.reduceLeDiff, Nat.reduceBEq, reduceCtorEq, Int.reduceToNat, ↓reduceIte, rfP, rvP, rhP, frP, hln, hg, hu, hu2, hset]) <;> (try clear e))
      | (refine pick_go (fun e f => ?_) (fun e f => ?_) <;> (try simp only [BB] at f) <;> (try simp only [numOk, verOk] at f) <;> (try simp (maxSteps := 1000000) (disch := first | omega | (simp only [LN, numOk, verOk, rfP, rvP, rhP, frP, hln, hg, hu, hu2, hset] <;> omega) | exact Ck.mk rfl) only [e, VC, T, Nat.reduceMul, Nat.reduceAdd, Nat.reduceSub, Nat.reduceLT, Nat.reduceEqDiff, Nat.reduceLeDiff, Nat.reduceBEq, reduceCtorEq, Int.reduceToNat, ↓reduceIte, rfP, rvP, rhP, frP, hln, hg, hu, hu2, hset]) <;> (try clear e))
      | ((first | refine call_x (laws_toNode _ _ _) rfl ⟨rfl⟩ ?_); (try simp (maxSteps := 1000000) (disch := first | omega | (simp only [LN, numOk, verOk, rfP, rvP, rhP, frP, hln, hg, hu, hu2, hset] <;> omega) | exact Ck.mk rfl) only [VC, T, Nat.reduceMul, Nat.reduceAdd, Nat.reduceSub, Nat.reduceLT, Nat.reduceEqDiff, Nat.reduceLeDiff, Nat.reduceBEq, reduceCtorEq, Int.reduceToNat, ↓reduceIte, rfP, rvP, rhP, frP, hln, hg, hu, hu2, hset])))
    · refine hN (i + 1) _ (by omega) (by omega) ?_
      (simp (disch := first | omega | (simp only [LN, numOk, verOk] <;> omega) | exact Ck.mk rfl) only [SB, EQ, Nat.reduceMul, Nat.reduceAdd, Nat.reduceSub, Nat.reduceLT, Nat.reduceEqDiff, Nat.reduceLeDiff, Nat.reduceBEq, reduceCtorEq, Int.reduceToNat, ↓reduceIte]; try omega)
    · obtain rfl : i = ps.length := by omega
      exact fin_t [some 512] (⟨rfl, rfl⟩) rfl (by simp [RV, RV2, RVl, RV1, tau, tget, hget, data1, oneOf]) (by simp [RH, RVl, RV1, tau, hget, data1]) (by simp [Taus, hget])
theorem laws_toNodeS (ps : List Nd) (hx : ps.length ≤ 1073741824) : Fn Tryz.prog 50 [.far (ps.map ndP)] [] (.far (ps.map ndP)) [] := by
  obtain ⟨_, _, ⟨rfl, rfl⟩, h⟩ := laws_toNodeS_R ps hx
  refine h.far ?_
  simp [fz, fz2, fz1, cvtl, elems, hget, data1]
theorem laws_toEntryS_R (ps : List Et) (hx : ps.length ≤ 1073741824) : FnE Tryz.prog 51 [.far (ps.map enP)] [] (fun r m => r = .row 64 ps.length ∧ m = [(64, .row ⟨2, 0⟩ (ps.map enP))]) := by
  refine fn_e tok (n := 23) (rs := [.tmp 2]) Tryz.func51 (by decide) rfl rfl rfl rfl (low_of rfl) ?_
  (try simp (maxSteps := 1000000) (disch := first | omega | (simp only [LN, numOk, verOk, rfP, rvP, rhP, frP] <;> omega) | exact Ck.mk rfl) only [VC, T, Nat.reduceMul, Nat.reduceAdd, Nat.reduceSub, Nat.reduceLT, Nat.reduceEqDiff, Nat.reduceLeDiff, Nat.reduceBEq, reduceCtorEq, Int.reduceToNat, ↓reduceIte, rfP, rvP, rhP, frP])
  repeat' (first
    | (refine br_go (fun e f => ?_) (fun e f => ?_) <;> (try simp only [BB] at f) <;> (try simp only [numOk, verOk] at f) <;> (try simp (maxSteps := 1000000) (disch := first | omega | (simp only [LN, numOk, verOk, rfP, rvP, rhP, frP] <;> omega) | exact Ck.mk rfl) only [e, VC, T, Nat.reduceMul, Nat.reduceAdd, Nat.reduceSub, Nat.reduceLT, Nat.reduceEqDiff, Nat.reduceLeDiff, Nat.reduceBEq, reduceCtorEq, Int.reduceToNat, ↓reduceIte, rfP, rvP, rhP, frP]) <;> (try clear e))
    | (refine pick_go (fun e f => ?_) (fun e f => ?_) <;> (try simp only [BB] at f) <;> (try simp only [numOk, verOk] at f) <;> (try simp (maxSteps := 1000000) (disch := first | omega | (simp only [LN, numOk, verOk, rfP, rvP, rhP, frP] <;> omega) | exact Ck.mk rfl) only [e, VC, T, Nat.reduceMul, Nat.reduceAdd, Nat.reduceSub, Nat.reduceLT, Nat.reduceEqDiff, Nat.reduceLeDiff, Nat.reduceBEq, reduceCtorEq, Int.reduceToNat, ↓reduceIte, rfP, rvP, rhP, frP]) <;> (try clear e)))
  refine lp_go (fun i : Nat => ⟨23, [(0, .far (ps.map enP)), (3, .row 512 ps.length), (4, .int .i64 i)], [(512, .row ⟨2, 0⟩ ((ps.take i ++ List.replicate (ps.length - i) ((⟨#[]⟩, 0) : Et)).map enP))]⟩) (fun i => i ≤ ps.length) (fun i => ps.length - i) 0 ?_ (Nat.zero_le _) ?_
  · (simp (disch := first | omega | (simp only [LN, numOk, verOk] <;> omega) | exact Ck.mk rfl) only [SB, EQ, Nat.reduceMul, Nat.reduceAdd, Nat.reduceSub, Nat.reduceLT, Nat.reduceEqDiff, Nat.reduceLeDiff, Nat.reduceBEq, reduceCtorEq, Int.reduceToNat, ↓reduceIte]; try omega)
    simp [enP]
    exact .inr rfl
  · intro i hi N hN
    have hs := row_step ps ((⟨#[]⟩, 0) : Et) ps.length i rfl
    have hln : (ps.take i ++ List.replicate (ps.length - i) ((⟨#[]⟩, 0) : Et)).length = ps.length := by rw [List.length_append, List.length_take, List.length_replicate]; omega
    have hg : i < ps.length → (ps.map enP).getD i .junk = .agg [.str (ps.getD i default).1, .int .i64 (ps.getD i default).2] := fun h => by
      rw [List.getD_eq_getElem?_getD, List.getElem?_map, List.getElem?_eq_getElem h, List.getD_eq_getElem?_getD, List.getElem?_eq_getElem h]; rfl
    have hu : i < ps.length → ∀ x y, upd (((ps.take i ++ List.replicate (ps.length - i) ((⟨#[]⟩, 0) : Et)).map enP).getD i .junk) 0 [x, y] = .agg [x, y] := fun h x y => by
      rw [List.getD_eq_getElem?_getD, List.getElem?_map, List.getElem?_eq_getElem (by omega)]; rfl
    have hset : i < ps.length → ((ps.take i ++ List.replicate (ps.length - i) ((⟨#[]⟩, 0) : Et)).map enP).set i (.agg [.str (ps.getD i default).1, .int .i64 (ps.getD i default).2]) = (ps.take (i + 1) ++ List.replicate (ps.length - (i + 1)) ((⟨#[]⟩, 0) : Et)).map enP := fun h => by
      rw [← hs h, List.map_set]; rfl
    have hu2 : ∀ (p : Et) x y, upd (enP p) 0 [x, y] = .agg [x, y] := fun _ => by intros; rfl
    (try simp (maxSteps := 1000000) (disch := first | omega | (simp only [LN, numOk, verOk, rfP, rvP, rhP, frP, hln, hg, hu, hu2, hset] <;> omega) | exact Ck.mk rfl) only [VC, T, Nat.reduceMul, Nat.reduceAdd, Nat.reduceSub, Nat.reduceLT, Nat.reduceEqDiff, Nat.reduceLeDiff, Nat.reduceBEq, reduceCtorEq, Int.reduceToNat, ↓reduceIte, rfP, rvP, rhP, frP, hln, hg, hu, hu2, hset])
    repeat' (first
      | (refine br_go (fun e f => ?_) (fun e f => ?_) <;> (try simp only [BB] at f) <;> (try simp only [numOk, verOk] at f) <;> (try simp (maxSteps := 1000000) (disch := first | omega | (simp only [LN, numOk, verOk, rfP, rvP, rhP, frP, hln, hg, hu, hu2, hset] <;> omega) | exact Ck.mk rfl) only [e, VC, T, Nat.reduceMul, Nat.reduceAdd, Nat.reduceSub, Nat.reduceLT, Nat.reduceEqDiff, Nat.reduceLeDiff, Nat.reduceBEq, reduceCtorEq, Int.reduceToNat, ↓reduceIte, rfP, rvP, rhP, frP, hln, hg, hu, hu2, hset]) <;> (try clear e))
      | (refine pick_go (fun e f => ?_) (fun e f => ?_) <;> (try simp only [BB] at f) <;> (try simp only [numOk, verOk] at f) <;> (try simp (maxSteps := 1000000) (disch := first | omega | (simp only [LN, numOk, verOk, rfP, rvP, rhP, frP, hln, hg, hu, hu2, hset] <;> omega) | exact Ck.mk rfl) only [e, VC, T, Nat.reduceMul, Nat.reduceAdd, Nat.reduceSub, Nat.reduceLT, Nat.reduceEqDiff, Nat.reduceLeDiff, Nat.reduceBEq, reduceCtorEq, Int.reduceToNat, ↓reduceIte, rfP, rvP, rhP, frP, hln, hg, hu, hu2, hset]) <;> (try clear e))
      | ((first | refine call_x (laws_toEntry _ _) rfl ⟨rfl⟩ ?_); (try simp (maxSteps := 1000000) (disch := first | omega | (simp only [LN, numOk, verOk, rfP, rvP, rhP, frP, hln, hg, hu, hu2, hset] <;> omega) | exact Ck.mk rfl) only [VC, T, Nat.reduceMul, Nat.reduceAdd, Nat.reduceSub, Nat.reduceLT, Nat.reduceEqDiff, Nat.reduceLeDiff, Nat.reduceBEq, reduceCtorEq, Int.reduceToNat, ↓reduceIte, rfP, rvP, rhP, frP, hln, hg, hu, hu2, hset])))
    · refine hN (i + 1) _ (by omega) (by omega) ?_
      (simp (disch := first | omega | (simp only [LN, numOk, verOk] <;> omega) | exact Ck.mk rfl) only [SB, EQ, Nat.reduceMul, Nat.reduceAdd, Nat.reduceSub, Nat.reduceLT, Nat.reduceEqDiff, Nat.reduceLeDiff, Nat.reduceBEq, reduceCtorEq, Int.reduceToNat, ↓reduceIte]; try omega)
    · obtain rfl : i = ps.length := by omega
      exact fin_t [some 512] (⟨rfl, rfl⟩) rfl (by simp [RV, RV2, RVl, RV1, tau, tget, hget, data1, oneOf]) (by simp [RH, RVl, RV1, tau, hget, data1]) (by simp [Taus, hget])
theorem laws_toEntryS (ps : List Et) (hx : ps.length ≤ 1073741824) : Fn Tryz.prog 51 [.far (ps.map enP)] [] (.far (ps.map enP)) [] := by
  obtain ⟨_, _, ⟨rfl, rfl⟩, h⟩ := laws_toEntryS_R ps hx
  refine h.far ?_
  simp [fz, fz2, fz1, cvtl, elems, hget, data1]
theorem laws_eqNodeS (xs ys : List Nd) (hx : xs.length ≤ 4611686018427387904) : Fn Tryz.prog 54 [.far (xs.map ndP), .far (ys.map ndP)] [] (.bool (decide (xs = ys))) [] := by
  refine fn_x tok (n := 27) (rs := [.tmp 4]) Tryz.func54 (by decide) rfl rfl rfl rfl ?_
  (try simp (maxSteps := 1000000) (disch := first | omega | (simp only [LN, numOk, verOk, rfP, rvP, rhP, frP] <;> omega) | exact Ck.mk rfl) only [VC, T, Nat.reduceMul, Nat.reduceAdd, Nat.reduceSub, Nat.reduceLT, Nat.reduceEqDiff, Nat.reduceLeDiff, Nat.reduceBEq, reduceCtorEq, Int.reduceToNat, ↓reduceIte, rfP, rvP, rhP, frP])
  repeat' (first
    | (refine br_go (fun e f => ?_) (fun e f => ?_) <;> (try simp only [BB] at f) <;> (try simp only [numOk, verOk] at f) <;> (try simp (maxSteps := 1000000) (disch := first | omega | (simp only [LN, numOk, verOk, rfP, rvP, rhP, frP] <;> omega) | exact Ck.mk rfl) only [e, VC, T, Nat.reduceMul, Nat.reduceAdd, Nat.reduceSub, Nat.reduceLT, Nat.reduceEqDiff, Nat.reduceLeDiff, Nat.reduceBEq, reduceCtorEq, Int.reduceToNat, ↓reduceIte, rfP, rvP, rhP, frP]) <;> (try clear e))
    | (refine pick_go (fun e f => ?_) (fun e f => ?_) <;> (try simp only [BB] at f) <;> (try simp only [numOk, verOk] at f) <;> (try simp (maxSteps := 1000000) (disch := first | omega | (simp only [LN, numOk, verOk, rfP, rvP, rhP, frP] <;> omega) | exact Ck.mk rfl) only [e, VC, T, Nat.reduceMul, Nat.reduceAdd, Nat.reduceSub, Nat.reduceLT, Nat.reduceEqDiff, Nat.reduceLeDiff, Nat.reduceBEq, reduceCtorEq, Int.reduceToNat, ↓reduceIte, rfP, rvP, rhP, frP]) <;> (try clear e)))
  · have hl : xs.length = ys.length := by omega
    refine lp_go (fun i : Nat => ⟨27, [(0, .far (xs.map ndP)), (1, .far (ys.map ndP)), (5, .int .i64 i)], []⟩) (fun i => i ≤ xs.length ∧ xs.take i = ys.take i) (fun i => xs.length - i) 0 ?_ ⟨Nat.zero_le _, rfl⟩ ?_
    · (simp (disch := first | omega | (simp only [LN, numOk, verOk] <;> omega) | exact Ck.mk rfl) only [SB, EQ, Nat.reduceMul, Nat.reduceAdd, Nat.reduceSub, Nat.reduceLT, Nat.reduceEqDiff, Nat.reduceLeDiff, Nat.reduceBEq, reduceCtorEq, Int.reduceToNat, ↓reduceIte]; try omega)
    · rintro i ⟨h1, h2⟩ N hN
      have hg : ∀ zs : List Nd, i < zs.length → (zs.map ndP).getD i .junk = .agg [.int .i64 (zs.getD i default).1, .str (zs.getD i default).2.1, .int .i64 (zs.getD i default).2.2] := fun zs h => by
        rw [List.getD_eq_getElem?_getD, List.getElem?_map, List.getElem?_eq_getElem h, List.getD_eq_getElem?_getD, List.getElem?_eq_getElem h]; rfl
      (try simp (maxSteps := 1000000) (disch := first | omega | (simp only [LN, numOk, verOk, rfP, rvP, rhP, frP, hg] <;> omega) | exact Ck.mk rfl) only [VC, T, Nat.reduceMul, Nat.reduceAdd, Nat.reduceSub, Nat.reduceLT, Nat.reduceEqDiff, Nat.reduceLeDiff, Nat.reduceBEq, reduceCtorEq, Int.reduceToNat, ↓reduceIte, rfP, rvP, rhP, frP, hg])
      repeat' (first
        | (refine br_go (fun e f => ?_) (fun e f => ?_) <;> (try simp only [BB] at f) <;> (try simp only [numOk, verOk] at f) <;> (try simp (maxSteps := 1000000) (disch := first | omega | (simp only [LN, numOk, verOk, rfP, rvP, rhP, frP, hg] <;> omega) | exact Ck.mk rfl) only [e, VC, T, Nat.reduceMul, Nat.reduceAdd, Nat.reduceSub, Nat.reduceLT, Nat.reduceEqDiff, Nat.reduceLeDiff, Nat.reduceBEq, reduceCtorEq, Int.reduceToNat, ↓reduceIte, rfP, rvP, rhP, frP, hg]) <;> (try clear e))
        | (refine pick_go (fun e f => ?_) (fun e f => ?_) <;> (try simp only [BB] at f) <;> (try simp only [numOk, verOk] at f) <;> (try simp (maxSteps := 1000000) (disch := first | omega | (simp only [LN, numOk, verOk, rfP, rvP, rhP, frP, hg] <;> omega) | exact Ck.mk rfl) only [e, VC, T, Nat.reduceMul, Nat.reduceAdd, Nat.reduceSub, Nat.reduceLT, Nat.reduceEqDiff, Nat.reduceLeDiff, Nat.reduceBEq, reduceCtorEq, Int.reduceToNat, ↓reduceIte, rfP, rvP, rhP, frP, hg]) <;> (try clear e))
        | ((first | refine dr_go mixed (id := 6) [([], [0], []), ([], [5], []), ([0, 1], [17, 18], []), ([0, 1, 2], [19], []), ([], [1], []), ([], [5], []), ([4, 5], [21, 22], []), ([4, 5, 6], [23], []), ([0, 1, 2, 3, 4, 5, 6, 7], [20, 24], []), ([0, 1, 2, 3, 4, 5, 6, 7, 8], [25], [])] rfl rfl rfl ?_ | refine call_x (laws_eqNode (xs.getD i default) (ys.getD i default)) rfl ⟨rfl⟩ ?_); (try simp (maxSteps := 1000000) (disch := first | omega | (simp only [LN, numOk, verOk, rfP, rvP, rhP, frP, hg] <;> omega) | exact Ck.mk rfl) only [VC, T, Nat.reduceMul, Nat.reduceAdd, Nat.reduceSub, Nat.reduceLT, Nat.reduceEqDiff, Nat.reduceLeDiff, Nat.reduceBEq, reduceCtorEq, Int.reduceToNat, ↓reduceIte, rfP, rvP, rhP, frP, hg])))
      · refine hN (i + 1) _ ⟨by omega, eq_step xs ys i hl (by omega) h2 f⟩ (by omega) ?_
        (simp (disch := first | omega | (simp only [LN, numOk, verOk] <;> omega) | exact Ck.mk rfl) only [SB, EQ, Nat.reduceMul, Nat.reduceAdd, Nat.reduceSub, Nat.reduceLT, Nat.reduceEqDiff, Nat.reduceLeDiff, Nat.reduceBEq, reduceCtorEq, Int.reduceToNat, ↓reduceIte]; try omega)
      · rw [decide_eq_false fun h => by subst h; simp at f]
      · rw [List.take_of_length_le (by omega), List.take_of_length_le (by omega)] at h2
        rw [decide_eq_true h2]
  · rw [decide_eq_false fun h => f (by rw [h])]
theorem laws_eqEntryS (xs ys : List Et) (hx : xs.length ≤ 4611686018427387904) : Fn Tryz.prog 55 [.far (xs.map enP), .far (ys.map enP)] [] (.bool (decide (xs = ys))) [] := by
  refine fn_x tok (n := 27) (rs := [.tmp 4]) Tryz.func55 (by decide) rfl rfl rfl rfl ?_
  (try simp (maxSteps := 1000000) (disch := first | omega | (simp only [LN, numOk, verOk, rfP, rvP, rhP, frP] <;> omega) | exact Ck.mk rfl) only [VC, T, Nat.reduceMul, Nat.reduceAdd, Nat.reduceSub, Nat.reduceLT, Nat.reduceEqDiff, Nat.reduceLeDiff, Nat.reduceBEq, reduceCtorEq, Int.reduceToNat, ↓reduceIte, rfP, rvP, rhP, frP])
  repeat' (first
    | (refine br_go (fun e f => ?_) (fun e f => ?_) <;> (try simp only [BB] at f) <;> (try simp only [numOk, verOk] at f) <;> (try simp (maxSteps := 1000000) (disch := first | omega | (simp only [LN, numOk, verOk, rfP, rvP, rhP, frP] <;> omega) | exact Ck.mk rfl) only [e, VC, T, Nat.reduceMul, Nat.reduceAdd, Nat.reduceSub, Nat.reduceLT, Nat.reduceEqDiff, Nat.reduceLeDiff, Nat.reduceBEq, reduceCtorEq, Int.reduceToNat, ↓reduceIte, rfP, rvP, rhP, frP]) <;> (try clear e))
    | (refine pick_go (fun e f => ?_) (fun e f => ?_) <;> (try simp only [BB] at f) <;> (try simp only [numOk, verOk] at f) <;> (try simp (maxSteps := 1000000) (disch := first | omega | (simp only [LN, numOk, verOk, rfP, rvP, rhP, frP] <;> omega) | exact Ck.mk rfl) only [e, VC, T, Nat.reduceMul, Nat.reduceAdd, Nat.reduceSub, Nat.reduceLT, Nat.reduceEqDiff, Nat.reduceLeDiff, Nat.reduceBEq, reduceCtorEq, Int.reduceToNat, ↓reduceIte, rfP, rvP, rhP, frP]) <;> (try clear e)))
  · have hl : xs.length = ys.length := by omega
    refine lp_go (fun i : Nat => ⟨27, [(0, .far (xs.map enP)), (1, .far (ys.map enP)), (5, .int .i64 i)], []⟩) (fun i => i ≤ xs.length ∧ xs.take i = ys.take i) (fun i => xs.length - i) 0 ?_ ⟨Nat.zero_le _, rfl⟩ ?_
    · (simp (disch := first | omega | (simp only [LN, numOk, verOk] <;> omega) | exact Ck.mk rfl) only [SB, EQ, Nat.reduceMul, Nat.reduceAdd, Nat.reduceSub, Nat.reduceLT, Nat.reduceEqDiff, Nat.reduceLeDiff, Nat.reduceBEq, reduceCtorEq, Int.reduceToNat, ↓reduceIte]; try omega)
    · rintro i ⟨h1, h2⟩ N hN
      have hg : ∀ zs : List Et, i < zs.length → (zs.map enP).getD i .junk = .agg [.str (zs.getD i default).1, .int .i64 (zs.getD i default).2] := fun zs h => by
        rw [List.getD_eq_getElem?_getD, List.getElem?_map, List.getElem?_eq_getElem h, List.getD_eq_getElem?_getD, List.getElem?_eq_getElem h]; rfl
      (try simp (maxSteps := 1000000) (disch := first | omega | (simp only [LN, numOk, verOk, rfP, rvP, rhP, frP, hg] <;> omega) | exact Ck.mk rfl) only [VC, T, Nat.reduceMul, Nat.reduceAdd, Nat.reduceSub, Nat.reduceLT, Nat.reduceEqDiff, Nat.reduceLeDiff, Nat.reduceBEq, reduceCtorEq, Int.reduceToNat, ↓reduceIte, rfP, rvP, rhP, frP, hg])
      repeat' (first
        | (refine br_go (fun e f => ?_) (fun e f => ?_) <;> (try simp only [BB] at f) <;> (try simp only [numOk, verOk] at f) <;> (try simp (maxSteps := 1000000) (disch := first | omega | (simp only [LN, numOk, verOk, rfP, rvP, rhP, frP, hg] <;> omega) | exact Ck.mk rfl) only [e, VC, T, Nat.reduceMul, Nat.reduceAdd, Nat.reduceSub, Nat.reduceLT, Nat.reduceEqDiff, Nat.reduceLeDiff, Nat.reduceBEq, reduceCtorEq, Int.reduceToNat, ↓reduceIte, rfP, rvP, rhP, frP, hg]) <;> (try clear e))
        | (refine pick_go (fun e f => ?_) (fun e f => ?_) <;> (try simp only [BB] at f) <;> (try simp only [numOk, verOk] at f) <;> (try simp (maxSteps := 1000000) (disch := first | omega | (simp only [LN, numOk, verOk, rfP, rvP, rhP, frP, hg] <;> omega) | exact Ck.mk rfl) only [e, VC, T, Nat.reduceMul, Nat.reduceAdd, Nat.reduceSub, Nat.reduceLT, Nat.reduceEqDiff, Nat.reduceLeDiff, Nat.reduceBEq, reduceCtorEq, Int.reduceToNat, ↓reduceIte, rfP, rvP, rhP, frP, hg]) <;> (try clear e))
        | ((first | refine dr_go mixed (id := 6) [([], [0], []), ([], [5], []), ([0, 1], [17, 18], []), ([0, 1, 2], [19], []), ([], [1], []), ([], [5], []), ([4, 5], [21, 22], []), ([4, 5, 6], [23], []), ([0, 1, 2, 3, 4, 5, 6, 7], [20, 24], []), ([0, 1, 2, 3, 4, 5, 6, 7, 8], [25], [])] rfl rfl rfl ?_ | refine call_x (laws_eqEntry (xs.getD i default) (ys.getD i default)) rfl ⟨rfl⟩ ?_); (try simp (maxSteps := 1000000) (disch := first | omega | (simp only [LN, numOk, verOk, rfP, rvP, rhP, frP, hg] <;> omega) | exact Ck.mk rfl) only [VC, T, Nat.reduceMul, Nat.reduceAdd, Nat.reduceSub, Nat.reduceLT, Nat.reduceEqDiff, Nat.reduceLeDiff, Nat.reduceBEq, reduceCtorEq, Int.reduceToNat, ↓reduceIte, rfP, rvP, rhP, frP, hg])))
      · refine hN (i + 1) _ ⟨by omega, eq_step xs ys i hl (by omega) h2 f⟩ (by omega) ?_
        (simp (disch := first | omega | (simp only [LN, numOk, verOk] <;> omega) | exact Ck.mk rfl) only [SB, EQ, Nat.reduceMul, Nat.reduceAdd, Nat.reduceSub, Nat.reduceLT, Nat.reduceEqDiff, Nat.reduceLeDiff, Nat.reduceBEq, reduceCtorEq, Int.reduceToNat, ↓reduceIte]; try omega)
      · rw [decide_eq_false fun h => by subst h; simp at f]
      · rw [List.take_of_length_le (by omega), List.take_of_length_le (by omega)] at h2
        rw [decide_eq_true h2]
  · rw [decide_eq_false fun h => f (by rw [h])]
/-! ### how large disks are -/
def sumF {α : Type} (f : α → Int) (l : List α) : Int := l.foldr (fun s n => f s + n) 0
theorem sumF_cons {α : Type} (f : α → Int) (s : α) (l : List α) : sumF f (s :: l) = f s + sumF f l := rfl
theorem sumF_pos {α : Type} (f : α → Int) (hf : ∀ x, 0 ≤ f x) (l : List α) : 0 ≤ sumF f l := by
  induction l with
  | nil => exact Int.le_refl _
  | cons s l ih => rw [sumF_cons]; have := hf s; omega
theorem sumF_mem {α : Type} (f : α → Int) (hf : ∀ x, 0 ≤ f x) : ∀ {l : List α} {s : α}, s ∈ l → f s ≤ sumF f l
  | x :: l, s, h => by
    rw [sumF_cons]
    rcases List.mem_cons.1 h with rfl | h
    · have := sumF_pos f hf l; omega
    · have := sumF_mem f hf h; have := hf x; omega
theorem sumF_drop {α : Type} [Inhabited α] (f : α → Int) (l : List α) (i : Nat) (h : i < l.length) : sumF f (l.drop i) = f (l.getD i default) + sumF f (l.drop (i + 1)) := by
  rw [List.drop_eq_getElem_cons h, List.getD_eq_getElem?_getD, List.getElem?_eq_getElem h]; rfl
def ndZ (x : Nd) : Int := x.2.1.size
def enZ (x : Et) : Int := x.1.size
theorem ndZ_pos (x : Nd) : 0 ≤ ndZ x := by unfold ndZ; omega
theorem enZ_pos (x : Et) : 0 ≤ enZ x := by unfold enZ; omega
theorem laws_szNode (a : Int) (b : ByteArray) (c n : Int) (hn : 0 ≤ n ∧ n ≤ 1048576) (hb : b.size ≤ 9223372036854775807) : Fn Tryz.prog 77 [.agg [.int .i64 a, .str b, .int .i64 c], .int .i64 n] [] (.int .i64 (if n - b.size < 0 then -1 else n - b.size)) [] := by
  refine fn_x tok (n := 13) (rs := [.tmp 4]) Tryz.func77 (by decide) rfl rfl rfl rfl ?_
  (try simp (maxSteps := 1000000) (disch := first | omega | (simp only [LN, numOk, verOk, rfP, rvP, rhP, frP] <;> omega) | exact Ck.mk rfl) only [VC, T, Nat.reduceMul, Nat.reduceAdd, Nat.reduceSub, Nat.reduceLT, Nat.reduceEqDiff, Nat.reduceLeDiff, Nat.reduceBEq, reduceCtorEq, Int.reduceToNat, ↓reduceIte, rfP, rvP, rhP, frP])
  repeat' (first
    | (refine br_go (fun e f => ?_) (fun e f => ?_) <;> (try simp only [BB] at f) <;> (try simp only [numOk, verOk] at f) <;> (try simp (maxSteps := 1000000) (disch := first | omega | (simp only [LN, numOk, verOk, rfP, rvP, rhP, frP] <;> omega) | exact Ck.mk rfl) only [e, VC, T, Nat.reduceMul, Nat.reduceAdd, Nat.reduceSub, Nat.reduceLT, Nat.reduceEqDiff, Nat.reduceLeDiff, Nat.reduceBEq, reduceCtorEq, Int.reduceToNat, ↓reduceIte, rfP, rvP, rhP, frP]) <;> (try clear e))
    | (refine pick_go (fun e f => ?_) (fun e f => ?_) <;> (try simp only [BB] at f) <;> (try simp only [numOk, verOk] at f) <;> (try simp (maxSteps := 1000000) (disch := first | omega | (simp only [LN, numOk, verOk, rfP, rvP, rhP, frP] <;> omega) | exact Ck.mk rfl) only [e, VC, T, Nat.reduceMul, Nat.reduceAdd, Nat.reduceSub, Nat.reduceLT, Nat.reduceEqDiff, Nat.reduceLeDiff, Nat.reduceBEq, reduceCtorEq, Int.reduceToNat, ↓reduceIte, rfP, rvP, rhP, frP]) <;> (try clear e)))
  · rw [if_pos f]
  · rw [if_neg (by omega)]
theorem laws_szEntry (b : ByteArray) (c n : Int) (hn : 0 ≤ n ∧ n ≤ 1048576) (hb : b.size ≤ 9223372036854775807) : Fn Tryz.prog 78 [.agg [.str b, .int .i64 c], .int .i64 n] [] (.int .i64 (if n - b.size < 0 then -1 else n - b.size)) [] := by
  refine fn_x tok (n := 13) (rs := [.tmp 4]) Tryz.func78 (by decide) rfl rfl rfl rfl ?_
  (try simp (maxSteps := 1000000) (disch := first | omega | (simp only [LN, numOk, verOk, rfP, rvP, rhP, frP] <;> omega) | exact Ck.mk rfl) only [VC, T, Nat.reduceMul, Nat.reduceAdd, Nat.reduceSub, Nat.reduceLT, Nat.reduceEqDiff, Nat.reduceLeDiff, Nat.reduceBEq, reduceCtorEq, Int.reduceToNat, ↓reduceIte, rfP, rvP, rhP, frP])
  repeat' (first
    | (refine br_go (fun e f => ?_) (fun e f => ?_) <;> (try simp only [BB] at f) <;> (try simp only [numOk, verOk] at f) <;> (try simp (maxSteps := 1000000) (disch := first | omega | (simp only [LN, numOk, verOk, rfP, rvP, rhP, frP] <;> omega) | exact Ck.mk rfl) only [e, VC, T, Nat.reduceMul, Nat.reduceAdd, Nat.reduceSub, Nat.reduceLT, Nat.reduceEqDiff, Nat.reduceLeDiff, Nat.reduceBEq, reduceCtorEq, Int.reduceToNat, ↓reduceIte, rfP, rvP, rhP, frP]) <;> (try clear e))
    | (refine pick_go (fun e f => ?_) (fun e f => ?_) <;> (try simp only [BB] at f) <;> (try simp only [numOk, verOk] at f) <;> (try simp (maxSteps := 1000000) (disch := first | omega | (simp only [LN, numOk, verOk, rfP, rvP, rhP, frP] <;> omega) | exact Ck.mk rfl) only [e, VC, T, Nat.reduceMul, Nat.reduceAdd, Nat.reduceSub, Nat.reduceLT, Nat.reduceEqDiff, Nat.reduceLeDiff, Nat.reduceBEq, reduceCtorEq, Int.reduceToNat, ↓reduceIte, rfP, rvP, rhP, frP]) <;> (try clear e)))
  · rw [if_pos f]
  · rw [if_neg (by omega)]
theorem laws_szNodeS (xs : List Nd) (n : Int) (hn : 0 ≤ n ∧ n ≤ 1048576) (hx : xs.length ≤ 9223372036854775807) (hs : ∀ x ∈ xs, x.2.1.size ≤ 9223372036854775807) : FnV Tryz.prog 46 [.far (xs.map ndP), .int .i64 n] (fun r => ∃ m : Int, r = .int .i64 m ∧ (0 ≤ m → m = n - xs.length - sumF ndZ xs) ∧ -1 ≤ m ∧ m ≤ n) := by
  refine fn_v tok (n := 27) (rs := [.tmp 4]) Tryz.func46 (by decide) rfl rfl rfl rfl ?_
  (try simp (maxSteps := 1000000) (disch := first | omega | (simp only [LN, numOk, verOk, rfP, rvP, rhP, frP] <;> omega) | exact Ck.mk rfl) only [VC, T, Nat.reduceMul, Nat.reduceAdd, Nat.reduceSub, Nat.reduceLT, Nat.reduceEqDiff, Nat.reduceLeDiff, Nat.reduceBEq, reduceCtorEq, Int.reduceToNat, ↓reduceIte, rfP, rvP, rhP, frP])
  repeat' (first
    | (refine br_go (fun e f => ?_) (fun e f => ?_) <;> (try simp only [BB] at f) <;> (try simp only [numOk, verOk] at f) <;> (try simp (maxSteps := 1000000) (disch := first | omega | (simp only [LN, numOk, verOk, rfP, rvP, rhP, frP] <;> omega) | exact Ck.mk rfl) only [e, VC, T, Nat.reduceMul, Nat.reduceAdd, Nat.reduceSub, Nat.reduceLT, Nat.reduceEqDiff, Nat.reduceLeDiff, Nat.reduceBEq, reduceCtorEq, Int.reduceToNat, ↓reduceIte, rfP, rvP, rhP, frP]) <;> (try clear e))
    | (refine pick_go (fun e f => ?_) (fun e f => ?_) <;> (try simp only [BB] at f) <;> (try simp only [numOk, verOk] at f) <;> (try simp (maxSteps := 1000000) (disch := first | omega | (simp only [LN, numOk, verOk, rfP, rvP, rhP, frP] <;> omega) | exact Ck.mk rfl) only [e, VC, T, Nat.reduceMul, Nat.reduceAdd, Nat.reduceSub, Nat.reduceLT, Nat.reduceEqDiff, Nat.reduceLeDiff, Nat.reduceBEq, reduceCtorEq, Int.reduceToNat, ↓reduceIte, rfP, rvP, rhP, frP]) <;> (try clear e)))
  · exact ⟨-1, rfl, fun h => by omega, by omega, by omega⟩
  · refine lp_go (fun x : Nat × Int => ⟨27, [(0, .far (xs.map ndP)), (1, .int .i64 x.2), (5, .int .i64 x.1)], []⟩) (fun x => x.1 ≤ xs.length ∧ (0 ≤ x.2 ∧ x.2 ≤ n) ∧ n - xs.length - sumF ndZ xs = x.2 - sumF ndZ (xs.drop x.1)) (fun x => xs.length - x.1) (0, n - xs.length) ?_ ⟨Nat.zero_le _, by simp only; omega, rfl⟩ ?_
    · (simp (disch := first | omega | (simp only [LN, numOk, verOk] <;> omega) | exact Ck.mk rfl) only [SB, EQ, Nat.reduceMul, Nat.reduceAdd, Nat.reduceSub, Nat.reduceLT, Nat.reduceEqDiff, Nat.reduceLeDiff, Nat.reduceBEq, reduceCtorEq, Int.reduceToNat, ↓reduceIte]; try omega)
    · rintro ⟨i, m⟩ ⟨h1, h2, h3⟩ N hN
      simp only at h1 h2 h3
      have hd := sumF_drop ndZ xs i
      have hz : i < xs.length → (xs.getD i default).2.1.size ≤ 9223372036854775807 := fun h => hs _ (getD_mem _ _ h)
      have hp := sumF_pos ndZ ndZ_pos (xs.drop (i + 1))
      have hg : i < xs.length → (xs.map ndP).getD i .junk = .agg [.int .i64 (xs.getD i default).1, .str (xs.getD i default).2.1, .int .i64 (xs.getD i default).2.2] := fun h => by
        rw [List.getD_eq_getElem?_getD, List.getElem?_map, List.getElem?_eq_getElem h, List.getD_eq_getElem?_getD, List.getElem?_eq_getElem h]; rfl
      (try simp (maxSteps := 1000000) (disch := first | omega | (simp only [LN, numOk, verOk, rfP, rvP, rhP, frP, hg] <;> omega) | exact Ck.mk rfl) only [VC, T, Nat.reduceMul, Nat.reduceAdd, Nat.reduceSub, Nat.reduceLT, Nat.reduceEqDiff, Nat.reduceLeDiff, Nat.reduceBEq, reduceCtorEq, Int.reduceToNat, ↓reduceIte, rfP, rvP, rhP, frP, hg])
      repeat' (first
        | (refine br_go (fun e f => ?_) (fun e f => ?_) <;> (try simp only [BB] at f) <;> (try simp only [numOk, verOk] at f) <;> (try simp (maxSteps := 1000000) (disch := first | omega | (simp only [LN, numOk, verOk, rfP, rvP, rhP, frP, hg] <;> omega) | exact Ck.mk rfl) only [e, VC, T, Nat.reduceMul, Nat.reduceAdd, Nat.reduceSub, Nat.reduceLT, Nat.reduceEqDiff, Nat.reduceLeDiff, Nat.reduceBEq, reduceCtorEq, Int.reduceToNat, ↓reduceIte, rfP, rvP, rhP, frP, hg]) <;> (try clear e))
        | (refine pick_go (fun e f => ?_) (fun e f => ?_) <;> (try simp only [BB] at f) <;> (try simp only [numOk, verOk] at f) <;> (try simp (maxSteps := 1000000) (disch := first | omega | (simp only [LN, numOk, verOk, rfP, rvP, rhP, frP, hg] <;> omega) | exact Ck.mk rfl) only [e, VC, T, Nat.reduceMul, Nat.reduceAdd, Nat.reduceSub, Nat.reduceLT, Nat.reduceEqDiff, Nat.reduceLeDiff, Nat.reduceBEq, reduceCtorEq, Int.reduceToNat, ↓reduceIte, rfP, rvP, rhP, frP, hg]) <;> (try clear e))
        | ((first | refine call_x (laws_szNode _ _ _ _ (by omega) (hz (by omega))) rfl ⟨rfl⟩ ?_); (try simp (maxSteps := 1000000) (disch := first | omega | (simp only [LN, numOk, verOk, rfP, rvP, rhP, frP, hg] <;> omega) | exact Ck.mk rfl) only [VC, T, Nat.reduceMul, Nat.reduceAdd, Nat.reduceSub, Nat.reduceLT, Nat.reduceEqDiff, Nat.reduceLeDiff, Nat.reduceBEq, reduceCtorEq, Int.reduceToNat, ↓reduceIte, rfP, rvP, rhP, frP, hg])))
      · exact ⟨-1, rfl, fun h => by omega, by omega, by omega⟩
      · split at f
        · exfalso; omega
        · rename_i hq
          rw [if_neg hq] at *
          refine hN (i + 1, m - (xs.getD i default).2.1.size) _ ⟨by simp only; omega, ⟨by simp only; omega, by simp only; omega⟩, by simp only; have := hd (by omega); unfold ndZ at *; omega⟩ (by simp only; omega) ?_
          (simp (disch := first | omega | (simp only [LN, numOk, verOk] <;> omega) | exact Ck.mk rfl) only [SB, EQ, Nat.reduceMul, Nat.reduceAdd, Nat.reduceSub, Nat.reduceLT, Nat.reduceEqDiff, Nat.reduceLeDiff, Nat.reduceBEq, reduceCtorEq, Int.reduceToNat, ↓reduceIte]; try omega)
      · rw [List.drop_eq_nil_of_le (by omega)] at h3
        exact ⟨m, rfl, fun _ => by rw [h3]; simp [sumF], by omega, by omega⟩
theorem laws_szEntryS (xs : List Et) (n : Int) (hn : 0 ≤ n ∧ n ≤ 1048576) (hx : xs.length ≤ 9223372036854775807) (hs : ∀ x ∈ xs, x.1.size ≤ 9223372036854775807) : FnV Tryz.prog 47 [.far (xs.map enP), .int .i64 n] (fun r => ∃ m : Int, r = .int .i64 m ∧ (0 ≤ m → m = n - xs.length - sumF enZ xs) ∧ -1 ≤ m ∧ m ≤ n) := by
  refine fn_v tok (n := 27) (rs := [.tmp 4]) Tryz.func47 (by decide) rfl rfl rfl rfl ?_
  (try simp (maxSteps := 1000000) (disch := first | omega | (simp only [LN, numOk, verOk, rfP, rvP, rhP, frP] <;> omega) | exact Ck.mk rfl) only [VC, T, Nat.reduceMul, Nat.reduceAdd, Nat.reduceSub, Nat.reduceLT, Nat.reduceEqDiff, Nat.reduceLeDiff, Nat.reduceBEq, reduceCtorEq, Int.reduceToNat, ↓reduceIte, rfP, rvP, rhP, frP])
  repeat' (first
    | (refine br_go (fun e f => ?_) (fun e f => ?_) <;> (try simp only [BB] at f) <;> (try simp only [numOk, verOk] at f) <;> (try simp (maxSteps := 1000000) (disch := first | omega | (simp only [LN, numOk, verOk, rfP, rvP, rhP, frP] <;> omega) | exact Ck.mk rfl) only [e, VC, T, Nat.reduceMul, Nat.reduceAdd, Nat.reduceSub, Nat.reduceLT, Nat.reduceEqDiff, Nat.reduceLeDiff, Nat.reduceBEq, reduceCtorEq, Int.reduceToNat, ↓reduceIte, rfP, rvP, rhP, frP]) <;> (try clear e))
    | (refine pick_go (fun e f => ?_) (fun e f => ?_) <;> (try simp only [BB] at f) <;> (try simp only [numOk, verOk] at f) <;> (try simp (maxSteps := 1000000) (disch := first | omega | (simp only [LN, numOk, verOk, rfP, rvP, rhP, frP] <;> omega) | exact Ck.mk rfl) only [e, VC, T, Nat.reduceMul, Nat.reduceAdd, Nat.reduceSub, Nat.reduceLT, Nat.reduceEqDiff, Nat.reduceLeDiff, Nat.reduceBEq, reduceCtorEq, Int.reduceToNat, ↓reduceIte, rfP, rvP, rhP, frP]) <;> (try clear e)))
  · exact ⟨-1, rfl, fun h => by omega, by omega, by omega⟩
  · refine lp_go (fun x : Nat × Int => ⟨27, [(0, .far (xs.map enP)), (1, .int .i64 x.2), (5, .int .i64 x.1)], []⟩) (fun x => x.1 ≤ xs.length ∧ (0 ≤ x.2 ∧ x.2 ≤ n) ∧ n - xs.length - sumF enZ xs = x.2 - sumF enZ (xs.drop x.1)) (fun x => xs.length - x.1) (0, n - xs.length) ?_ ⟨Nat.zero_le _, by simp only; omega, rfl⟩ ?_
    · (simp (disch := first | omega | (simp only [LN, numOk, verOk] <;> omega) | exact Ck.mk rfl) only [SB, EQ, Nat.reduceMul, Nat.reduceAdd, Nat.reduceSub, Nat.reduceLT, Nat.reduceEqDiff, Nat.reduceLeDiff, Nat.reduceBEq, reduceCtorEq, Int.reduceToNat, ↓reduceIte]; try omega)
    · rintro ⟨i, m⟩ ⟨h1, h2, h3⟩ N hN
      simp only at h1 h2 h3
      have hd := sumF_drop enZ xs i
      have hz : i < xs.length → (xs.getD i default).1.size ≤ 9223372036854775807 := fun h => hs _ (getD_mem _ _ h)
      have hp := sumF_pos enZ enZ_pos (xs.drop (i + 1))
      have hg : i < xs.length → (xs.map enP).getD i .junk = .agg [.str (xs.getD i default).1, .int .i64 (xs.getD i default).2] := fun h => by
        rw [List.getD_eq_getElem?_getD, List.getElem?_map, List.getElem?_eq_getElem h, List.getD_eq_getElem?_getD, List.getElem?_eq_getElem h]; rfl
      (try simp (maxSteps := 1000000) (disch := first | omega | (simp only [LN, numOk, verOk, rfP, rvP, rhP, frP, hg] <;> omega) | exact Ck.mk rfl) only [VC, T, Nat.reduceMul, Nat.reduceAdd, Nat.reduceSub, Nat.reduceLT, Nat.reduceEqDiff, Nat.reduceLeDiff, Nat.reduceBEq, reduceCtorEq, Int.reduceToNat, ↓reduceIte, rfP, rvP, rhP, frP, hg])
      repeat' (first
        | (refine br_go (fun e f => ?_) (fun e f => ?_) <;> (try simp only [BB] at f) <;> (try simp only [numOk, verOk] at f) <;> (try simp (maxSteps := 1000000) (disch := first | omega | (simp only [LN, numOk, verOk, rfP, rvP, rhP, frP, hg] <;> omega) | exact Ck.mk rfl) only [e, VC, T, Nat.reduceMul, Nat.reduceAdd, Nat.reduceSub, Nat.reduceLT, Nat.reduceEqDiff, Nat.reduceLeDiff, Nat.reduceBEq, reduceCtorEq, Int.reduceToNat, ↓reduceIte, rfP, rvP, rhP, frP, hg]) <;> (try clear e))
        | (refine pick_go (fun e f => ?_) (fun e f => ?_) <;> (try simp only [BB] at f) <;> (try simp only [numOk, verOk] at f) <;> (try simp (maxSteps := 1000000) (disch := first | omega | (simp only [LN, numOk, verOk, rfP, rvP, rhP, frP, hg] <;> omega) | exact Ck.mk rfl) only [e, VC, T, Nat.reduceMul, Nat.reduceAdd, Nat.reduceSub, Nat.reduceLT, Nat.reduceEqDiff, Nat.reduceLeDiff, Nat.reduceBEq, reduceCtorEq, Int.reduceToNat, ↓reduceIte, rfP, rvP, rhP, frP, hg]) <;> (try clear e))
        | ((first | refine call_x (laws_szEntry _ _ _ (by omega) (hz (by omega))) rfl ⟨rfl⟩ ?_); (try simp (maxSteps := 1000000) (disch := first | omega | (simp only [LN, numOk, verOk, rfP, rvP, rhP, frP, hg] <;> omega) | exact Ck.mk rfl) only [VC, T, Nat.reduceMul, Nat.reduceAdd, Nat.reduceSub, Nat.reduceLT, Nat.reduceEqDiff, Nat.reduceLeDiff, Nat.reduceBEq, reduceCtorEq, Int.reduceToNat, ↓reduceIte, rfP, rvP, rhP, frP, hg])))
      · exact ⟨-1, rfl, fun h => by omega, by omega, by omega⟩
      · split at f
        · exfalso; omega
        · rename_i hq
          rw [if_neg hq] at *
          refine hN (i + 1, m - (xs.getD i default).1.size) _ ⟨by simp only; omega, ⟨by simp only; omega, by simp only; omega⟩, by simp only; have := hd (by omega); unfold enZ at *; omega⟩ (by simp only; omega) ?_
          (simp (disch := first | omega | (simp only [LN, numOk, verOk] <;> omega) | exact Ck.mk rfl) only [SB, EQ, Nat.reduceMul, Nat.reduceAdd, Nat.reduceSub, Nat.reduceLT, Nat.reduceEqDiff, Nat.reduceLeDiff, Nat.reduceBEq, reduceCtorEq, Int.reduceToNat, ↓reduceIte]; try omega)
      · rw [List.drop_eq_nil_of_le (by omega)] at h3
        exact ⟨m, rfl, fun _ => by rw [h3]; simp [sumF], by omega, by omega⟩
end Go.Pv

/- What functions of the program and of the reference do, in plain values. -/
namespace Go.Pv
open Go.Proofs Go.Mth
set_option linter.unusedSimpArgs false
set_option linter.unusedVariables false
set_option maxHeartbeats 4000000
set_option maxRecDepth 4000

/-! ### the laws' own functions: whole disks -/
def mkNd (k : Int) (i : Int) : Nd := (k + 3 * i, markT (k + 3 * i + 1), k + 3 * i + 2)
def mkEt (k : Int) (i : Int) : Et := (markT (k + 2 * i), k + 2 * i + 1)
theorem laws_markNodeS (xs : List Nd) (k : Int) (hx : xs.length ≤ 1073741824) (hk : 0 ≤ k ∧ k ≤ 1099511627776) (t : TypeId) : FnE Tryz.prog 58 [.row 0 xs.length, .int .i64 k] [(0, .row ⟨3, t⟩ (xs.map ndP))] (fun r m => r = .int .i64 (k + 3 * xs.length) ∧ m = [(0, .row ⟨3, t⟩ (((seqL xs.length 0).map (mkNd k)).map ndP))]) := by
  refine fn_e tok (n := 35) (rs := [.tmp 4]) Tryz.func58 (by decide) rfl rfl rfl rfl (low_of rfl) ?_
  (try simp (maxSteps := 1000000) (disch := first | omega | (simp only [LN, numOk, verOk, rfP, rvP, rhP, frP] <;> omega) | exact Ck.mk rfl) only [VC, T, Nat.reduceMul, Nat.reduceAdd, Nat.reduceSub, Nat.reduceLT, Nat.reduceEqDiff, Nat.reduceLeDiff, Nat.reduceBEq, reduceCtorEq, Int.reduceToNat, ↓reduceIte, rfP, rvP, rhP, frP])
  repeat' (first
    | (refine br_go (fun e f => ?_) (fun e f => ?_) <;> (try simp only [BB] at f) <;> (try simp only [numOk, verOk] at f) <;> (try simp (maxSteps := 1000000) (disch := first | omega | (simp only [LN, numOk, verOk, rfP, rvP, rhP, frP] <;> omega) | exact Ck.mk rfl) only [e, VC, T, Nat.reduceMul, Nat.reduceAdd, Nat.reduceSub, Nat.reduceLT, Nat.reduceEqDiff, Nat.reduceLeDiff, Nat.reduceBEq, reduceCtorEq, Int.reduceToNat, ↓reduceIte, rfP, rvP, rhP, frP]) <;> (try clear e))
    | (refine pick_go (fun e f => ?_) (fun e f => ?_) <;> (try simp only [BB] at f) <;> (try simp only [numOk, verOk] at f) <;> (try simp (maxSteps := 1000000) (disch := first | omega | (simp only [LN, numOk, verOk, rfP, rvP, rhP, frP] <;> omega) | exact Ck.mk rfl) only [e, VC, T, Nat.reduceMul, Nat.reduceAdd, Nat.reduceSub, Nat.reduceLT, Nat.reduceEqDiff, Nat.reduceLeDiff, Nat.reduceBEq, reduceCtorEq, Int.reduceToNat, ↓reduceIte, rfP, rvP, rhP, frP]) <;> (try clear e)))
  refine lp_go (fun i : Nat => ⟨35, [(0, .row 0 xs.length), (1, .int .i64 (k + 3 * i)), (5, .int .i64 i)], [(0, .row ⟨3, t⟩ (((seqL i 0).map (mkNd k) ++ xs.drop i).map ndP))]⟩) (fun i => i ≤ xs.length) (fun i => xs.length - i) 0 ?_ (Nat.zero_le _) ?_
  · (simp (disch := first | omega | (simp only [LN, numOk, verOk] <;> omega) | exact Ck.mk rfl) only [SB, EQ, Nat.reduceMul, Nat.reduceAdd, Nat.reduceSub, Nat.reduceLT, Nat.reduceEqDiff, Nat.reduceLeDiff, Nat.reduceBEq, reduceCtorEq, Int.reduceToNat, ↓reduceIte]; try omega)
    simp [seqL]
  · intro i hi N hN
    have hln : ((seqL i 0).map (mkNd k) ++ xs.drop i).length = xs.length := by rw [List.length_append, List.length_map, seqL_length, List.length_drop]; omega
    have hm := mark_step (mkNd k) xs 0 i
    rw [Int.zero_add] at hm
    generalize hM : (seqL i 0).map (mkNd k) ++ xs.drop i = M at *
    have hg : i < xs.length → (M.map ndP).getD i .junk = ndP (M.getD i default) := fun h => by
      rw [List.getD_eq_getElem?_getD, List.getElem?_map, List.getElem?_eq_getElem (by omega), List.getD_eq_getElem?_getD, List.getElem?_eq_getElem (by omega)]; rfl
    have hu : ∀ (p : Nd) x, upd (ndP p) 0 [x] = .agg [x, .str p.2.1, .int .i64 p.2.2] := fun _ _ => rfl
    have hu2 : ∀ x y z w, upd (.agg [x, y, z]) 1 [w] = .agg [x, w, z] := fun _ _ _ _ => rfl
    have hu3 : ∀ x y z w, upd (.agg [x, y, z]) 2 [w] = .agg [x, y, w] := fun _ _ _ _ => rfl
    have hs1 : i < xs.length → ∀ y, ((M.map ndP).set i y).getD i .junk = y := fun h y => by
      rw [List.getD_eq_getElem?_getD, List.getElem?_set_self (by rw [List.length_map]; omega)]; rfl
    have hss : ∀ a b, ((M.map ndP).set i a).set i b = (M.map ndP).set i b := fun a b => by rw [List.set_set]
    have hset : i < xs.length → (M.map ndP).set i (.agg [.int .i64 (k + 3 * i), .str (markT (k + 3 * i + 1)), .int .i64 (k + 3 * i + 1 + 1)]) = ((seqL (i + 1) 0).map (mkNd k) ++ xs.drop (i + 1)).map ndP := fun h => by
      rw [← hm h, List.map_set]
      unfold mkNd ndP
      simp only [Int.add_assoc]; rfl
    (try simp (maxSteps := 1000000) (disch := first | omega | (simp only [LN, numOk, verOk, rfP, rvP, rhP, frP, hln, hg, hu, hu2, hu3, hs1, hss, hset] <;> omega) | exact Ck.mk rfl) only [VC, T, Nat.reduceMul, Nat.reduceAdd, Nat.reduceSub, Nat.reduceLT, Nat.reduceEqDiff, Nat.reduceLeDiff, Nat.reduceBEq, reduceCtorEq, Int.reduceToNat, ↓reduceIte, rfP, rvP, rhP, frP, hln, hg, hu, hu2, hu3, hs1, hss, hset])
    repeat' (first
      | (refine br_go (fun e f => ?_) (fun e f => ?_) <;> (try simp only [BB] at f) <;> (try simp only [numOk, verOk] at f) <;> (try simp (maxSteps := 1000000) (disch := first | omega | (simp only [LN, numOk, verOk, rfP, rvP, rhP, frP, hln, hg, hu, hu2, hu3, hs1, hss, hset] <;> omega) | exact Ck.mk rfl) only [e, VC, T, Nat.reduceMul, Nat.reduceAdd, Nat.reduceSub, Nat.reduceLT, Nat.reduceEqDiff, Nat.reduceLeDiff, Nat.reduceBEq, reduceCtorEq, Int.reduceToNat, ↓reduceIte, rfP, rvP, rhP, frP, hln, hg, hu, hu2, hu3, hs1, hss, hset]) <;> (try clear e))
      | (refine pick_go (fun e f => ?_) (fun e f => ?_) <;> (try simp only [BB] at f) <;> (try simp only [numOk, verOk] at f) <;> (try simp (maxSteps := 1000000) (disch := first | omega | (simp only [LN, numOk, verOk, rfP, rvP, rhP, frP, hln, hg, hu, hu2, hu3, hs1, hss, hset] <;> omega) | exact Ck.mk rfl) only [e, VC, T, Nat.reduceMul, Nat.reduceAdd, Nat.reduceSub, Nat.reduceLT, Nat.reduceEqDiff, Nat.reduceLeDiff, Nat.reduceBEq, reduceCtorEq, Int.reduceToNat, ↓reduceIte, rfP, rvP, rhP, frP, hln, hg, hu, hu2, hu3, hs1, hss, hset]) <;> (try clear e))
      | ((first | refine call_x (laws_markText _ (by omega)) rfl ⟨rfl⟩ ?_); (try simp (maxSteps := 1000000) (disch := first | omega | (simp only [LN, numOk, verOk, rfP, rvP, rhP, frP, hln, hg, hu, hu2, hu3, hs1, hss, hset] <;> omega) | exact Ck.mk rfl) only [VC, T, Nat.reduceMul, Nat.reduceAdd, Nat.reduceSub, Nat.reduceLT, Nat.reduceEqDiff, Nat.reduceLeDiff, Nat.reduceBEq, reduceCtorEq, Int.reduceToNat, ↓reduceIte, rfP, rvP, rhP, frP, hln, hg, hu, hu2, hu3, hs1, hss, hset])))
    · refine hN (i + 1) _ (by omega) (by omega) ?_
      (simp (disch := first | omega | (simp only [LN, numOk, verOk] <;> omega) | exact Ck.mk rfl) only [SB, EQ, Nat.reduceMul, Nat.reduceAdd, Nat.reduceSub, Nat.reduceLT, Nat.reduceEqDiff, Nat.reduceLeDiff, Nat.reduceBEq, reduceCtorEq, Int.reduceToNat, ↓reduceIte]; try omega)
    · obtain rfl : i = xs.length := by omega
      rw [← hM]
      exact fin_t [] (⟨rfl, rfl⟩) rfl (by simp [RV, RV2, RVl, RV1, tau, tget, hget, data1, oneOf]) (by simp [RH, RVl, RV1, tau, hget, data1]) (by simp [Taus, hget])
theorem laws_markEntryS (xs : List Et) (k : Int) (hx : xs.length ≤ 1073741824) (hk : 0 ≤ k ∧ k ≤ 1099511627776) (t : TypeId) : FnE Tryz.prog 59 [.row 0 xs.length, .int .i64 k] [(0, .row ⟨2, t⟩ (xs.map enP))] (fun r m => r = .int .i64 (k + 2 * xs.length) ∧ m = [(0, .row ⟨2, t⟩ (((seqL xs.length 0).map (mkEt k)).map enP))]) := by
  refine fn_e tok (n := 28) (rs := [.tmp 4]) Tryz.func59 (by decide) rfl rfl rfl rfl (low_of rfl) ?_
  (try simp (maxSteps := 1000000) (disch := first | omega | (simp only [LN, numOk, verOk, rfP, rvP, rhP, frP] <;> omega) | exact Ck.mk rfl) only [VC, T, Nat.reduceMul, Nat.reduceAdd, Nat.reduceSub, Nat.reduceLT, Nat.reduceEqDiff, Nat.reduceLeDiff, Nat.reduceBEq, reduceCtorEq, Int.reduceToNat, ↓reduceIte, rfP, rvP, rhP, frP])
  repeat' (first
    | (refine br_go (fun e f => ?_) (fun e f => ?_) <;> (try simp only [BB] at f) <;> (try simp only [numOk, verOk] at f) <;> (try simp (maxSteps := 1000000) (disch := first | omega | (simp only [LN, numOk, verOk, rfP, rvP, rhP, frP] <;> omega) | exact Ck.mk rfl) only [e, VC, T, Nat.reduceMul, Nat.reduceAdd, Nat.reduceSub, Nat.reduceLT, Nat.reduceEqDiff, Nat.reduceLeDiff, Nat.reduceBEq, reduceCtorEq, Int.reduceToNat, ↓reduceIte, rfP, rvP, rhP, frP]) <;> (try clear e))
    | (refine pick_go (fun e f => ?_) (fun e f => ?_) <;> (try simp only [BB] at f) <;> (try simp only [numOk, verOk] at f) <;> (try simp (maxSteps := 1000000) (disch := first | omega | (simp only [LN, numOk, verOk, rfP, rvP, rhP, frP] <;> omega) | exact Ck.mk rfl) only [e, VC, T, Nat.reduceMul, Nat.reduceAdd, Nat.reduceSub, Nat.reduceLT, Nat.reduceEqDiff, Nat.reduceLeDiff, Nat.reduceBEq, reduceCtorEq, Int.reduceToNat, ↓reduceIte, rfP, rvP, rhP, frP]) <;> (try clear e)))
  refine lp_go (fun i : Nat => ⟨28, [(0, .row 0 xs.length), (1, .int .i64 (k + 2 * i)), (5, .int .i64 i)], [(0, .row ⟨2, t⟩ (((seqL i 0).map (mkEt k) ++ xs.drop i).map enP))]⟩) (fun i => i ≤ xs.length) (fun i => xs.length - i) 0 ?_ (Nat.zero_le _) ?_
  · (simp (disch := first | omega | (simp only [LN, numOk, verOk] <;> omega) | exact Ck.mk rfl) only [SB, EQ, Nat.reduceMul, Nat.reduceAdd, Nat.reduceSub, Nat.reduceLT, Nat.reduceEqDiff, Nat.reduceLeDiff, Nat.reduceBEq, reduceCtorEq, Int.reduceToNat, ↓reduceIte]; try omega)
    simp [seqL]
  · intro i hi N hN
    have hln : ((seqL i 0).map (mkEt k) ++ xs.drop i).length = xs.length := by rw [List.length_append, List.length_map, seqL_length, List.length_drop]; omega
    have hm := mark_step (mkEt k) xs 0 i
    rw [Int.zero_add] at hm
    generalize hM : (seqL i 0).map (mkEt k) ++ xs.drop i = M at *
    have hg : i < xs.length → (M.map enP).getD i .junk = enP (M.getD i default) := fun h => by
      rw [List.getD_eq_getElem?_getD, List.getElem?_map, List.getElem?_eq_getElem (by omega), List.getD_eq_getElem?_getD, List.getElem?_eq_getElem (by omega)]; rfl
    have hu : ∀ (p : Et) x, upd (enP p) 0 [x] = .agg [x, .int .i64 p.2] := fun _ _ => rfl
    have hu2 : ∀ x y z, upd (.agg [x, y]) 1 [z] = .agg [x, z] := fun _ _ _ => rfl
    have hs1 : i < xs.length → ∀ y, ((M.map enP).set i y).getD i .junk = y := fun h y => by
      rw [List.getD_eq_getElem?_getD, List.getElem?_set_self (by rw [List.length_map]; omega)]; rfl
    have hss : ∀ a b, ((M.map enP).set i a).set i b = (M.map enP).set i b := fun a b => by rw [List.set_set]
    have hset : i < xs.length → (M.map enP).set i (.agg [.str (markT (k + 2 * i)), .int .i64 (k + 2 * i + 1)]) = ((seqL (i + 1) 0).map (mkEt k) ++ xs.drop (i + 1)).map enP := fun h => by
      rw [← hm h, List.map_set]; rfl
    (try simp (maxSteps := 1000000) (disch := first | omega | (simp only [LN, numOk, verOk, rfP, rvP, rhP, frP, hln, hg, hu, hu2, hs1, hss, hset] <;> omega) | exact Ck.mk rfl) only [VC, T, Nat.reduceMul, Nat.reduceAdd, Nat.reduceSub, Nat.reduceLT, Nat.reduceEqDiff, Nat.reduceLeDiff, Nat.reduceBEq, reduceCtorEq, Int.reduceToNat, ↓reduceIte, rfP, rvP, rhP, frP, hln, hg, hu, hu2, hs1, hss, hset])
    repeat' (first
      | (refine br_go (fun e f => ?_) (fun e f => ?_) <;> (try simp only [BB] at f) <;> (try simp only [numOk, verOk] at f) <;> (try simp (maxSteps := 1000000) (disch := first | omega | (simp only [LN, numOk, verOk, rfP, rvP, rhP, frP, hln, hg, hu, hu2, hs1, hss, hset] <;> omega) | exact Ck.mk rfl) only [e, VC, T, Nat.reduceMul, Nat.reduceAdd, Nat.reduceSub, Nat.reduceLT, Nat.reduceEqDiff, Nat.reduceLeDiff, Nat.reduceBEq, reduceCtorEq, Int.reduceToNat, ↓reduceIte, rfP, rvP, rhP, frP, hln, hg, hu, hu2, hs1, hss, hset]) <;> (try clear e))
      | (refine pick_go (fun e f => ?_) (fun e f => ?_) <;> (try simp only [BB] at f) <;> (try simp only [numOk, verOk] at f) <;> (try simp (maxSteps := 1000000) (disch := first | omega | (simp only [LN, numOk, verOk, rfP, rvP, rhP, frP, hln, hg, hu, hu2, hs1, hss, hset] <;> omega) | exact Ck.mk rfl) only [e, VC, T, Nat.reduceMul, Nat.reduceAdd, Nat.reduceSub, Nat.reduceLT, Nat.reduceEqDiff, Nat.reduceLeDiff, Nat.reduceBEq, reduceCtorEq, Int.reduceToNat, ↓reduceIte, rfP, rvP, rhP, frP, hln, hg, hu, hu2, hs1, hss, hset]) <;> (try clear e))
      | ((first | refine call_x (laws_markText _ (by omega)) rfl ⟨rfl⟩ ?_); (try simp (maxSteps := 1000000) (disch := first | omega | (simp only [LN, numOk, verOk, rfP, rvP, rhP, frP, hln, hg, hu, hu2, hs1, hss, hset] <;> omega) | exact Ck.mk rfl) only [VC, T, Nat.reduceMul, Nat.reduceAdd, Nat.reduceSub, Nat.reduceLT, Nat.reduceEqDiff, Nat.reduceLeDiff, Nat.reduceBEq, reduceCtorEq, Int.reduceToNat, ↓reduceIte, rfP, rvP, rhP, frP, hln, hg, hu, hu2, hs1, hss, hset])))
    · refine hN (i + 1) _ (by omega) (by omega) ?_
      (simp (disch := first | omega | (simp only [LN, numOk, verOk] <;> omega) | exact Ck.mk rfl) only [SB, EQ, Nat.reduceMul, Nat.reduceAdd, Nat.reduceSub, Nat.reduceLT, Nat.reduceEqDiff, Nat.reduceLeDiff, Nat.reduceBEq, reduceCtorEq, Int.reduceToNat, ↓reduceIte]; try omega)
    · obtain rfl : i = xs.length := by omega
      rw [← hM]
      exact fin_t [] (⟨rfl, rfl⟩) rfl (by simp [RV, RV2, RVl, RV1, tau, tget, hget, data1, oneOf]) (by simp [RH, RVl, RV1, tau, hget, data1]) (by simp [Taus, hget])
/-- A disk whose rows are one's own, from the key K on. -/
def dkR (K : Nat) (d : Dk) : PV := .agg [.row K d.1.length, .row (K + 1) d.2.1.length, .row (K + 2) d.2.2.1.length, .row (K + 3) d.2.2.2.1.length, .int .i64 d.2.2.2.2.1, .int .i64 d.2.2.2.2.2]
def dkH (d : Dk) : Hp := [(64, .row ⟨3, 0⟩ (d.1.map ndP)), (65, .row ⟨2, 0⟩ (d.2.1.map enP)), (66, .row ⟨2, 0⟩ (d.2.2.1.map enP)), (67, .row ⟨1, 0⟩ (d.2.2.2.1.map .str))]
theorem laws_toDisk_R (d : Dk) (h : DkOk d) : FnE Tryz.prog 16 [dkP d] [] (fun r m => r = dkR 64 d ∧ m = dkH d) := by
  obtain ⟨ns, es, os, ss, r, x⟩ := d
  have h1 := h.ns
  have h2 := h.es
  have h3 := h.os
  have h4 := h.ss
  simp only at h1 h2 h3 h4
  unfold dkP
  refine fn_e tok (n := 27) (rs := [.cell 2 32]) Tryz.func16 (by decide) rfl rfl rfl rfl (low_of rfl) ?_
  (try simp (maxSteps := 1000000) (disch := first | omega | (simp only [LN, numOk, verOk, rfP, rvP, rhP, frP] <;> omega) | exact Ck.mk rfl) only [VC, T, Nat.reduceMul, Nat.reduceAdd, Nat.reduceSub, Nat.reduceLT, Nat.reduceEqDiff, Nat.reduceLeDiff, Nat.reduceBEq, reduceCtorEq, Int.reduceToNat, ↓reduceIte, rfP, rvP, rhP, frP])
  repeat' (first
    | (refine br_go (fun e f => ?_) (fun e f => ?_) <;> (try simp only [BB] at f) <;> (try simp only [numOk, verOk] at f) <;> (try simp (maxSteps := 1000000) (disch := first | omega | (simp only [LN, numOk, verOk, rfP, rvP, rhP, frP] <;> omega) | exact Ck.mk rfl) only [e, VC, T, Nat.reduceMul, Nat.reduceAdd, Nat.reduceSub, Nat.reduceLT, Nat.reduceEqDiff, Nat.reduceLeDiff, Nat.reduceBEq, reduceCtorEq, Int.reduceToNat, ↓reduceIte, rfP, rvP, rhP, frP]) <;> (try clear e))
    | (refine pick_go (fun e f => ?_) (fun e f => ?_) <;> (try simp only [BB] at f) <;> (try simp only [numOk, verOk] at f) <;> (try simp (maxSteps := 1000000) (disch := first | omega | (simp only [LN, numOk, verOk, rfP, rvP, rhP, frP] <;> omega) | exact Ck.mk rfl) only [e, VC, T, Nat.reduceMul, Nat.reduceAdd, Nat.reduceSub, Nat.reduceLT, Nat.reduceEqDiff, Nat.reduceLeDiff, Nat.reduceBEq, reduceCtorEq, Int.reduceToNat, ↓reduceIte, rfP, rvP, rhP, frP]) <;> (try clear e))
    | ((first | (refine call_h [] [] (laws_toNodeS_R ns (by omega)) (by decide) rfl rfl ?_; rintro _ _ ⟨rfl, rfl⟩) | (refine call_h [] [] (laws_toEntryS_R es (by omega)) (by decide) rfl rfl ?_; rintro _ _ ⟨rfl, rfl⟩) | (refine call_h [] [] (laws_toEntryS_R os (by omega)) (by decide) rfl rfl ?_; rintro _ _ ⟨rfl, rfl⟩) | (refine call_h [] [] (laws_toStr_R ss (by omega)) (by decide) rfl rfl ?_; rintro _ _ ⟨rfl, rfl⟩)); (try simp (maxSteps := 1000000) (disch := first | omega | (simp only [LN, numOk, verOk, rfP, rvP, rhP, frP] <;> omega) | exact Ck.mk rfl) only [VC, T, Nat.reduceMul, Nat.reduceAdd, Nat.reduceSub, Nat.reduceLT, Nat.reduceEqDiff, Nat.reduceLeDiff, Nat.reduceBEq, reduceCtorEq, Int.reduceToNat, ↓reduceIte, rfP, rvP, rhP, frP])))
  exact fin_t [some 448, some 704, some 960, some 1216] (⟨rfl, rfl⟩) rfl (by simp [RV, RV2, RVl, RV1, tau, tget, hget, data1, oneOf, dkR, dkH]) (by simp [RH, RVl, RV1, tau, hget, data1, dkR, dkH]) (by simp [Taus, hget, dkR, dkH])
theorem laws_toDisk (d : Dk) (h : DkOk d) : Fn Tryz.prog 16 [dkP d] [] (dkP d) [] := by
  obtain ⟨_, _, ⟨rfl, rfl⟩, k⟩ := laws_toDisk_R d h
  refine k.far ?_
  simp [fz, fz2, fz1, cvtl, elems, dkR, dkH, dkP, hget, data1]
theorem laws_eqDisk (x y : Dk) (hx : DkOk x) : Fn Tryz.prog 18 [dkP x, dkP y] [] (.bool (decide (x = y))) [] := by
  obtain ⟨ns, es, os, ss, r, n⟩ := x
  obtain ⟨ns', es', os', ss', r', n'⟩ := y
  have h1 := hx.ns
  have h2 := hx.es
  have h3 := hx.os
  have h4 := hx.ss
  simp only at h1 h2 h3 h4
  unfold dkP
  refine fn_x tok (n := 39) (rs := [.tmp 4]) Tryz.func18 (by decide) rfl rfl rfl rfl ?_
  (try simp (maxSteps := 1000000) (disch := first | omega | (simp only [LN, numOk, verOk, rfP, rvP, rhP, frP] <;> omega) | exact Ck.mk rfl) only [VC, T, Nat.reduceMul, Nat.reduceAdd, Nat.reduceSub, Nat.reduceLT, Nat.reduceEqDiff, Nat.reduceLeDiff, Nat.reduceBEq, reduceCtorEq, Int.reduceToNat, ↓reduceIte, rfP, rvP, rhP, frP])
  repeat' (first
    | (refine br_go (fun e f => ?_) (fun e f => ?_) <;> (try simp only [BB] at f) <;> (try simp only [numOk, verOk] at f) <;> (try simp (maxSteps := 1000000) (disch := first | omega | (simp only [LN, numOk, verOk, rfP, rvP, rhP, frP] <;> omega) | exact Ck.mk rfl) only [e, VC, T, Nat.reduceMul, Nat.reduceAdd, Nat.reduceSub, Nat.reduceLT, Nat.reduceEqDiff, Nat.reduceLeDiff, Nat.reduceBEq, reduceCtorEq, Int.reduceToNat, ↓reduceIte, rfP, rvP, rhP, frP]) <;> (try clear e))
    | (refine pick_go (fun e f => ?_) (fun e f => ?_) <;> (try simp only [BB] at f) <;> (try simp only [numOk, verOk] at f) <;> (try simp (maxSteps := 1000000) (disch := first | omega | (simp only [LN, numOk, verOk, rfP, rvP, rhP, frP] <;> omega) | exact Ck.mk rfl) only [e, VC, T, Nat.reduceMul, Nat.reduceAdd, Nat.reduceSub, Nat.reduceLT, Nat.reduceEqDiff, Nat.reduceLeDiff, Nat.reduceBEq, reduceCtorEq, Int.reduceToNat, ↓reduceIte, rfP, rvP, rhP, frP]) <;> (try clear e))
    | ((first | refine call_x (laws_eqNodeS ns ns' (by omega)) rfl ⟨rfl⟩ ?_ | refine call_x (laws_eqEntryS es es' (by omega)) rfl ⟨rfl⟩ ?_ | refine call_x (laws_eqEntryS os os' (by omega)) rfl ⟨rfl⟩ ?_ | refine call_x (laws_eqStr ss ss' (by omega)) rfl ⟨rfl⟩ ?_); (try simp (maxSteps := 1000000) (disch := first | omega | (simp only [LN, numOk, verOk, rfP, rvP, rhP, frP] <;> omega) | exact Ck.mk rfl) only [VC, T, Nat.reduceMul, Nat.reduceAdd, Nat.reduceSub, Nat.reduceLT, Nat.reduceEqDiff, Nat.reduceLeDiff, Nat.reduceBEq, reduceCtorEq, Int.reduceToNat, ↓reduceIte, rfP, rvP, rhP, frP])))
  all_goals simp_all
theorem laws_szDisk (d : Dk) (n : Int) (hn : 0 ≤ n ∧ n ≤ 1048576) (h1 : d.1.length ≤ 9223372036854775807) (h2 : d.2.1.length ≤ 9223372036854775807) (h3 : d.2.2.1.length ≤ 9223372036854775807) (h4 : d.2.2.2.1.length ≤ 9223372036854775807)
    (k1 : ∀ x ∈ d.1, x.2.1.size ≤ 9223372036854775807) (k2 : ∀ x ∈ d.2.1, x.1.size ≤ 9223372036854775807) (k3 : ∀ x ∈ d.2.2.1, x.1.size ≤ 9223372036854775807) (k4 : ∀ x ∈ d.2.2.2.1, x.size ≤ 9223372036854775807) :
    FnV Tryz.prog 14 [dkP d, .int .i64 n] (fun r => ∃ m : Int, r = .int .i64 m ∧ (0 ≤ m → DkOk d) ∧ -1 ≤ m ∧ m ≤ n) := by
  obtain ⟨ns, es, os, ss, r, x⟩ := d
  simp only at h1 h2 h3 h4 k1 k2 k3 k4
  unfold dkP
  have p1 := sumF_pos ndZ ndZ_pos ns
  have p2 := sumF_pos enZ enZ_pos es
  have p3 := sumF_pos enZ enZ_pos os
  have p4 := sumSz_pos ss
  refine fn_v tok (n := 30) (rs := [.tmp 4]) Tryz.func14 (by decide) rfl rfl rfl rfl ?_
  (try simp (maxSteps := 1000000) (disch := first | omega | (simp only [LN, numOk, verOk, rfP, rvP, rhP, frP] <;> omega) | exact Ck.mk rfl) only [VC, T, Nat.reduceMul, Nat.reduceAdd, Nat.reduceSub, Nat.reduceLT, Nat.reduceEqDiff, Nat.reduceLeDiff, Nat.reduceBEq, reduceCtorEq, Int.reduceToNat, ↓reduceIte, rfP, rvP, rhP, frP])
  repeat' (first
    | (refine br_go (fun e f => ?_) (fun e f => ?_) <;> (try simp only [BB] at f) <;> (try simp only [numOk, verOk] at f) <;> (try simp (maxSteps := 1000000) (disch := first | omega | (simp only [LN, numOk, verOk, rfP, rvP, rhP, frP] <;> omega) | exact Ck.mk rfl) only [e, VC, T, Nat.reduceMul, Nat.reduceAdd, Nat.reduceSub, Nat.reduceLT, Nat.reduceEqDiff, Nat.reduceLeDiff, Nat.reduceBEq, reduceCtorEq, Int.reduceToNat, ↓reduceIte, rfP, rvP, rhP, frP]) <;> (try clear e))
    | (refine pick_go (fun e f => ?_) (fun e f => ?_) <;> (try simp only [BB] at f) <;> (try simp only [numOk, verOk] at f) <;> (try simp (maxSteps := 1000000) (disch := first | omega | (simp only [LN, numOk, verOk, rfP, rvP, rhP, frP] <;> omega) | exact Ck.mk rfl) only [e, VC, T, Nat.reduceMul, Nat.reduceAdd, Nat.reduceSub, Nat.reduceLT, Nat.reduceEqDiff, Nat.reduceLeDiff, Nat.reduceBEq, reduceCtorEq, Int.reduceToNat, ↓reduceIte, rfP, rvP, rhP, frP]) <;> (try clear e)))
  refine call_v (laws_szNodeS ns n hn h1 k1) rfl ?_
  rintro _ ⟨m1, rfl, q1, q2, q3⟩
  refine ⟨⟨rfl⟩, ?_⟩
  (try simp (maxSteps := 1000000) (disch := first | omega | (simp only [LN, numOk, verOk, rfP, rvP, rhP, frP] <;> omega) | exact Ck.mk rfl) only [VC, T, Nat.reduceMul, Nat.reduceAdd, Nat.reduceSub, Nat.reduceLT, Nat.reduceEqDiff, Nat.reduceLeDiff, Nat.reduceBEq, reduceCtorEq, Int.reduceToNat, ↓reduceIte, rfP, rvP, rhP, frP])
  repeat' (first
    | (refine br_go (fun e f => ?_) (fun e f => ?_) <;> (try simp only [BB] at f) <;> (try simp only [numOk, verOk] at f) <;> (try simp (maxSteps := 1000000) (disch := first | omega | (simp only [LN, numOk, verOk, rfP, rvP, rhP, frP] <;> omega) | exact Ck.mk rfl) only [e, VC, T, Nat.reduceMul, Nat.reduceAdd, Nat.reduceSub, Nat.reduceLT, Nat.reduceEqDiff, Nat.reduceLeDiff, Nat.reduceBEq, reduceCtorEq, Int.reduceToNat, ↓reduceIte, rfP, rvP, rhP, frP]) <;> (try clear e))
    | (refine pick_go (fun e f => ?_) (fun e f => ?_) <;> (try simp only [BB] at f) <;> (try simp only [numOk, verOk] at f) <;> (try simp (maxSteps := 1000000) (disch := first | omega | (simp only [LN, numOk, verOk, rfP, rvP, rhP, frP] <;> omega) | exact Ck.mk rfl) only [e, VC, T, Nat.reduceMul, Nat.reduceAdd, Nat.reduceSub, Nat.reduceLT, Nat.reduceEqDiff, Nat.reduceLeDiff, Nat.reduceBEq, reduceCtorEq, Int.reduceToNat, ↓reduceIte, rfP, rvP, rhP, frP]) <;> (try clear e)))
  · exact ⟨-1, rfl, fun h => by omega, by omega, by omega⟩
  · refine call_v (laws_szEntryS es m1 (by omega) h2 k2) rfl ?_
    rintro _ ⟨m2, rfl, q4, q5, q6⟩
    refine ⟨⟨rfl⟩, ?_⟩
    (try simp (maxSteps := 1000000) (disch := first | omega | (simp only [LN, numOk, verOk, rfP, rvP, rhP, frP] <;> omega) | exact Ck.mk rfl) only [VC, T, Nat.reduceMul, Nat.reduceAdd, Nat.reduceSub, Nat.reduceLT, Nat.reduceEqDiff, Nat.reduceLeDiff, Nat.reduceBEq, reduceCtorEq, Int.reduceToNat, ↓reduceIte, rfP, rvP, rhP, frP])
    repeat' (first
      | (refine br_go (fun e f => ?_) (fun e f => ?_) <;> (try simp only [BB] at f) <;> (try simp only [numOk, verOk] at f) <;> (try simp (maxSteps := 1000000) (disch := first | omega | (simp only [LN, numOk, verOk, rfP, rvP, rhP, frP] <;> omega) | exact Ck.mk rfl) only [e, VC, T, Nat.reduceMul, Nat.reduceAdd, Nat.reduceSub, Nat.reduceLT, Nat.reduceEqDiff, Nat.reduceLeDiff, Nat.reduceBEq, reduceCtorEq, Int.reduceToNat, ↓reduceIte, rfP, rvP, rhP, frP]) <;> (try clear e))
      | (refine pick_go (fun e f => ?_) (fun e f => ?_) <;> (try simp only [BB] at f) <;> (try simp only [numOk, verOk] at f) <;> (try simp (maxSteps := 1000000) (disch := first | omega | (simp only [LN, numOk, verOk, rfP, rvP, rhP, frP] <;> omega) | exact Ck.mk rfl) only [e, VC, T, Nat.reduceMul, Nat.reduceAdd, Nat.reduceSub, Nat.reduceLT, Nat.reduceEqDiff, Nat.reduceLeDiff, Nat.reduceBEq, reduceCtorEq, Int.reduceToNat, ↓reduceIte, rfP, rvP, rhP, frP]) <;> (try clear e)))
    · exact ⟨-1, rfl, fun h => by omega, by omega, by omega⟩
    · refine call_v (laws_szEntryS os m2 (by omega) h3 k3) rfl ?_
      rintro _ ⟨m3, rfl, q7, q8, q9⟩
      refine ⟨⟨rfl⟩, ?_⟩
      (try simp (maxSteps := 1000000) (disch := first | omega | (simp only [LN, numOk, verOk, rfP, rvP, rhP, frP] <;> omega) | exact Ck.mk rfl) only [VC, T, Nat.reduceMul, Nat.reduceAdd, Nat.reduceSub, Nat.reduceLT, Nat.reduceEqDiff, Nat.reduceLeDiff, Nat.reduceBEq, reduceCtorEq, Int.reduceToNat, ↓reduceIte, rfP, rvP, rhP, frP])
      repeat' (first
        | (refine br_go (fun e f => ?_) (fun e f => ?_) <;> (try simp only [BB] at f) <;> (try simp only [numOk, verOk] at f) <;> (try simp (maxSteps := 1000000) (disch := first | omega | (simp only [LN, numOk, verOk, rfP, rvP, rhP, frP] <;> omega) | exact Ck.mk rfl) only [e, VC, T, Nat.reduceMul, Nat.reduceAdd, Nat.reduceSub, Nat.reduceLT, Nat.reduceEqDiff, Nat.reduceLeDiff, Nat.reduceBEq, reduceCtorEq, Int.reduceToNat, ↓reduceIte, rfP, rvP, rhP, frP]) <;> (try clear e))
        | (refine pick_go (fun e f => ?_) (fun e f => ?_) <;> (try simp only [BB] at f) <;> (try simp only [numOk, verOk] at f) <;> (try simp (maxSteps := 1000000) (disch := first | omega | (simp only [LN, numOk, verOk, rfP, rvP, rhP, frP] <;> omega) | exact Ck.mk rfl) only [e, VC, T, Nat.reduceMul, Nat.reduceAdd, Nat.reduceSub, Nat.reduceLT, Nat.reduceEqDiff, Nat.reduceLeDiff, Nat.reduceBEq, reduceCtorEq, Int.reduceToNat, ↓reduceIte, rfP, rvP, rhP, frP]) <;> (try clear e)))
      · exact ⟨-1, rfl, fun h => by omega, by omega, by omega⟩
      · refine call_v (laws_szStringS ss m3 (by omega) h4 k4) rfl ?_
        rintro _ ⟨m4, rfl, q10, q11, q12⟩
        refine ⟨⟨rfl⟩, ?_⟩
        (try simp (maxSteps := 1000000) (disch := first | omega | (simp only [LN, numOk, verOk, rfP, rvP, rhP, frP] <;> omega) | exact Ck.mk rfl) only [VC, T, Nat.reduceMul, Nat.reduceAdd, Nat.reduceSub, Nat.reduceLT, Nat.reduceEqDiff, Nat.reduceLeDiff, Nat.reduceBEq, reduceCtorEq, Int.reduceToNat, ↓reduceIte, rfP, rvP, rhP, frP])
        repeat' (first
          | (refine br_go (fun e f => ?_) (fun e f => ?_) <;> (try simp only [BB] at f) <;> (try simp only [numOk, verOk] at f) <;> (try simp (maxSteps := 1000000) (disch := first | omega | (simp only [LN, numOk, verOk, rfP, rvP, rhP, frP] <;> omega) | exact Ck.mk rfl) only [e, VC, T, Nat.reduceMul, Nat.reduceAdd, Nat.reduceSub, Nat.reduceLT, Nat.reduceEqDiff, Nat.reduceLeDiff, Nat.reduceBEq, reduceCtorEq, Int.reduceToNat, ↓reduceIte, rfP, rvP, rhP, frP]) <;> (try clear e))
          | (refine pick_go (fun e f => ?_) (fun e f => ?_) <;> (try simp only [BB] at f) <;> (try simp only [numOk, verOk] at f) <;> (try simp (maxSteps := 1000000) (disch := first | omega | (simp only [LN, numOk, verOk, rfP, rvP, rhP, frP] <;> omega) | exact Ck.mk rfl) only [e, VC, T, Nat.reduceMul, Nat.reduceAdd, Nat.reduceSub, Nat.reduceLT, Nat.reduceEqDiff, Nat.reduceLeDiff, Nat.reduceBEq, reduceCtorEq, Int.reduceToNat, ↓reduceIte, rfP, rvP, rhP, frP]) <;> (try clear e)))
        · exact ⟨-1, rfl, fun h => by omega, by omega, by omega⟩
        · refine ⟨m4, rfl, fun h => ?_, by omega, by omega⟩
          have e1 := q1 (by omega)
          have e2 := q4 (by omega)
          have e3 := q7 (by omega)
          have e4 := q10 h
          refine ⟨by simp only; omega, by simp only; omega, by simp only; omega, by simp only; omega, fun y hy => ?_, fun y hy => ?_, fun y hy => ?_, fun y hy => ?_⟩
          · have : (y.2.1.size : Int) ≤ sumF ndZ ns := sumF_mem ndZ ndZ_pos hy
            omega
          · have : (y.1.size : Int) ≤ sumF enZ es := sumF_mem enZ enZ_pos hy
            omega
          · have : (y.1.size : Int) ≤ sumF enZ os := sumF_mem enZ enZ_pos hy
            omega
          · have : (y.size : Int) ≤ sumSz ss := sumSz_mem hy
            omega
theorem laws_markDisk (d : Dk) (k : Int) (h : DkOk d) (hk : 0 ≤ k ∧ k ≤ 1073741824) (t1 t2 t3 t4 : TypeId) :
    FnE Tryz.prog 24 [dkR 0 d, .int .i64 k] [(0, .row ⟨3, t1⟩ (d.1.map ndP)), (1, .row ⟨2, t2⟩ (d.2.1.map enP)), (2, .row ⟨2, t3⟩ (d.2.2.1.map enP)), (3, .row ⟨1, t4⟩ (d.2.2.2.1.map .str))]
      (fun r m => r = .int .i64 (k + 3 * d.1.length + 2 * d.2.1.length + 2 * d.2.2.1.length + d.2.2.2.1.length) ∧ m = [(0, .row ⟨3, t1⟩ (((seqL d.1.length 0).map (mkNd k)).map ndP)), (1, .row ⟨2, t2⟩ (((seqL d.2.1.length 0).map (mkEt (k + 3 * d.1.length))).map enP)),
        (2, .row ⟨2, t3⟩ (((seqL d.2.2.1.length 0).map (mkEt (k + 3 * d.1.length + 2 * d.2.1.length))).map enP)), (3, .row ⟨1, t4⟩ (((seqL d.2.2.2.1.length (k + 3 * d.1.length + 2 * d.2.1.length + 2 * d.2.2.1.length)).map markT).map .str))]) := by
  obtain ⟨ns, es, os, ss, r, x⟩ := d
  have h1 := h.ns
  have h2 := h.es
  have h3 := h.os
  have h4 := h.ss
  simp only at h1 h2 h3 h4
  unfold dkR
  refine fn_e tok (n := 22) (rs := [.tmp 4]) Tryz.func24 (by decide) rfl rfl rfl rfl (low_of rfl) ?_
  (try simp (maxSteps := 1000000) (disch := first | omega | (simp only [LN, numOk, verOk, rfP, rvP, rhP, frP, seqL_length, List.length_map] <;> omega) | exact Ck.mk rfl) only [VC, T, Nat.reduceMul, Nat.reduceAdd, Nat.reduceSub, Nat.reduceLT, Nat.reduceEqDiff, Nat.reduceLeDiff, Nat.reduceBEq, reduceCtorEq, Int.reduceToNat, ↓reduceIte, rfP, rvP, rhP, frP, seqL_length, List.length_map])
  repeat' (first
    | (refine br_go (fun e f => ?_) (fun e f => ?_) <;> (try simp only [BB] at f) <;> (try simp only [numOk, verOk] at f) <;> (try simp (maxSteps := 1000000) (disch := first | omega | (simp only [LN, numOk, verOk, rfP, rvP, rhP, frP, seqL_length, List.length_map] <;> omega) | exact Ck.mk rfl) only [e, VC, T, Nat.reduceMul, Nat.reduceAdd, Nat.reduceSub, Nat.reduceLT, Nat.reduceEqDiff, Nat.reduceLeDiff, Nat.reduceBEq, reduceCtorEq, Int.reduceToNat, ↓reduceIte, rfP, rvP, rhP, frP, seqL_length, List.length_map]) <;> (try clear e))
    | (refine pick_go (fun e f => ?_) (fun e f => ?_) <;> (try simp only [BB] at f) <;> (try simp only [numOk, verOk] at f) <;> (try simp (maxSteps := 1000000) (disch := first | omega | (simp only [LN, numOk, verOk, rfP, rvP, rhP, frP, seqL_length, List.length_map] <;> omega) | exact Ck.mk rfl) only [e, VC, T, Nat.reduceMul, Nat.reduceAdd, Nat.reduceSub, Nat.reduceLT, Nat.reduceEqDiff, Nat.reduceLeDiff, Nat.reduceBEq, reduceCtorEq, Int.reduceToNat, ↓reduceIte, rfP, rvP, rhP, frP, seqL_length, List.length_map]) <;> (try clear e))
    | ((first | (refine call_h [0] [] (laws_markNodeS ns k (by omega) (by omega) t1) (by decide) rfl rfl ?_; rintro _ _ ⟨rfl, rfl⟩) | (refine call_h [1] [] (laws_markEntryS es _ (by omega) (by omega) t2) (by decide) rfl rfl ?_; rintro _ _ ⟨rfl, rfl⟩) | (refine call_h [2] [] (laws_markEntryS os _ (by omega) (by omega) t3) (by decide) rfl rfl ?_; rintro _ _ ⟨rfl, rfl⟩) | (refine call_h [3] [] (laws_markStringS ss _ (by omega) (by omega) t4) (by decide) rfl rfl ?_; rintro _ _ ⟨rfl, rfl⟩)); (try simp (maxSteps := 1000000) (disch := first | omega | (simp only [LN, numOk, verOk, rfP, rvP, rhP, frP, seqL_length, List.length_map] <;> omega) | exact Ck.mk rfl) only [VC, T, Nat.reduceMul, Nat.reduceAdd, Nat.reduceSub, Nat.reduceLT, Nat.reduceEqDiff, Nat.reduceLeDiff, Nat.reduceBEq, reduceCtorEq, Int.reduceToNat, ↓reduceIte, rfP, rvP, rhP, frP, seqL_length, List.length_map])))
  exact fin_t [] (⟨rfl, rfl⟩) rfl (by simp [RV, RV2, RVl, RV1, tau, tget, hget, data1, oneOf]) (by simp [RH, RVl, RV1, tau, hget, data1]) (by simp [Taus, hget])
end Go.Pv

/- What functions of the program and of the reference do, in plain values. -/
namespace Go.Pv
open Go.Proofs Go.Mth
set_option linter.unusedSimpArgs false
set_option linter.unusedVariables false
set_option maxHeartbeats 4000000
set_option maxRecDepth 4000

/-! ### rows with some taken out -/
theorem impl_BasesBehind_lit (x b : Int) : Fn Tryz.prog 66 [.int .i64 x, .fel [.int .i64 b]] [] (.bool (decide (x ≤ b))) [] := by
  refine fn_x tok (n := 7) (rs := [.tmp 3]) Tryz.func66 (by decide) rfl rfl rfl rfl ?_
  (try simp (maxSteps := 1000000) (disch := first | omega | (simp only [LN, numOk, verOk, rfP, rvP, rhP, frP, bkd] <;> omega) | exact Ck.mk rfl) only [VC, T, Nat.reduceMul, Nat.reduceAdd, Nat.reduceSub, Nat.reduceLT, Nat.reduceEqDiff, Nat.reduceLeDiff, Nat.reduceBEq, reduceCtorEq, Int.reduceToNat, ↓reduceIte, rfP, rvP, rhP, frP, bkd])
  repeat' (first
    | (refine br_go (fun e f => ?_) (fun e f => ?_) <;> (try simp only [BB] at f) <;> (try simp only [numOk, verOk] at f) <;> (try simp (maxSteps := 1000000) (disch := first | omega | (simp only [LN, numOk, verOk, rfP, rvP, rhP, frP, bkd] <;> omega) | exact Ck.mk rfl) only [e, VC, T, Nat.reduceMul, Nat.reduceAdd, Nat.reduceSub, Nat.reduceLT, Nat.reduceEqDiff, Nat.reduceLeDiff, Nat.reduceBEq, reduceCtorEq, Int.reduceToNat, ↓reduceIte, rfP, rvP, rhP, frP, bkd]) <;> (try clear e))
    | (refine pick_go (fun e f => ?_) (fun e f => ?_) <;> (try simp only [BB] at f) <;> (try simp only [numOk, verOk] at f) <;> (try simp (maxSteps := 1000000) (disch := first | omega | (simp only [LN, numOk, verOk, rfP, rvP, rhP, frP, bkd] <;> omega) | exact Ck.mk rfl) only [e, VC, T, Nat.reduceMul, Nat.reduceAdd, Nat.reduceSub, Nat.reduceLT, Nat.reduceEqDiff, Nat.reduceLeDiff, Nat.reduceBEq, reduceCtorEq, Int.reduceToNat, ↓reduceIte, rfP, rvP, rhP, frP, bkd]) <;> (try clear e)))
theorem indexB (L : List Int) (b : Int) (hl : L.length ≤ 1048576) : Fn Tryz.prog 93 [.far (L.map (.int .i64)), .fn (.func 66) [.fel [.int .i64 b]]] [] (.int .i64 (findI (fun x => decide (x ≤ b)) L 0)) [] := by
  have hst := findI_step (fun x : Int => decide (x ≤ b)) L
  have hen := findI_end (fun x : Int => decide (x ≤ b)) L
  refine fn_x tok (n := 19) (rs := [.tmp 4]) Tryz.func93 (by decide) rfl rfl rfl rfl ?_
  (try simp (maxSteps := 1000000) (disch := first | omega | (simp only [LN, numOk, verOk, rfP, rvP, rhP, frP, bkd] <;> omega) | exact Ck.mk rfl) only [VC, T, Nat.reduceMul, Nat.reduceAdd, Nat.reduceSub, Nat.reduceLT, Nat.reduceEqDiff, Nat.reduceLeDiff, Nat.reduceBEq, reduceCtorEq, Int.reduceToNat, ↓reduceIte, rfP, rvP, rhP, frP, bkd])
  repeat' (first
    | (refine br_go (fun e f => ?_) (fun e f => ?_) <;> (try simp only [BB] at f) <;> (try simp only [numOk, verOk] at f) <;> (try simp (maxSteps := 1000000) (disch := first | omega | (simp only [LN, numOk, verOk, rfP, rvP, rhP, frP, bkd] <;> omega) | exact Ck.mk rfl) only [e, VC, T, Nat.reduceMul, Nat.reduceAdd, Nat.reduceSub, Nat.reduceLT, Nat.reduceEqDiff, Nat.reduceLeDiff, Nat.reduceBEq, reduceCtorEq, Int.reduceToNat, ↓reduceIte, rfP, rvP, rhP, frP, bkd]) <;> (try clear e))
    | (refine pick_go (fun e f => ?_) (fun e f => ?_) <;> (try simp only [BB] at f) <;> (try simp only [numOk, verOk] at f) <;> (try simp (maxSteps := 1000000) (disch := first | omega | (simp only [LN, numOk, verOk, rfP, rvP, rhP, frP, bkd] <;> omega) | exact Ck.mk rfl) only [e, VC, T, Nat.reduceMul, Nat.reduceAdd, Nat.reduceSub, Nat.reduceLT, Nat.reduceEqDiff, Nat.reduceLeDiff, Nat.reduceBEq, reduceCtorEq, Int.reduceToNat, ↓reduceIte, rfP, rvP, rhP, frP, bkd]) <;> (try clear e)))
  refine lp_go (fun i : Nat => ⟨19, [(0, .far (L.map (.int .i64))), (1, .fn (.func 66) [.fel [.int .i64 b]]), (7, .int .i64 L.length), (8, .int .i64 i)], []⟩) (fun i => i ≤ L.length ∧ findI (fun x => decide (x ≤ b)) L 0 = findI (fun x => decide (x ≤ b)) (L.drop i) i) (fun i => L.length - i) 0 ?_ ⟨Nat.zero_le _, rfl⟩ ?_
  · (simp (disch := first | omega | (simp only [LN, numOk, verOk] <;> omega) | exact Ck.mk rfl) only [SB, EQ, Nat.reduceMul, Nat.reduceAdd, Nat.reduceSub, Nat.reduceLT, Nat.reduceEqDiff, Nat.reduceLeDiff, Nat.reduceBEq, reduceCtorEq, Int.reduceToNat, ↓reduceIte]; try omega)
  · rintro i ⟨h1, h2⟩ N hN
    have hst := hst i
    have hen := hen i
    (try simp (maxSteps := 1000000) (disch := first | omega | (simp only [LN, numOk, verOk, rfP, rvP, rhP, frP, bkd] <;> omega) | exact Ck.mk rfl) only [VC, T, Nat.reduceMul, Nat.reduceAdd, Nat.reduceSub, Nat.reduceLT, Nat.reduceEqDiff, Nat.reduceLeDiff, Nat.reduceBEq, reduceCtorEq, Int.reduceToNat, ↓reduceIte, rfP, rvP, rhP, frP, bkd])
    repeat' (first
      | (refine br_go (fun e f => ?_) (fun e f => ?_) <;> (try simp only [BB] at f) <;> (try simp only [numOk, verOk] at f) <;> (try simp (maxSteps := 1000000) (disch := first | omega | (simp only [LN, numOk, verOk, rfP, rvP, rhP, frP, bkd] <;> omega) | exact Ck.mk rfl) only [e, VC, T, Nat.reduceMul, Nat.reduceAdd, Nat.reduceSub, Nat.reduceLT, Nat.reduceEqDiff, Nat.reduceLeDiff, Nat.reduceBEq, reduceCtorEq, Int.reduceToNat, ↓reduceIte, rfP, rvP, rhP, frP, bkd]) <;> (try clear e))
      | (refine pick_go (fun e f => ?_) (fun e f => ?_) <;> (try simp only [BB] at f) <;> (try simp only [numOk, verOk] at f) <;> (try simp (maxSteps := 1000000) (disch := first | omega | (simp only [LN, numOk, verOk, rfP, rvP, rhP, frP, bkd] <;> omega) | exact Ck.mk rfl) only [e, VC, T, Nat.reduceMul, Nat.reduceAdd, Nat.reduceSub, Nat.reduceLT, Nat.reduceEqDiff, Nat.reduceLeDiff, Nat.reduceBEq, reduceCtorEq, Int.reduceToNat, ↓reduceIte, rfP, rvP, rhP, frP, bkd]) <;> (try clear e))
      | ((first | refine call_x (impl_BasesBehind_lit _ b) rfl ⟨rfl⟩ ?_); (try simp (maxSteps := 1000000) (disch := first | omega | (simp only [LN, numOk, verOk, rfP, rvP, rhP, frP, bkd] <;> omega) | exact Ck.mk rfl) only [VC, T, Nat.reduceMul, Nat.reduceAdd, Nat.reduceSub, Nat.reduceLT, Nat.reduceEqDiff, Nat.reduceLeDiff, Nat.reduceBEq, reduceCtorEq, Int.reduceToNat, ↓reduceIte, rfP, rvP, rhP, frP, bkd])))
    · rw [h2, hst (by omega), if_pos (decide_eq_true f)]
    · refine hN (i + 1) _ ⟨by omega, ?_⟩ (by omega) ?_
      · rw [h2, hst (by omega), if_neg (by rw [decide_eq_false (by omega)]; decide)]
      · (simp (disch := first | omega | (simp only [LN, numOk, verOk] <;> omega) | exact Ck.mk rfl) only [SB, EQ, Nat.reduceMul, Nat.reduceAdd, Nat.reduceSub, Nat.reduceLT, Nat.reduceEqDiff, Nat.reduceLeDiff, Nat.reduceBEq, reduceCtorEq, Int.reduceToNat, ↓reduceIte]; try omega)
    · rw [h2, hen (by omega)]
/-- Some of a row, moved to its beginning. -/
structure Kept (p : Int → Bool) (L M : List Int) (i j : Nat) : Prop where
  len : M.length = L.length
  lt : i < j
  le : j ≤ L.length
  fst : M.take i = (L.take j).filter p
  snd : M.drop j = L.drop j
theorem Kept.first {p : Int → Bool} {L : List Int} {k : Nat} (hk : k < L.length) (h1 : ∀ j, j < k → p (L.getD j default) = true) (h2 : p (L.getD k default) = false) : Kept p L L k (k + 1) := by
  refine ⟨rfl, by omega, by omega, ?_, rfl⟩
  rw [take_snoc default L k hk, List.filter_append]
  have e : (L.take k).filter p = L.take k := by
    rw [List.filter_eq_self]
    intro x hx
    obtain ⟨j, hj, rfl⟩ := List.mem_iff_getElem.1 hx
    rw [List.length_take] at hj
    have := h1 j (by omega)
    rw [List.getD_eq_getElem?_getD, List.getElem?_eq_getElem (by omega)] at this
    rw [List.getElem_take]
    exact this
  have e2 : [rd L k].filter p = [] := by
    have : rd L k = L.getD k default := rfl
    rw [this, List.filter_cons_of_neg (by rw [h2]; decide)]; rfl
  rw [e]
  show _ = _ ++ List.filter p [_]
  rw [show List.filter p [rdOf default L k] = [] from e2, List.append_nil]
theorem Kept.at {p : Int → Bool} {L M : List Int} {i j : Nat} (h : Kept p L M i j) (hj : j < L.length) : M.getD j default = L.getD j default := by
  have h1 := congrArg (fun l => l.head?) h.snd
  simp only [List.head?_drop] at h1
  rw [List.getD_eq_getElem?_getD, List.getD_eq_getElem?_getD, h1]
theorem Kept.skip {p : Int → Bool} {L M : List Int} {i j : Nat} (h : Kept p L M i j) (hj : j < L.length) (hp : p (L.getD j default) = false) : Kept p L M i (j + 1) := by
  refine ⟨h.len, by have := h.lt; omega, by omega, ?_, ?_⟩
  · rw [h.fst, take_snoc default L j hj, List.filter_append]
    show _ = _ ++ List.filter p [_]
    have e2 : [rdOf default L j].filter p = [] := by
      have : rdOf default L (j : Int) = L.getD j default := rfl
      rw [this, List.filter_cons_of_neg (by rw [hp]; decide)]; rfl
    rw [e2, List.append_nil]
  · have := congrArg (fun l => l.drop 1) h.snd
    simpa [List.drop_drop] using this
theorem Kept.take {p : Int → Bool} {L M : List Int} {i j : Nat} (h : Kept p L M i j) (hj : j < L.length) (hp : p (L.getD j default) = true) : Kept p L (M.set i (L.getD j default)) (i + 1) (j + 1) := by
  have hlt := h.lt
  have hln := h.len
  refine ⟨by rw [List.length_set]; exact h.len, by omega, by omega, ?_, ?_⟩
  · rw [take_snoc default L j hj, List.filter_append, ← h.fst]
    have e2 : [rdOf default L j].filter p = [L.getD j default] := by
      have : rdOf default L (j : Int) = L.getD j default := rfl
      rw [this, List.filter_cons_of_pos hp]; rfl
    rw [e2, List.take_add_one, List.take_set_of_le (Nat.le_refl i), List.getElem?_set_self (by omega)]
    rfl
  · rw [List.drop_set_of_lt (by omega)]
    have := congrArg (fun l => l.drop 1) h.snd
    simpa [List.drop_drop] using this
theorem Kept.done {p : Int → Bool} {L M : List Int} {i : Nat} (h : Kept p L M i L.length) : M.take i = L.filter p ∧ (L.filter p).length = i ∧ i < L.length := by
  have h1 := h.fst
  rw [List.take_length] at h1
  refine ⟨h1, ?_, h.lt⟩
  rw [← h1, List.length_take]
  have := h.lt
  have := h.len
  omega
/-- A row, or the first part of one. -/
def Jz (k : Nat) : List PV := List.replicate k (.agg (List.replicate 1 .junk))
theorem Jz_len (k : Nat) : (Jz k).length = k := List.length_replicate
theorem nfx_cut {F : List PV} (k : Nat) (h : nfx F) : nfx (F ++ Jz k) := fun x hx y hy => by
  rcases List.mem_append.1 hx with hx | hx
  · exact h x hx y hy
  · rw [List.eq_of_mem_replicate hx] at hy
    have : y = .junk := List.eq_of_mem_replicate (n := 1) hy
    rw [this]; rfl
theorem nfx_cutI (l : List Int) (k : Nat) : nfx (l.map (PV.int .i64) ++ Jz k) = True := eq_true (nfx_cut k (of_eq_true (nfx_int l .i64)))
theorem nfx_cutS (l : List ByteArray) (k : Nat) : nfx (l.map PV.str ++ Jz k) = True := eq_true (nfx_cut k (of_eq_true (nfx_str l)))
def Cut (F : List PV) (r : PV) (m : Hp) : Prop := (r = .row 64 F.length ∧ m = [(64, .row ⟨1, 0⟩ F)]) ∨ ∃ (n z : Nat), r = .view 64 n 0 F.length ∧ (F.length < n ∧ n ≤ 1048576) ∧ n = F.length + z ∧ m = [(64, .row ⟨1, 0⟩ (F ++ Jz z))]
def Cut0 (F : List PV) (n : Nat) (r : PV) (m : Hp) : Prop := (r = .row 0 n ∧ n = F.length ∧ m = [(0, .row ⟨1, 0⟩ F)]) ∨ ∃ z : Nat, r = .view 0 n 0 F.length ∧ F.length < n ∧ n = F.length + z ∧ m = [(0, .row ⟨1, 0⟩ (F ++ Jz z))]
theorem deleteB (L : List Int) (b : Int) (hl : L.length ≤ 1048576) : FnE Tryz.prog 65 [.row 0 L.length, .fn (.func 66) [.fel [.int .i64 b]]] [(0, .row ⟨1, 0⟩ (L.map (.int .i64)))] (Cut0 ((L.filter fun x => decide (b < x)).map (.int .i64)) L.length) := by
  have hI := indexB L b hl
  have hc := findI_cases (fun x : Int => decide (x ≤ b)) L 0
  generalize findI (fun x : Int => decide (x ≤ b)) L 0 = q at *
  refine fn_e tok (n := 42) (rs := [.tmp 4]) Tryz.func65 (by decide) rfl rfl rfl rfl (low_of rfl) ?_
  (try simp (maxSteps := 1000000) (disch := first | omega | (simp only [LN, numOk, verOk, rfP, rvP, rhP, frP, bkd] <;> omega) | exact Ck.mk rfl) only [VC, T, Nat.reduceMul, Nat.reduceAdd, Nat.reduceSub, Nat.reduceLT, Nat.reduceEqDiff, Nat.reduceLeDiff, Nat.reduceBEq, reduceCtorEq, Int.reduceToNat, ↓reduceIte, rfP, rvP, rhP, frP, bkd])
  repeat' (first
    | (refine br_go (fun e f => ?_) (fun e f => ?_) <;> (try simp only [BB] at f) <;> (try simp only [numOk, verOk] at f) <;> (try simp (maxSteps := 1000000) (disch := first | omega | (simp only [LN, numOk, verOk, rfP, rvP, rhP, frP, bkd] <;> omega) | exact Ck.mk rfl) only [e, VC, T, Nat.reduceMul, Nat.reduceAdd, Nat.reduceSub, Nat.reduceLT, Nat.reduceEqDiff, Nat.reduceLeDiff, Nat.reduceBEq, reduceCtorEq, Int.reduceToNat, ↓reduceIte, rfP, rvP, rhP, frP, bkd]) <;> (try clear e))
    | (refine pick_go (fun e f => ?_) (fun e f => ?_) <;> (try simp only [BB] at f) <;> (try simp only [numOk, verOk] at f) <;> (try simp (maxSteps := 1000000) (disch := first | omega | (simp only [LN, numOk, verOk, rfP, rvP, rhP, frP, bkd] <;> omega) | exact Ck.mk rfl) only [e, VC, T, Nat.reduceMul, Nat.reduceAdd, Nat.reduceSub, Nat.reduceLT, Nat.reduceEqDiff, Nat.reduceLeDiff, Nat.reduceBEq, reduceCtorEq, Int.reduceToNat, ↓reduceIte, rfP, rvP, rhP, frP, bkd]) <;> (try clear e))
    | ((first | (refine call_hx [] [0] (hI) (by decide) ?_ rfl ?_; (focus (first | rfl | (simp (maxSteps := 1000000) (disch := first | omega | (simp only [LN, numOk, verOk, rfP, rvP, rhP, frP, bkd] <;> omega) | exact Ck.mk rfl) only [VC, T, Nat.reduceMul, Nat.reduceAdd, Nat.reduceSub, Nat.reduceLT, Nat.reduceEqDiff, Nat.reduceLeDiff, Nat.reduceBEq, reduceCtorEq, Int.reduceToNat, ↓reduceIte, rfP, rvP, rhP, frP, bkd]; done))))); (try simp (maxSteps := 1000000) (disch := first | omega | (simp only [LN, numOk, verOk, rfP, rvP, rhP, frP, bkd] <;> omega) | exact Ck.mk rfl) only [VC, T, Nat.reduceMul, Nat.reduceAdd, Nat.reduceSub, Nat.reduceLT, Nat.reduceEqDiff, Nat.reduceLeDiff, Nat.reduceBEq, reduceCtorEq, Int.reduceToNat, ↓reduceIte, rfP, rvP, rhP, frP, bkd])))
  · have e : L.filter (fun x => decide (b < x)) = L := by
      rw [List.filter_eq_self]
      intro x hx
      rcases hc with ⟨_, h2⟩ | ⟨k, h1, _⟩
      · have := h2 x hx
        rw [decide_eq_false_iff_not] at this
        exact decide_eq_true (by omega)
      · omega
    rw [e]
    exact fin_t [] (.inl ⟨rfl, by rw [List.length_map], rfl⟩) rfl (by simp [RV, RV2, RVl, RV1, tau, tget, hget, data1, oneOf]) (by simp [RH, RVl, RV1, tau, hget, data1]) (by simp [Taus, hget])
  · obtain ⟨k, hk1, hk2, hk3, hk4⟩ : ∃ k : Nat, q = (k : Int) ∧ k < L.length ∧ decide (L.getD k default ≤ b) = true ∧ ∀ j, j < k → decide (L.getD j default ≤ b) = false := by
      rcases hc with ⟨h1, _⟩ | ⟨k, h1, h2, h3, h4⟩
      · exact absurd h1 f
      · exact ⟨k, by simpa using h1, h2, h3, h4⟩
    subst hk1
    have hp : ∀ x : Int, decide (b < x) = !decide (x ≤ b) := fun x => by
      by_cases h : x ≤ b
      · rw [decide_eq_true h, decide_eq_false (by omega)]; rfl
      · rw [decide_eq_false h, decide_eq_true (by omega)]; rfl
    have h0 : Kept (fun x => decide (b < x)) L L k (k + 1) := Kept.first hk2 (fun j hj => by rw [hp, hk4 j hj]; rfl) (by rw [hp, hk3]; rfl)
    refine lp_go (fun x : List Int × Nat × Nat => ⟨42, [(0, .row 0 L.length), (1, .fn (.func 66) [.fel [.int .i64 b]]), (5, .int .i64 x.2.1), (6, .int .i64 x.2.2)], [(0, .row ⟨1, 0⟩ (x.1.map (.int .i64)))]⟩) (fun x => Kept (fun x => decide (b < x)) L x.1 x.2.1 x.2.2) (fun x => L.length - x.2.2) (L, k, k + 1) ?_ h0 ?_
    · (simp (disch := first | omega | (simp only [LN, numOk, verOk] <;> omega) | exact Ck.mk rfl) only [SB, EQ, Nat.reduceMul, Nat.reduceAdd, Nat.reduceSub, Nat.reduceLT, Nat.reduceEqDiff, Nat.reduceLeDiff, Nat.reduceBEq, reduceCtorEq, Int.reduceToNat, ↓reduceIte]; try omega)
    · rintro ⟨M, i, j⟩ hK N hN
      simp only at hK hN ⊢
      have hln := hK.len
      have hlt := hK.lt
      have hle := hK.le
      have hat := hK.at
      (try simp (maxSteps := 1000000) (disch := first | omega | (simp only [LN, numOk, verOk, rfP, rvP, rhP, frP, bkd, hln, hat] <;> omega) | exact Ck.mk rfl) only [VC, T, Nat.reduceMul, Nat.reduceAdd, Nat.reduceSub, Nat.reduceLT, Nat.reduceEqDiff, Nat.reduceLeDiff, Nat.reduceBEq, reduceCtorEq, Int.reduceToNat, ↓reduceIte, rfP, rvP, rhP, frP, bkd, hln, hat])
      repeat' (first
        | (refine br_go (fun e f => ?_) (fun e f => ?_) <;> (try simp only [BB] at f) <;> (try simp only [numOk, verOk] at f) <;> (try simp (maxSteps := 1000000) (disch := first | omega | (simp only [LN, numOk, verOk, rfP, rvP, rhP, frP, bkd, hln, hat] <;> omega) | exact Ck.mk rfl) only [e, VC, T, Nat.reduceMul, Nat.reduceAdd, Nat.reduceSub, Nat.reduceLT, Nat.reduceEqDiff, Nat.reduceLeDiff, Nat.reduceBEq, reduceCtorEq, Int.reduceToNat, ↓reduceIte, rfP, rvP, rhP, frP, bkd, hln, hat]) <;> (try clear e))
        | (refine pick_go (fun e f => ?_) (fun e f => ?_) <;> (try simp only [BB] at f) <;> (try simp only [numOk, verOk] at f) <;> (try simp (maxSteps := 1000000) (disch := first | omega | (simp only [LN, numOk, verOk, rfP, rvP, rhP, frP, bkd, hln, hat] <;> omega) | exact Ck.mk rfl) only [e, VC, T, Nat.reduceMul, Nat.reduceAdd, Nat.reduceSub, Nat.reduceLT, Nat.reduceEqDiff, Nat.reduceLeDiff, Nat.reduceBEq, reduceCtorEq, Int.reduceToNat, ↓reduceIte, rfP, rvP, rhP, frP, bkd, hln, hat]) <;> (try clear e))
        | ((first | refine call_x (impl_BasesBehind_lit _ b) rfl ⟨rfl⟩ ?_); (try simp (maxSteps := 1000000) (disch := first | omega | (simp only [LN, numOk, verOk, rfP, rvP, rhP, frP, bkd, hln, hat] <;> omega) | exact Ck.mk rfl) only [VC, T, Nat.reduceMul, Nat.reduceAdd, Nat.reduceSub, Nat.reduceLT, Nat.reduceEqDiff, Nat.reduceLeDiff, Nat.reduceBEq, reduceCtorEq, Int.reduceToNat, ↓reduceIte, rfP, rvP, rhP, frP, bkd, hln, hat])))
      · refine hN (M, i, j + 1) _ (hK.skip (by omega) (decide_eq_false (by omega))) (by simp only; omega) ?_
        (simp (disch := first | omega | (simp only [LN, numOk, verOk] <;> omega) | exact Ck.mk rfl) only [SB, EQ, Nat.reduceMul, Nat.reduceAdd, Nat.reduceSub, Nat.reduceLT, Nat.reduceEqDiff, Nat.reduceLeDiff, Nat.reduceBEq, reduceCtorEq, Int.reduceToNat, ↓reduceIte]; try omega)
      · refine hN (M.set i (L.getD j default), i + 1, j + 1) _ (hK.take (by omega) (decide_eq_true f)) (by simp only; omega) ?_
        (simp (disch := first | omega | (simp only [LN, numOk, verOk] <;> omega) | exact Ck.mk rfl) only [SB, EQ, Nat.reduceMul, Nat.reduceAdd, Nat.reduceSub, Nat.reduceLT, Nat.reduceEqDiff, Nat.reduceLeDiff, Nat.reduceBEq, reduceCtorEq, Int.reduceToNat, ↓reduceIte]; try omega)
      · obtain rfl : j = L.length := by omega
        obtain ⟨q1, q2, q3⟩ := hK.done
        have hd : M.drop L.length = [] := List.drop_eq_nil_of_le (by omega)
        rw [q1, hd]
        refine fin_t [] (.inr ⟨L.length - i, by rw [List.length_map, q2], by rw [List.length_map, q2]; exact q3, by rw [List.length_map, q2]; omega, rfl⟩) rfl ?_ ?_ ?_
        · simp [RV, RV2, RVl, RV1, tau, tget, hget, data1, oneOf]
        · simp [RH, RVl, RV1, tau, hget, data1, Jz]
        · simp [Taus, hget]
theorem impl_BasesBehind (d : Dk) (b : Int) (h : DkOk d) : FnE Tryz.prog 37 [dkP d, .int .i64 b] [] (Cut ((behindT d b).map (.int .i64))) := by
  have hC := impl_Chain_R d h
  have hl := chainT_length d
  unfold behindT
  generalize chainT d = L at *
  have hD := deleteB L b (by omega)
  generalize L.filter (fun x => decide (b < x)) = F at *
  unfold dkP at *
  refine fn_e tok (n := 9) (rs := [.tmp 4]) Tryz.func37 (by decide) rfl rfl rfl rfl (low_of rfl) ?_
  (try simp (maxSteps := 1000000) (disch := first | omega | (simp only [LN, numOk, verOk, rfP, rvP, rhP, frP, bkd, nfx_cutI] <;> omega) | exact Ck.mk rfl) only [VC, T, Nat.reduceMul, Nat.reduceAdd, Nat.reduceSub, Nat.reduceLT, Nat.reduceEqDiff, Nat.reduceLeDiff, Nat.reduceBEq, reduceCtorEq, Int.reduceToNat, ↓reduceIte, rfP, rvP, rhP, frP, bkd, nfx_cutI])
  repeat' (first
    | (refine br_go (fun e f => ?_) (fun e f => ?_) <;> (try simp only [BB] at f) <;> (try simp only [numOk, verOk] at f) <;> (try simp (maxSteps := 1000000) (disch := first | omega | (simp only [LN, numOk, verOk, rfP, rvP, rhP, frP, bkd, nfx_cutI] <;> omega) | exact Ck.mk rfl) only [e, VC, T, Nat.reduceMul, Nat.reduceAdd, Nat.reduceSub, Nat.reduceLT, Nat.reduceEqDiff, Nat.reduceLeDiff, Nat.reduceBEq, reduceCtorEq, Int.reduceToNat, ↓reduceIte, rfP, rvP, rhP, frP, bkd, nfx_cutI]) <;> (try clear e))
    | (refine pick_go (fun e f => ?_) (fun e f => ?_) <;> (try simp only [BB] at f) <;> (try simp only [numOk, verOk] at f) <;> (try simp (maxSteps := 1000000) (disch := first | omega | (simp only [LN, numOk, verOk, rfP, rvP, rhP, frP, bkd, nfx_cutI] <;> omega) | exact Ck.mk rfl) only [e, VC, T, Nat.reduceMul, Nat.reduceAdd, Nat.reduceSub, Nat.reduceLT, Nat.reduceEqDiff, Nat.reduceLeDiff, Nat.reduceBEq, reduceCtorEq, Int.reduceToNat, ↓reduceIte, rfP, rvP, rhP, frP, bkd, nfx_cutI]) <;> (try clear e))
    | ((first | (refine call_h [] [] (hC) (by decide) rfl rfl ?_; rintro _ _ ⟨rfl, rfl⟩) | (refine call_h [448] [256] (hD) (by decide) ?_ rfl ?_; (focus (first | rfl | (simp (maxSteps := 1000000) (disch := first | omega | (simp only [LN, numOk, verOk, rfP, rvP, rhP, frP, bkd, nfx_cutI] <;> omega) | exact Ck.mk rfl) only [VC, T, Nat.reduceMul, Nat.reduceAdd, Nat.reduceSub, Nat.reduceLT, Nat.reduceEqDiff, Nat.reduceLeDiff, Nat.reduceBEq, reduceCtorEq, Int.reduceToNat, ↓reduceIte, rfP, rvP, rhP, frP, bkd, nfx_cutI]; done))); rintro _ _ (⟨rfl, h1, rfl⟩ | ⟨z, rfl, h1, h2, rfl⟩))); (try simp (maxSteps := 1000000) (disch := first | omega | (simp only [LN, numOk, verOk, rfP, rvP, rhP, frP, bkd, nfx_cutI] <;> omega) | exact Ck.mk rfl) only [VC, T, Nat.reduceMul, Nat.reduceAdd, Nat.reduceSub, Nat.reduceLT, Nat.reduceEqDiff, Nat.reduceLeDiff, Nat.reduceBEq, reduceCtorEq, Int.reduceToNat, ↓reduceIte, rfP, rvP, rhP, frP, bkd, nfx_cutI])))
  · have h3 := h1
    rw [List.length_map] at h3
    refine ⟨by omega, ?_⟩
    rw [h1]
    exact fin_t [some 448] (.inl ⟨rfl, rfl⟩) rfl (by simp [RV, RV2, RVl, RV1, tau, tget, hget, data1, oneOf]) (by simp [RH, RVl, RV1, tau, hget, data1]) (by simp [Taus, hget])
  · have h3 := h2
    rw [List.length_map] at h3
    (try simp (maxSteps := 1000000) (disch := first | omega | (simp only [LN, numOk, verOk, rfP, rvP, rhP, frP, bkd, nfx_cutI, Jz_len] <;> omega) | exact Ck.mk rfl) only [VC, T, Nat.reduceMul, Nat.reduceAdd, Nat.reduceSub, Nat.reduceLT, Nat.reduceEqDiff, Nat.reduceLeDiff, Nat.reduceBEq, reduceCtorEq, Int.reduceToNat, ↓reduceIte, rfP, rvP, rhP, frP, bkd, nfx_cutI, Jz_len])
    repeat' (first
      | (refine br_go (fun e f => ?_) (fun e f => ?_) <;> (try simp only [BB] at f) <;> (try simp only [numOk, verOk] at f) <;> (try simp (maxSteps := 1000000) (disch := first | omega | (simp only [LN, numOk, verOk, rfP, rvP, rhP, frP, bkd, nfx_cutI, Jz_len] <;> omega) | exact Ck.mk rfl) only [e, VC, T, Nat.reduceMul, Nat.reduceAdd, Nat.reduceSub, Nat.reduceLT, Nat.reduceEqDiff, Nat.reduceLeDiff, Nat.reduceBEq, reduceCtorEq, Int.reduceToNat, ↓reduceIte, rfP, rvP, rhP, frP, bkd, nfx_cutI, Jz_len]) <;> (try clear e))
      | (refine pick_go (fun e f => ?_) (fun e f => ?_) <;> (try simp only [BB] at f) <;> (try simp only [numOk, verOk] at f) <;> (try simp (maxSteps := 1000000) (disch := first | omega | (simp only [LN, numOk, verOk, rfP, rvP, rhP, frP, bkd, nfx_cutI, Jz_len] <;> omega) | exact Ck.mk rfl) only [e, VC, T, Nat.reduceMul, Nat.reduceAdd, Nat.reduceSub, Nat.reduceLT, Nat.reduceEqDiff, Nat.reduceLeDiff, Nat.reduceBEq, reduceCtorEq, Int.reduceToNat, ↓reduceIte, rfP, rvP, rhP, frP, bkd, nfx_cutI, Jz_len]) <;> (try clear e)))
    try refine ⟨by omega, ?_⟩
    refine fin_t [some 448] (.inr ⟨_, z, rfl, ⟨h1, by omega⟩, h2, rfl⟩) rfl ?_ ?_ ?_
    · simp [RV, RV2, RVl, RV1, tau, tget, hget, data1, oneOf]
    · simp [RH, RVl, RV1, tau, hget, data1]
    · simp [Taus, hget]
theorem filt_snoc (p : Int → Bool) (L : List Int) (i : Nat) (h : i < L.length) : (L.take (i + 1)).filter p = (L.take i).filter p ++ if p (L.getD i default) = true then [L.getD i default] else [] := by
  rw [take_snoc default L i h, List.filter_append]
  congr 1
  show List.filter p [rdOf default L i] = _
  have : rdOf default L (i : Int) = L.getD i default := rfl
  rw [this]
  cases hp : p (L.getD i default)
  · rw [List.filter_cons_of_neg (by rw [hp]; decide)]; rfl
  · rw [List.filter_cons_of_pos hp]; rfl
theorem spec_BasesBehind (d : Dk) (b : Int) (h : DkOk d) : Fn Tryz.prog 36 [dkP d, .int .i64 b] [] (.far ((behindT d b).map (.int .i64))) [] := by
  have hL := spec_Chain d h
  have hlen := chainT_length d
  unfold behindT
  generalize chainT d = L at *
  obtain ⟨ns, es, os, ss, r, x⟩ := d
  unfold dkP at *
  refine fn_x tok (n := 31) (rs := [.tmp 4]) Tryz.func36 (by decide) rfl rfl rfl rfl ?_
  (try simp (maxSteps := 1000000) (disch := first | omega | (simp only [LN, numOk, verOk, rfP, rvP, rhP, frP, bkd] <;> omega) | exact Ck.mk rfl) only [VC, T, Nat.reduceMul, Nat.reduceAdd, Nat.reduceSub, Nat.reduceLT, Nat.reduceEqDiff, Nat.reduceLeDiff, Nat.reduceBEq, reduceCtorEq, Int.reduceToNat, ↓reduceIte, rfP, rvP, rhP, frP, bkd])
  repeat' (first
    | (refine br_go (fun e f => ?_) (fun e f => ?_) <;> (try simp only [BB] at f) <;> (try simp only [numOk, verOk] at f) <;> (try simp (maxSteps := 1000000) (disch := first | omega | (simp only [LN, numOk, verOk, rfP, rvP, rhP, frP, bkd] <;> omega) | exact Ck.mk rfl) only [e, VC, T, Nat.reduceMul, Nat.reduceAdd, Nat.reduceSub, Nat.reduceLT, Nat.reduceEqDiff, Nat.reduceLeDiff, Nat.reduceBEq, reduceCtorEq, Int.reduceToNat, ↓reduceIte, rfP, rvP, rhP, frP, bkd]) <;> (try clear e))
    | (refine pick_go (fun e f => ?_) (fun e f => ?_) <;> (try simp only [BB] at f) <;> (try simp only [numOk, verOk] at f) <;> (try simp (maxSteps := 1000000) (disch := first | omega | (simp only [LN, numOk, verOk, rfP, rvP, rhP, frP, bkd] <;> omega) | exact Ck.mk rfl) only [e, VC, T, Nat.reduceMul, Nat.reduceAdd, Nat.reduceSub, Nat.reduceLT, Nat.reduceEqDiff, Nat.reduceLeDiff, Nat.reduceBEq, reduceCtorEq, Int.reduceToNat, ↓reduceIte, rfP, rvP, rhP, frP, bkd]) <;> (try clear e))
    | ((first | refine call_x (hL) rfl ⟨rfl⟩ ?_); (try simp (maxSteps := 1000000) (disch := first | omega | (simp only [LN, numOk, verOk, rfP, rvP, rhP, frP, bkd] <;> omega) | exact Ck.mk rfl) only [VC, T, Nat.reduceMul, Nat.reduceAdd, Nat.reduceSub, Nat.reduceLT, Nat.reduceEqDiff, Nat.reduceLeDiff, Nat.reduceBEq, reduceCtorEq, Int.reduceToNat, ↓reduceIte, rfP, rvP, rhP, frP, bkd])))
  refine lp_go (fun i : Nat => ⟨31, [(1, .int .i64 b), (5, .row 576 ((L.take i).filter fun x => decide (b < x)).length), (6, .far (L.map (.int .i64))), (7, .int .i64 i)], [(576, .row ⟨1, 0⟩ (((L.take i).filter fun x => decide (b < x)).map (.int .i64)))]⟩) (fun i => i ≤ L.length) (fun i => L.length - i) 0 ?_ (Nat.zero_le _) ?_
  · (simp (disch := first | omega | (simp only [LN, numOk, verOk] <;> omega) | exact Ck.mk rfl) only [SB, EQ, Nat.reduceMul, Nat.reduceAdd, Nat.reduceSub, Nat.reduceLT, Nat.reduceEqDiff, Nat.reduceLeDiff, Nat.reduceBEq, reduceCtorEq, Int.reduceToNat, ↓reduceIte]; try omega)
    exact ⟨rfl, rfl⟩
  · intro i hi N hN
    have hsn := filt_snoc (fun x => decide (b < x)) L i
    have hfl : ((L.take i).filter fun x => decide (b < x)).length ≤ 16 := by
      have := List.length_filter_le (fun x => decide (b < x)) (L.take i)
      rw [List.length_take] at this
      omega
    generalize hM : (L.take i).filter (fun x => decide (b < x)) = M at *
    (try simp (maxSteps := 1000000) (disch := first | omega | (simp only [LN, numOk, verOk, rfP, rvP, rhP, frP, bkd] <;> omega) | exact Ck.mk rfl) only [VC, T, Nat.reduceMul, Nat.reduceAdd, Nat.reduceSub, Nat.reduceLT, Nat.reduceEqDiff, Nat.reduceLeDiff, Nat.reduceBEq, reduceCtorEq, Int.reduceToNat, ↓reduceIte, rfP, rvP, rhP, frP, bkd])
    repeat' (first
      | (refine br_go (fun e f => ?_) (fun e f => ?_) <;> (try simp only [BB] at f) <;> (try simp only [numOk, verOk] at f) <;> (try simp (maxSteps := 1000000) (disch := first | omega | (simp only [LN, numOk, verOk, rfP, rvP, rhP, frP, bkd] <;> omega) | exact Ck.mk rfl) only [e, VC, T, Nat.reduceMul, Nat.reduceAdd, Nat.reduceSub, Nat.reduceLT, Nat.reduceEqDiff, Nat.reduceLeDiff, Nat.reduceBEq, reduceCtorEq, Int.reduceToNat, ↓reduceIte, rfP, rvP, rhP, frP, bkd]) <;> (try clear e))
      | (refine pick_go (fun e f => ?_) (fun e f => ?_) <;> (try simp only [BB] at f) <;> (try simp only [numOk, verOk] at f) <;> (try simp (maxSteps := 1000000) (disch := first | omega | (simp only [LN, numOk, verOk, rfP, rvP, rhP, frP, bkd] <;> omega) | exact Ck.mk rfl) only [e, VC, T, Nat.reduceMul, Nat.reduceAdd, Nat.reduceSub, Nat.reduceLT, Nat.reduceEqDiff, Nat.reduceLeDiff, Nat.reduceBEq, reduceCtorEq, Int.reduceToNat, ↓reduceIte, rfP, rvP, rhP, frP, bkd]) <;> (try clear e)))
    · refine hN (i + 1) _ (by omega) (by omega) ?_
      rw [hsn (by omega), if_pos (decide_eq_true f)]
      (simp (disch := first | omega | (simp only [LN, numOk, verOk] <;> omega) | exact Ck.mk rfl) only [SB, EQ, Nat.reduceMul, Nat.reduceAdd, Nat.reduceSub, Nat.reduceLT, Nat.reduceEqDiff, Nat.reduceLeDiff, Nat.reduceBEq, reduceCtorEq, Int.reduceToNat, ↓reduceIte]; try omega)
    · refine hN (i + 1) _ (by omega) (by omega) ?_
      rw [hsn (by omega), if_neg (by rw [decide_eq_false (by omega)]; decide), List.append_nil]
      (simp (disch := first | omega | (simp only [LN, numOk, verOk] <;> omega) | exact Ck.mk rfl) only [SB, EQ, Nat.reduceMul, Nat.reduceAdd, Nat.reduceSub, Nat.reduceLT, Nat.reduceEqDiff, Nat.reduceLeDiff, Nat.reduceBEq, reduceCtorEq, Int.reduceToNat, ↓reduceIte]; try omega)
    · obtain rfl : i = L.length := by omega
      rw [List.take_length] at hM
      rw [hM]
theorem laws_markIntS_V (xs : List Int) (Z : List PV) (k : Int) (hx : xs.length + Z.length ≤ 1073741824) (hk : 0 ≤ k ∧ k ≤ 1099511627776) (t : TypeId) : FnE Tryz.prog 32 [.view 0 (xs.length + Z.length) 0 xs.length, .int .i64 k] [(0, .row ⟨1, t⟩ (xs.map (.int .i64) ++ Z))] (fun r m => r = .int .i64 (k + xs.length) ∧ m = [(0, .row ⟨1, t⟩ ((seqL xs.length k).map (.int .i64) ++ Z))]) := by
  have e0 : List.take xs.length (xs.map (PV.int .i64) ++ Z) = xs.map (.int .i64) := List.take_left' (List.length_map _)
  refine fn_e tok (n := 19) (rs := [.tmp 4]) Tryz.func32 (by decide) rfl rfl rfl rfl (low_of rfl) ?_
  (try simp (maxSteps := 1000000) (disch := first | omega | (simp only [LN, numOk, verOk, rfP, rvP, rhP, frP, bkd, e0, List.drop_zero] <;> omega) | exact Ck.mk rfl) only [VC, T, Nat.reduceMul, Nat.reduceAdd, Nat.reduceSub, Nat.reduceLT, Nat.reduceEqDiff, Nat.reduceLeDiff, Nat.reduceBEq, reduceCtorEq, Int.reduceToNat, ↓reduceIte, rfP, rvP, rhP, frP, bkd, e0, List.drop_zero])
  repeat' (first
    | (refine br_go (fun e f => ?_) (fun e f => ?_) <;> (try simp only [BB] at f) <;> (try simp only [numOk, verOk] at f) <;> (try simp (maxSteps := 1000000) (disch := first | omega | (simp only [LN, numOk, verOk, rfP, rvP, rhP, frP, bkd, e0, List.drop_zero] <;> omega) | exact Ck.mk rfl) only [e, VC, T, Nat.reduceMul, Nat.reduceAdd, Nat.reduceSub, Nat.reduceLT, Nat.reduceEqDiff, Nat.reduceLeDiff, Nat.reduceBEq, reduceCtorEq, Int.reduceToNat, ↓reduceIte, rfP, rvP, rhP, frP, bkd, e0, List.drop_zero]) <;> (try clear e))
    | (refine pick_go (fun e f => ?_) (fun e f => ?_) <;> (try simp only [BB] at f) <;> (try simp only [numOk, verOk] at f) <;> (try simp (maxSteps := 1000000) (disch := first | omega | (simp only [LN, numOk, verOk, rfP, rvP, rhP, frP, bkd, e0, List.drop_zero] <;> omega) | exact Ck.mk rfl) only [e, VC, T, Nat.reduceMul, Nat.reduceAdd, Nat.reduceSub, Nat.reduceLT, Nat.reduceEqDiff, Nat.reduceLeDiff, Nat.reduceBEq, reduceCtorEq, Int.reduceToNat, ↓reduceIte, rfP, rvP, rhP, frP, bkd, e0, List.drop_zero]) <;> (try clear e)))
  refine lp_go (fun i : Nat => ⟨19, [(0, .view 0 (xs.length + Z.length) 0 xs.length), (1, .int .i64 (k + i)), (5, .int .i64 i)], [(0, .row ⟨1, t⟩ ((seqL i k ++ xs.drop i).map (.int .i64) ++ Z))]⟩) (fun i => i ≤ xs.length) (fun i => xs.length - i) 0 ?_ (Nat.zero_le _) ?_
  · (simp (disch := first | omega | (simp only [LN, numOk, verOk] <;> omega) | exact Ck.mk rfl) only [SB, EQ, Nat.reduceMul, Nat.reduceAdd, Nat.reduceSub, Nat.reduceLT, Nat.reduceEqDiff, Nat.reduceLeDiff, Nat.reduceBEq, reduceCtorEq, Int.reduceToNat, ↓reduceIte]; try omega)
    try simp [seqL]
  · intro i hi N hN
    have hln : (seqL i k ++ xs.drop i).length = xs.length := by rw [List.length_append, seqL_length, List.length_drop]; omega
    have hm := mark_step1 xs k i
    generalize hM : seqL i k ++ xs.drop i = M at *
    have e1 : List.take xs.length (M.map (PV.int .i64) ++ Z) = M.map (.int .i64) := List.take_left' (by rw [List.length_map, hln])
    have e2 : i < xs.length → ∀ v, (M.map (PV.int .i64) ++ Z).set i v = (M.map (PV.int .i64)).set i v ++ Z := fun h v => by
      rw [List.set_append_left _ _ (by rw [List.length_map, hln]; exact h)]
    have e3 : i < xs.length → ∀ v, upd ((M.map (PV.int .i64) ++ Z).getD i .junk) 0 [v] = v := fun h v => by
      rw [List.getD_eq_getElem?_getD, List.getElem?_append_left (by rw [List.length_map, hln]; exact h), List.getElem?_map, List.getElem?_eq_getElem (by omega)]; rfl
    (try simp (maxSteps := 1000000) (disch := first | omega | (simp only [LN, numOk, verOk, rfP, rvP, rhP, frP, bkd, hln, hm, e1, e2, e3, List.drop_zero, Nat.zero_add] <;> omega) | exact Ck.mk rfl) only [VC, T, Nat.reduceMul, Nat.reduceAdd, Nat.reduceSub, Nat.reduceLT, Nat.reduceEqDiff, Nat.reduceLeDiff, Nat.reduceBEq, reduceCtorEq, Int.reduceToNat, ↓reduceIte, rfP, rvP, rhP, frP, bkd, hln, hm, e1, e2, e3, List.drop_zero, Nat.zero_add])
    repeat' (first
      | (refine br_go (fun e f => ?_) (fun e f => ?_) <;> (try simp only [BB] at f) <;> (try simp only [numOk, verOk] at f) <;> (try simp (maxSteps := 1000000) (disch := first | omega | (simp only [LN, numOk, verOk, rfP, rvP, rhP, frP, bkd, hln, hm, e1, e2, e3, List.drop_zero, Nat.zero_add] <;> omega) | exact Ck.mk rfl) only [e, VC, T, Nat.reduceMul, Nat.reduceAdd, Nat.reduceSub, Nat.reduceLT, Nat.reduceEqDiff, Nat.reduceLeDiff, Nat.reduceBEq, reduceCtorEq, Int.reduceToNat, ↓reduceIte, rfP, rvP, rhP, frP, bkd, hln, hm, e1, e2, e3, List.drop_zero, Nat.zero_add]) <;> (try clear e))
      | (refine pick_go (fun e f => ?_) (fun e f => ?_) <;> (try simp only [BB] at f) <;> (try simp only [numOk, verOk] at f) <;> (try simp (maxSteps := 1000000) (disch := first | omega | (simp only [LN, numOk, verOk, rfP, rvP, rhP, frP, bkd, hln, hm, e1, e2, e3, List.drop_zero, Nat.zero_add] <;> omega) | exact Ck.mk rfl) only [e, VC, T, Nat.reduceMul, Nat.reduceAdd, Nat.reduceSub, Nat.reduceLT, Nat.reduceEqDiff, Nat.reduceLeDiff, Nat.reduceBEq, reduceCtorEq, Int.reduceToNat, ↓reduceIte, rfP, rvP, rhP, frP, bkd, hln, hm, e1, e2, e3, List.drop_zero, Nat.zero_add]) <;> (try clear e)))
    · refine hN (i + 1) _ (by omega) (by omega) ?_
      (simp (disch := first | omega | (simp only [LN, numOk, verOk] <;> omega) | exact Ck.mk rfl) only [SB, EQ, Nat.reduceMul, Nat.reduceAdd, Nat.reduceSub, Nat.reduceLT, Nat.reduceEqDiff, Nat.reduceLeDiff, Nat.reduceBEq, reduceCtorEq, Int.reduceToNat, ↓reduceIte]; try omega)
    · obtain rfl : i = xs.length := by omega
      rw [← hM]
      exact fin_t [] (⟨rfl, rfl⟩) rfl (by simp [RV, RV2, RVl, RV1, tau, tget, hget, data1, oneOf]) (by simp [RH, RVl, RV1, tau, hget, data1]) (by simp [Taus, hget])
end Go.Pv
