/- The texts of this claim, part 4: a small logic of plain values for the model's runs, what it says of the functions, in plain values. -/
import Derived.Below
import Derived.ChangeArms
import Derived.ChangeShapes
import Derived.WideShapes
import Derived.Test.YtnaajggfggijhaaPvC0
import Derived.Test.YtnaajggfggijhaaPvC1
import Derived.Test.YtnaajggfggijhaaPvC2
import Derived.Test.YtnaajggfggijhaaPvC3
/- What functions of the program and of the reference do, in plain values. -/
namespace Go.Pv
open Go.Proofs Go.Mth
set_option linter.unusedSimpArgs false
set_option linter.unusedVariables false
set_option maxHeartbeats 4000000

/-! ### lists of places of sealed files, reads -/
theorem impl_PlacesOf_R (s : Int) (os : List Int) (hs : s ≤ 9223372036854775807) (hl : os.length ≤ 1073741824) : FnE Try.prog 60 [.int .i64 s, .far (os.map (.int .i64))] [] (fun r m => r = .row 64 (placesP s os).length ∧ m = [(64, .row ⟨2, 0⟩ ((placesP s os).map plP))]) := by
  refine fn_e tok (n := 34) (rs := [.tmp 4]) Try.func60 (by decide) rfl rfl rfl rfl (low_of rfl) ?_
  (try simp (maxSteps := 1000000) (disch := first | omega | (simp only [LN, numOk, verOk, rfP, rvP, rhP, frP, scanR, scanH, scanP, rsP, skP, pfP] <;> omega) | exact Ck.mk rfl) only [VC, T, Nat.reduceMul, Nat.reduceAdd, Nat.reduceSub, Nat.reduceLT, Nat.reduceEqDiff, Nat.reduceLeDiff, Nat.reduceBEq, reduceCtorEq, Int.reduceToNat, ↓reduceIte, rfP, rvP, rhP, frP, scanR, scanH, scanP, rsP, skP, pfP])
  repeat' (first
    | (refine br_go (fun e f => ?_) (fun e f => ?_) <;> (try simp only [BB] at f) <;> (try simp only [numOk, verOk] at f) <;> (try simp (maxSteps := 1000000) (disch := first | omega | (simp only [LN, numOk, verOk, rfP, rvP, rhP, frP, scanR, scanH, scanP, rsP, skP, pfP] <;> omega) | exact Ck.mk rfl) only [e, VC, T, Nat.reduceMul, Nat.reduceAdd, Nat.reduceSub, Nat.reduceLT, Nat.reduceEqDiff, Nat.reduceLeDiff, Nat.reduceBEq, reduceCtorEq, Int.reduceToNat, ↓reduceIte, rfP, rvP, rhP, frP, scanR, scanH, scanP, rsP, skP, pfP]) <;> (try clear e))
    | (refine pick_go (fun e f => ?_) (fun e f => ?_) <;> (try simp only [BB] at f) <;> (try simp only [numOk, verOk] at f) <;> (try simp (maxSteps := 1000000) (disch := first | omega | (simp only [LN, numOk, verOk, rfP, rvP, rhP, frP, scanR, scanH, scanP, rsP, skP, pfP] <;> omega) | exact Ck.mk rfl) only [e, VC, T, Nat.reduceMul, Nat.reduceAdd, Nat.reduceSub, Nat.reduceLT, Nat.reduceEqDiff, Nat.reduceLeDiff, Nat.reduceBEq, reduceCtorEq, Int.reduceToNat, ↓reduceIte, rfP, rvP, rhP, frP, scanR, scanH, scanP, rsP, skP, pfP]) <;> (try clear e)))
  · have hq : placesP s os = [] := by unfold placesP placesOf; rw [if_pos f]
    rw [hq]
    exact fin_t [some 512] (⟨rfl, rfl⟩) rfl (by simp [RV, RV2, RVl, RV1, tau, tget, hget, data1, oneOf]) (by simp [RH, RVl, RV1, tau, hget, data1]) (by simp [Taus, hget])
  · refine lp_go (fun x : Nat × List (Int × Int) => ⟨34, [(0, .int .i64 s), (1, .far (os.map (.int .i64))), (5, .row 512 x.2.length), (6, .int .i64 x.1)], [(512, .row ⟨2, 0⟩ (x.2.map plP))]⟩) (fun x => x.1 ≤ os.length ∧ x.2.length ≤ x.1 ∧ placesP s os = x.2 ++ plc (fun a b => (a, b)) s (os.drop x.1) x.1 ∧ (x.1 : Int) % s = 0) (fun x => os.length - x.1) (0, []) ?_ ?_ ?_
    · (simp (disch := first | omega | (simp only [LN, numOk, verOk] <;> omega) | exact Ck.mk rfl) only [SB, EQ, Nat.reduceMul, Nat.reduceAdd, Nat.reduceSub, Nat.reduceLT, Nat.reduceEqDiff, Nat.reduceLeDiff, Nat.reduceBEq, reduceCtorEq, Int.reduceToNat, ↓reduceIte]; try omega)
    · refine ⟨Nat.zero_le _, Nat.le_refl _, ?_, by simp⟩
      unfold placesP placesOf; rw [if_neg (by omega)]; rfl
    · rintro ⟨i, l⟩ ⟨h1, h2, h3, h4⟩ N hN
      simp only at h1 h2 h3 h4
      have hst := plc_step s os i
      have hsk := fun m h => plc_skip (fun a b : Int => (a, b)) s os m (i + 1) h
      have hmod : ∀ t : Nat, i + 1 ≤ t → (t : Int) < i + s → (t : Int) % s ≠ 0 := fun t q1 q2 q3 => by
        have e1 := Int.emod_add_mul_ediv (i : Int) s
        have e2 := Int.emod_add_mul_ediv (t : Int) s
        rw [h4] at e1
        rw [q3] at e2
        have : s * ((t : Int) / s - (i : Int) / s) = t - i := by rw [Int.mul_sub]; omega
        have k1 : 0 < (t : Int) / s - (i : Int) / s := by
          apply Int.pos_of_mul_pos_right (a := s) (by omega) (by omega)
        have k2 : s * 1 ≤ s * ((t : Int) / s - (i : Int) / s) := Int.mul_le_mul_of_nonneg_left (by omega) (by omega)
        omega
      have hmap : (l ++ [((i : Int), os.getD i default)]).map plP = l.map plP ++ [.agg [.int .i64 i, .int .i64 (os.getD i default)]] := by rw [List.map_append]; rfl
      (try simp (maxSteps := 1000000) (disch := first | omega | (simp only [LN, numOk, verOk, rfP, rvP, rhP, frP, scanR, scanH, scanP, rsP, skP, pfP] <;> omega) | exact Ck.mk rfl) only [VC, T, Nat.reduceMul, Nat.reduceAdd, Nat.reduceSub, Nat.reduceLT, Nat.reduceEqDiff, Nat.reduceLeDiff, Nat.reduceBEq, reduceCtorEq, Int.reduceToNat, ↓reduceIte, rfP, rvP, rhP, frP, scanR, scanH, scanP, rsP, skP, pfP])
      repeat' (first
        | (refine br_go (fun e f => ?_) (fun e f => ?_) <;> (try simp only [BB] at f) <;> (try simp only [numOk, verOk] at f) <;> (try simp (maxSteps := 1000000) (disch := first | omega | (simp only [LN, numOk, verOk, rfP, rvP, rhP, frP, scanR, scanH, scanP, rsP, skP, pfP] <;> omega) | exact Ck.mk rfl) only [e, VC, T, Nat.reduceMul, Nat.reduceAdd, Nat.reduceSub, Nat.reduceLT, Nat.reduceEqDiff, Nat.reduceLeDiff, Nat.reduceBEq, reduceCtorEq, Int.reduceToNat, ↓reduceIte, rfP, rvP, rhP, frP, scanR, scanH, scanP, rsP, skP, pfP]) <;> (try clear e))
        | (refine pick_go (fun e f => ?_) (fun e f => ?_) <;> (try simp only [BB] at f) <;> (try simp only [numOk, verOk] at f) <;> (try simp (maxSteps := 1000000) (disch := first | omega | (simp only [LN, numOk, verOk, rfP, rvP, rhP, frP, scanR, scanH, scanP, rsP, skP, pfP] <;> omega) | exact Ck.mk rfl) only [e, VC, T, Nat.reduceMul, Nat.reduceAdd, Nat.reduceSub, Nat.reduceLT, Nat.reduceEqDiff, Nat.reduceLeDiff, Nat.reduceBEq, reduceCtorEq, Int.reduceToNat, ↓reduceIte, rfP, rvP, rhP, frP, scanR, scanH, scanP, rsP, skP, pfP]) <;> (try clear e)))
      · have hq : placesP s os = l ++ [((i : Int), os.getD i default)] := by rw [h3, hst (by omega), if_pos h4, hsk (os.length - (i + 1)) fun t q1 q2 => hmod t q1 (by omega), List.drop_eq_nil_of_le (by omega)]; rfl
        rw [hq, hmap]
        exact fin_t [some 512] (⟨rfl, rfl⟩) rfl (by simp [RV, RV2, RVl, RV1, tau, tget, hget, data1, oneOf]) (by simp [RH, RVl, RV1, tau, hget, data1]) (by simp [Taus, hget])
      · refine hN (i + s.toNat, l ++ [((i : Int), os.getD i default)]) _ ⟨by simp only; omega, by simp only [List.length_append, List.length_singleton]; omega, ?_, ?_⟩ (by simp only; omega) ?_
        · rw [h3, hst (by omega), if_pos h4, hsk (s.toNat - 1) fun t q1 q2 => hmod t q1 (by omega), show i + 1 + (s.toNat - 1) = i + s.toNat by omega]
          simp
        · simp only [Int.natCast_add]
          rw [show ((s.toNat : Nat) : Int) = s by omega, Int.add_emod_right]
          exact h4
        · (simp (disch := first | omega | (simp only [LN, numOk, verOk] <;> omega) | exact Ck.mk rfl) only [SB, EQ, Nat.reduceMul, Nat.reduceAdd, Nat.reduceSub, Nat.reduceLT, Nat.reduceEqDiff, Nat.reduceLeDiff, Nat.reduceBEq, reduceCtorEq, Int.reduceToNat, ↓reduceIte]; try omega)
          try omega
          exact ⟨by omega, hmap.symm⟩
      · have hq : placesP s os = l := by rw [h3, List.drop_eq_nil_of_le (by omega)]; unfold plc; rw [List.append_nil]
        rw [hq]
        exact fin_t [some 512] (⟨rfl, rfl⟩) rfl (by simp [RV, RV2, RVl, RV1, tau, tget, hget, data1, oneOf]) (by simp [RH, RVl, RV1, tau, hget, data1]) (by simp [Taus, hget])
def offT (b : ByteArray) (i : Int) : Int := if (scan b).2.2.2.1 ≤ i ∧ i < (scan b).2.2.2.1 + (scan b).2.2.2.2.2.2.1.length then (scan b).2.2.2.2.2.2.1.getD (i - (scan b).2.2.2.1).toNat default else -1
theorem impl_OffsetOf (b : ByteArray) (i : Int) (hb : b.size ≤ 1073741824) (hi : i64 i) : Fn Try.prog 42 [.str b, .int .i64 i] [] (.int .i64 (offT b i)) [] := by
  have hS := impl_Scan b hb
  have hF := scan_f b
  unfold i64 at hi
  unfold offT
  generalize scan b = t at *
  obtain ⟨ok, v, s, base, l, rs, os, e, m⟩ := t
  obtain ⟨f1, f2, f3, f4, f5, f6, f7, f8, f9⟩ := hF
  simp only at f1 f2 f3 f4 f5 f6 f7 f8 f9 hS ⊢
  have hA := impl_at ok v s base l rs os e m i f3 (by omega)
  generalize hq : (if base ≤ i ∧ i < base + os.length then os.getD (i - base).toNat default else -1) = q
  refine fn_x tok (n := 19) (rs := [.tmp 4]) Try.func42 (by decide) rfl rfl rfl rfl ?_
  (try simp (maxSteps := 1000000) (disch := first | omega | (simp only [LN, numOk, verOk, rfP, rvP, rhP, frP, scanR, scanH, scanP, rsP, skP, pfP] <;> omega) | exact Ck.mk rfl) only [VC, T, Nat.reduceMul, Nat.reduceAdd, Nat.reduceSub, Nat.reduceLT, Nat.reduceEqDiff, Nat.reduceLeDiff, Nat.reduceBEq, reduceCtorEq, Int.reduceToNat, ↓reduceIte, rfP, rvP, rhP, frP, scanR, scanH, scanP, rsP, skP, pfP])
  repeat' (first
    | (refine br_go (fun e f => ?_) (fun e f => ?_) <;> (try simp only [BB] at f) <;> (try simp only [numOk, verOk] at f) <;> (try simp (maxSteps := 1000000) (disch := first | omega | (simp only [LN, numOk, verOk, rfP, rvP, rhP, frP, scanR, scanH, scanP, rsP, skP, pfP] <;> omega) | exact Ck.mk rfl) only [e, VC, T, Nat.reduceMul, Nat.reduceAdd, Nat.reduceSub, Nat.reduceLT, Nat.reduceEqDiff, Nat.reduceLeDiff, Nat.reduceBEq, reduceCtorEq, Int.reduceToNat, ↓reduceIte, rfP, rvP, rhP, frP, scanR, scanH, scanP, rsP, skP, pfP]) <;> (try clear e))
    | (refine pick_go (fun e f => ?_) (fun e f => ?_) <;> (try simp only [BB] at f) <;> (try simp only [numOk, verOk] at f) <;> (try simp (maxSteps := 1000000) (disch := first | omega | (simp only [LN, numOk, verOk, rfP, rvP, rhP, frP, scanR, scanH, scanP, rsP, skP, pfP] <;> omega) | exact Ck.mk rfl) only [e, VC, T, Nat.reduceMul, Nat.reduceAdd, Nat.reduceSub, Nat.reduceLT, Nat.reduceEqDiff, Nat.reduceLeDiff, Nat.reduceBEq, reduceCtorEq, Int.reduceToNat, ↓reduceIte, rfP, rvP, rhP, frP, scanR, scanH, scanP, rsP, skP, pfP]) <;> (try clear e))
    | ((first | refine call_x (hS) rfl ⟨rfl⟩ ?_ | refine call_x (hA) rfl ⟨rfl⟩ ?_); (try simp (maxSteps := 1000000) (disch := first | omega | (simp only [LN, numOk, verOk, rfP, rvP, rhP, frP, scanR, scanH, scanP, rsP, skP, pfP] <;> omega) | exact Ck.mk rfl) only [VC, T, Nat.reduceMul, Nat.reduceAdd, Nat.reduceSub, Nat.reduceLT, Nat.reduceEqDiff, Nat.reduceLeDiff, Nat.reduceBEq, reduceCtorEq, Int.reduceToNat, ↓reduceIte, rfP, rvP, rhP, frP, scanR, scanH, scanP, rsP, skP, pfP])))
  · split at f
    · exfalso; omega
    · rw [← hq, if_neg (by omega)]
  · split at f
    · rw [← hq, if_pos (by omega), if_pos (by omega)]
    · exfalso; omega
theorem spec_OffsetOf (b : ByteArray) (i : Int) (hb : b.size ≤ 1073741824) (hi : i64 i) : Fn Try.prog 43 [.str b, .int .i64 i] [] (.int .i64 (offT b i)) [] := by
  have hS := spec_Scan b hb
  have hF := scan_f b
  unfold i64 at hi
  unfold offT
  generalize scan b = t at *
  obtain ⟨ok, v, s, base, l, rs, os, e, m⟩ := t
  obtain ⟨f1, f2, f3, f4, f5, f6, f7, f8, f9⟩ := hF
  simp only at f1 f2 f3 f4 f5 f6 f7 f8 f9 hS ⊢
  generalize hq : (if base ≤ i ∧ i < base + os.length then os.getD (i - base).toNat default else -1) = q
  refine fn_x tok (n := 38) (rs := [.tmp 4]) Try.func43 (by decide) rfl rfl rfl rfl ?_
  (try simp (maxSteps := 1000000) (disch := first | omega | (simp only [LN, numOk, verOk, rfP, rvP, rhP, frP, scanR, scanH, scanP, rsP, skP, pfP] <;> omega) | exact Ck.mk rfl) only [VC, T, Nat.reduceMul, Nat.reduceAdd, Nat.reduceSub, Nat.reduceLT, Nat.reduceEqDiff, Nat.reduceLeDiff, Nat.reduceBEq, reduceCtorEq, Int.reduceToNat, ↓reduceIte, rfP, rvP, rhP, frP, scanR, scanH, scanP, rsP, skP, pfP])
  repeat' (first
    | (refine br_go (fun e f => ?_) (fun e f => ?_) <;> (try simp only [BB] at f) <;> (try simp only [numOk, verOk] at f) <;> (try simp (maxSteps := 1000000) (disch := first | omega | (simp only [LN, numOk, verOk, rfP, rvP, rhP, frP, scanR, scanH, scanP, rsP, skP, pfP] <;> omega) | exact Ck.mk rfl) only [e, VC, T, Nat.reduceMul, Nat.reduceAdd, Nat.reduceSub, Nat.reduceLT, Nat.reduceEqDiff, Nat.reduceLeDiff, Nat.reduceBEq, reduceCtorEq, Int.reduceToNat, ↓reduceIte, rfP, rvP, rhP, frP, scanR, scanH, scanP, rsP, skP, pfP]) <;> (try clear e))
    | (refine pick_go (fun e f => ?_) (fun e f => ?_) <;> (try simp only [BB] at f) <;> (try simp only [numOk, verOk] at f) <;> (try simp (maxSteps := 1000000) (disch := first | omega | (simp only [LN, numOk, verOk, rfP, rvP, rhP, frP, scanR, scanH, scanP, rsP, skP, pfP] <;> omega) | exact Ck.mk rfl) only [e, VC, T, Nat.reduceMul, Nat.reduceAdd, Nat.reduceSub, Nat.reduceLT, Nat.reduceEqDiff, Nat.reduceLeDiff, Nat.reduceBEq, reduceCtorEq, Int.reduceToNat, ↓reduceIte, rfP, rvP, rhP, frP, scanR, scanH, scanP, rsP, skP, pfP]) <;> (try clear e))
    | ((first | refine call_x (hS) rfl ⟨rfl⟩ ?_); (try simp (maxSteps := 1000000) (disch := first | omega | (simp only [LN, numOk, verOk, rfP, rvP, rhP, frP, scanR, scanH, scanP, rsP, skP, pfP] <;> omega) | exact Ck.mk rfl) only [VC, T, Nat.reduceMul, Nat.reduceAdd, Nat.reduceSub, Nat.reduceLT, Nat.reduceEqDiff, Nat.reduceLeDiff, Nat.reduceBEq, reduceCtorEq, Int.reduceToNat, ↓reduceIte, rfP, rvP, rhP, frP, scanR, scanH, scanP, rsP, skP, pfP])))
  · rw [← hq, if_neg (by omega)]
  · rw [← hq, if_neg (by omega)]
  · rw [← hq, if_pos (by omega)]
  · have := f2 f
    simp only [Prod.mk.injEq] at this
    obtain ⟨_, _, _, _, _, _, rfl, _⟩ := this
    rw [← hq, if_neg (by simp only [List.length_nil]; omega)]
/-- The places of a sealed file. -/
def listT (b : ByteArray) : List (Int × Int) × Bool := if sealedB b = true then (placesP (scan b).2.2.1 (scan b).2.2.2.2.2.2.1, true) else ([], false)
def liP (x : List (Int × Int) × Bool) : PV := .tup [.far (x.1.map plP), .bool x.2]
def liR (x : List (Int × Int) × Bool) : PV := .tup [.row 64 x.1.length, .bool x.2]
def liH (x : List (Int × Int) × Bool) : Hp := [(64, .row ⟨2, 0⟩ (x.1.map plP))]
theorem sok (b : ByteArray) : (rSealed b).2.2 = sealedB b := by
  unfold rSealed
  cases sealedB b <;> rfl
theorem impl_ListInR (b : ByteArray) (hb : b.size ≤ 1073741824) : FnE Try.prog 25 [.str b] [] (fun r m => r = liR (listT b) ∧ m = liH (listT b)) := by
  have hS := impl_Scan b hb
  have hO := impl_SealedOk b hb
  have hF := scan_f b
  have hM := sealed_ok b
  rw [sok] at hO
  unfold listT
  generalize sealedB b = sb at *
  generalize scan b = t at *
  obtain ⟨ok, v, s, base, l, rs, os, e, m⟩ := t
  obtain ⟨f1, f2, f3, f4, f5, f6, f7, f8, f9⟩ := hF
  simp only at f1 f2 f3 f4 f5 f6 f7 f8 f9 hS hM ⊢
  cases sb
  · simp only [Bool.false_eq_true, if_false]
    refine fn_e tok (n := 16) (rs := [.tmp 2, .tmp 3]) Try.func25 (by decide) rfl rfl rfl rfl (low_of rfl) ?_
    (try simp (maxSteps := 1000000) (disch := first | omega | (simp only [LN, numOk, verOk, rfP, rvP, rhP, frP, scanR, scanH, scanP, rsP, skP, pfP] <;> omega) | exact Ck.mk rfl) only [VC, T, Nat.reduceMul, Nat.reduceAdd, Nat.reduceSub, Nat.reduceLT, Nat.reduceEqDiff, Nat.reduceLeDiff, Nat.reduceBEq, reduceCtorEq, Int.reduceToNat, ↓reduceIte, rfP, rvP, rhP, frP, scanR, scanH, scanP, rsP, skP, pfP])
    repeat' (first
      | (refine br_go (fun e f => ?_) (fun e f => ?_) <;> (try simp only [BB] at f) <;> (try simp only [numOk, verOk] at f) <;> (try simp (maxSteps := 1000000) (disch := first | omega | (simp only [LN, numOk, verOk, rfP, rvP, rhP, frP, scanR, scanH, scanP, rsP, skP, pfP] <;> omega) | exact Ck.mk rfl) only [e, VC, T, Nat.reduceMul, Nat.reduceAdd, Nat.reduceSub, Nat.reduceLT, Nat.reduceEqDiff, Nat.reduceLeDiff, Nat.reduceBEq, reduceCtorEq, Int.reduceToNat, ↓reduceIte, rfP, rvP, rhP, frP, scanR, scanH, scanP, rsP, skP, pfP]) <;> (try clear e))
      | (refine pick_go (fun e f => ?_) (fun e f => ?_) <;> (try simp only [BB] at f) <;> (try simp only [numOk, verOk] at f) <;> (try simp (maxSteps := 1000000) (disch := first | omega | (simp only [LN, numOk, verOk, rfP, rvP, rhP, frP, scanR, scanH, scanP, rsP, skP, pfP] <;> omega) | exact Ck.mk rfl) only [e, VC, T, Nat.reduceMul, Nat.reduceAdd, Nat.reduceSub, Nat.reduceLT, Nat.reduceEqDiff, Nat.reduceLeDiff, Nat.reduceBEq, reduceCtorEq, Int.reduceToNat, ↓reduceIte, rfP, rvP, rhP, frP, scanR, scanH, scanP, rsP, skP, pfP]) <;> (try clear e))
      | ((first | refine call_x (hO) rfl ⟨rfl⟩ ?_); (try simp (maxSteps := 1000000) (disch := first | omega | (simp only [LN, numOk, verOk, rfP, rvP, rhP, frP, scanR, scanH, scanP, rsP, skP, pfP] <;> omega) | exact Ck.mk rfl) only [VC, T, Nat.reduceMul, Nat.reduceAdd, Nat.reduceSub, Nat.reduceLT, Nat.reduceEqDiff, Nat.reduceLeDiff, Nat.reduceBEq, reduceCtorEq, Int.reduceToNat, ↓reduceIte, rfP, rvP, rhP, frP, scanR, scanH, scanP, rsP, skP, pfP])))
    exact fin_t [none] (⟨rfl, rfl⟩) rfl (by simp [RV, RV2, RVl, RV1, tau, tget, hget, data1, oneOf, liR, liH]) (by simp [RH, RVl, RV1, tau, hget, data1, liR, liH]) (by simp [Taus, hget, liR, liH])
  · simp only [if_true]
    have hs := (hM rfl).2.2.1.1.2.1.2
    have hP := impl_PlacesOf_R s os (by omega) (by omega)
    refine fn_e tok (n := 16) (rs := [.tmp 2, .tmp 3]) Try.func25 (by decide) rfl rfl rfl rfl (low_of rfl) ?_
    (try simp (maxSteps := 1000000) (disch := first | omega | (simp only [LN, numOk, verOk, rfP, rvP, rhP, frP, scanR, scanH, scanP, rsP, skP, pfP] <;> omega) | exact Ck.mk rfl) only [VC, T, Nat.reduceMul, Nat.reduceAdd, Nat.reduceSub, Nat.reduceLT, Nat.reduceEqDiff, Nat.reduceLeDiff, Nat.reduceBEq, reduceCtorEq, Int.reduceToNat, ↓reduceIte, rfP, rvP, rhP, frP, scanR, scanH, scanP, rsP, skP, pfP])
    repeat' (first
      | (refine br_go (fun e f => ?_) (fun e f => ?_) <;> (try simp only [BB] at f) <;> (try simp only [numOk, verOk] at f) <;> (try simp (maxSteps := 1000000) (disch := first | omega | (simp only [LN, numOk, verOk, rfP, rvP, rhP, frP, scanR, scanH, scanP, rsP, skP, pfP] <;> omega) | exact Ck.mk rfl) only [e, VC, T, Nat.reduceMul, Nat.reduceAdd, Nat.reduceSub, Nat.reduceLT, Nat.reduceEqDiff, Nat.reduceLeDiff, Nat.reduceBEq, reduceCtorEq, Int.reduceToNat, ↓reduceIte, rfP, rvP, rhP, frP, scanR, scanH, scanP, rsP, skP, pfP]) <;> (try clear e))
      | (refine pick_go (fun e f => ?_) (fun e f => ?_) <;> (try simp only [BB] at f) <;> (try simp only [numOk, verOk] at f) <;> (try simp (maxSteps := 1000000) (disch := first | omega | (simp only [LN, numOk, verOk, rfP, rvP, rhP, frP, scanR, scanH, scanP, rsP, skP, pfP] <;> omega) | exact Ck.mk rfl) only [e, VC, T, Nat.reduceMul, Nat.reduceAdd, Nat.reduceSub, Nat.reduceLT, Nat.reduceEqDiff, Nat.reduceLeDiff, Nat.reduceBEq, reduceCtorEq, Int.reduceToNat, ↓reduceIte, rfP, rvP, rhP, frP, scanR, scanH, scanP, rsP, skP, pfP]) <;> (try clear e))
      | ((first | refine call_x (hO) rfl ⟨rfl⟩ ?_ | refine call_x (hS) rfl ⟨rfl⟩ ?_ | (refine call_h [] [] (hP) (by decide) rfl rfl ?_; rintro _ _ ⟨rfl, rfl⟩)); (try simp (maxSteps := 1000000) (disch := first | omega | (simp only [LN, numOk, verOk, rfP, rvP, rhP, frP, scanR, scanH, scanP, rsP, skP, pfP] <;> omega) | exact Ck.mk rfl) only [VC, T, Nat.reduceMul, Nat.reduceAdd, Nat.reduceSub, Nat.reduceLT, Nat.reduceEqDiff, Nat.reduceLeDiff, Nat.reduceBEq, reduceCtorEq, Int.reduceToNat, ↓reduceIte, rfP, rvP, rhP, frP, scanR, scanH, scanP, rsP, skP, pfP])))
    exact fin_t [some 1024] (⟨rfl, rfl⟩) rfl (by simp [RV, RV2, RVl, RV1, tau, tget, hget, data1, oneOf, liR, liH]) (by simp [RH, RVl, RV1, tau, hget, data1, liR, liH]) (by simp [Taus, hget, liR, liH])
theorem impl_ListIn (b : ByteArray) (hb : b.size ≤ 1073741824) : Fn Try.prog 25 [.str b] [] (liP (listT b)) [] := by
  obtain ⟨_, _, ⟨rfl, rfl⟩, h⟩ := impl_ListInR b hb
  refine h.far ?_
  simp [fz, fz2, fz1, cvtl, elems, liR, liH, liP, hget, data1]
theorem spec_ListIn (b : ByteArray) (hb : b.size ≤ 1073741824) : Fn Try.prog 24 [.str b] [] (liP (listT b)) [] := by
  have hS := spec_Scan b hb
  have hO := spec_SealedOk b hb
  have hF := scan_f b
  rw [sok] at hO
  unfold listT
  generalize sealedB b = sb at *
  generalize scan b = t at *
  obtain ⟨ok, v, s, base, l, rs, os, e, m⟩ := t
  obtain ⟨f1, f2, f3, f4, f5, f6, f7, f8, f9⟩ := hF
  simp only at f1 f2 f3 f4 f5 f6 f7 f8 f9 hS ⊢
  cases sb
  · simp only [Bool.false_eq_true, if_false]
    refine fn_x tok (n := 17) (rs := [.tmp 2, .tmp 3]) Try.func24 (by decide) rfl rfl rfl rfl ?_
    (try simp (maxSteps := 1000000) (disch := first | omega | (simp only [LN, numOk, verOk, rfP, rvP, rhP, frP, scanR, scanH, scanP, rsP, skP, pfP] <;> omega) | exact Ck.mk rfl) only [VC, T, Nat.reduceMul, Nat.reduceAdd, Nat.reduceSub, Nat.reduceLT, Nat.reduceEqDiff, Nat.reduceLeDiff, Nat.reduceBEq, reduceCtorEq, Int.reduceToNat, ↓reduceIte, rfP, rvP, rhP, frP, scanR, scanH, scanP, rsP, skP, pfP])
    repeat' (first
      | (refine br_go (fun e f => ?_) (fun e f => ?_) <;> (try simp only [BB] at f) <;> (try simp only [numOk, verOk] at f) <;> (try simp (maxSteps := 1000000) (disch := first | omega | (simp only [LN, numOk, verOk, rfP, rvP, rhP, frP, scanR, scanH, scanP, rsP, skP, pfP] <;> omega) | exact Ck.mk rfl) only [e, VC, T, Nat.reduceMul, Nat.reduceAdd, Nat.reduceSub, Nat.reduceLT, Nat.reduceEqDiff, Nat.reduceLeDiff, Nat.reduceBEq, reduceCtorEq, Int.reduceToNat, ↓reduceIte, rfP, rvP, rhP, frP, scanR, scanH, scanP, rsP, skP, pfP]) <;> (try clear e))
      | (refine pick_go (fun e f => ?_) (fun e f => ?_) <;> (try simp only [BB] at f) <;> (try simp only [numOk, verOk] at f) <;> (try simp (maxSteps := 1000000) (disch := first | omega | (simp only [LN, numOk, verOk, rfP, rvP, rhP, frP, scanR, scanH, scanP, rsP, skP, pfP] <;> omega) | exact Ck.mk rfl) only [e, VC, T, Nat.reduceMul, Nat.reduceAdd, Nat.reduceSub, Nat.reduceLT, Nat.reduceEqDiff, Nat.reduceLeDiff, Nat.reduceBEq, reduceCtorEq, Int.reduceToNat, ↓reduceIte, rfP, rvP, rhP, frP, scanR, scanH, scanP, rsP, skP, pfP]) <;> (try clear e))
      | ((first | refine call_x (hO) rfl ⟨rfl⟩ ?_); (try simp (maxSteps := 1000000) (disch := first | omega | (simp only [LN, numOk, verOk, rfP, rvP, rhP, frP, scanR, scanH, scanP, rsP, skP, pfP] <;> omega) | exact Ck.mk rfl) only [VC, T, Nat.reduceMul, Nat.reduceAdd, Nat.reduceSub, Nat.reduceLT, Nat.reduceEqDiff, Nat.reduceLeDiff, Nat.reduceBEq, reduceCtorEq, Int.reduceToNat, ↓reduceIte, rfP, rvP, rhP, frP, scanR, scanH, scanP, rsP, skP, pfP])))
    rfl
  · simp only [if_true]
    have hP := spec_PlacesOf s os (by omega)
    refine fn_x tok (n := 17) (rs := [.tmp 2, .tmp 3]) Try.func24 (by decide) rfl rfl rfl rfl ?_
    (try simp (maxSteps := 1000000) (disch := first | omega | (simp only [LN, numOk, verOk, rfP, rvP, rhP, frP, scanR, scanH, scanP, rsP, skP, pfP] <;> omega) | exact Ck.mk rfl) only [VC, T, Nat.reduceMul, Nat.reduceAdd, Nat.reduceSub, Nat.reduceLT, Nat.reduceEqDiff, Nat.reduceLeDiff, Nat.reduceBEq, reduceCtorEq, Int.reduceToNat, ↓reduceIte, rfP, rvP, rhP, frP, scanR, scanH, scanP, rsP, skP, pfP])
    repeat' (first
      | (refine br_go (fun e f => ?_) (fun e f => ?_) <;> (try simp only [BB] at f) <;> (try simp only [numOk, verOk] at f) <;> (try simp (maxSteps := 1000000) (disch := first | omega | (simp only [LN, numOk, verOk, rfP, rvP, rhP, frP, scanR, scanH, scanP, rsP, skP, pfP] <;> omega) | exact Ck.mk rfl) only [e, VC, T, Nat.reduceMul, Nat.reduceAdd, Nat.reduceSub, Nat.reduceLT, Nat.reduceEqDiff, Nat.reduceLeDiff, Nat.reduceBEq, reduceCtorEq, Int.reduceToNat, ↓reduceIte, rfP, rvP, rhP, frP, scanR, scanH, scanP, rsP, skP, pfP]) <;> (try clear e))
      | (refine pick_go (fun e f => ?_) (fun e f => ?_) <;> (try simp only [BB] at f) <;> (try simp only [numOk, verOk] at f) <;> (try simp (maxSteps := 1000000) (disch := first | omega | (simp only [LN, numOk, verOk, rfP, rvP, rhP, frP, scanR, scanH, scanP, rsP, skP, pfP] <;> omega) | exact Ck.mk rfl) only [e, VC, T, Nat.reduceMul, Nat.reduceAdd, Nat.reduceSub, Nat.reduceLT, Nat.reduceEqDiff, Nat.reduceLeDiff, Nat.reduceBEq, reduceCtorEq, Int.reduceToNat, ↓reduceIte, rfP, rvP, rhP, frP, scanR, scanH, scanP, rsP, skP, pfP]) <;> (try clear e))
      | ((first | refine call_x (hO) rfl ⟨rfl⟩ ?_ | refine call_x (hS) rfl ⟨rfl⟩ ?_ | refine call_x (hP) rfl ⟨rfl⟩ ?_); (try simp (maxSteps := 1000000) (disch := first | omega | (simp only [LN, numOk, verOk, rfP, rvP, rhP, frP, scanR, scanH, scanP, rsP, skP, pfP] <;> omega) | exact Ck.mk rfl) only [VC, T, Nat.reduceMul, Nat.reduceAdd, Nat.reduceSub, Nat.reduceLT, Nat.reduceEqDiff, Nat.reduceLeDiff, Nat.reduceBEq, reduceCtorEq, Int.reduceToNat, ↓reduceIte, rfP, rvP, rhP, frP, scanR, scanH, scanP, rsP, skP, pfP])))
    rfl
theorem pfor_first (k : Int) (p : Int × Int) (l : List (Int × Int)) (h : p.1 ≤ k) : (pfor k (p :: l)).2 = true := by
  unfold pfor
  split
  · assumption
  · first | rfl | rw [if_pos h]
theorem placesP_first (s : Int) (o : Int) (os : List Int) (hs : 1 ≤ s) : ∃ l, placesP s (o :: os) = (0, o) :: l := by
  unfold placesP placesOf
  rw [if_neg (by omega)]
  unfold plc
  rw [if_pos (by simp)]
  exact ⟨_, rfl⟩
theorem pfor_in (k : Int) : ∀ (l : List (Int × Int)), (pfor k l).2 = true → (pfor k l).1 ∈ l ∧ (pfor k l).1.1 ≤ k
  | [], h => by cases h
  | p :: l, h => by
    unfold pfor at h ⊢
    split at h
    · rename_i h1
      rw [if_pos h1]
      obtain ⟨a, b⟩ := pfor_in k l h1
      exact ⟨List.mem_cons_of_mem _ a, b⟩
    · rename_i h1
      rw [if_neg h1]
      split at h
      · rename_i h2
        rw [if_pos h2]; exact ⟨List.mem_cons_self, h2⟩
      · cases h
/-- How many frames are read for a record. -/
def readsT (b : ByteArray) (i : Int) : Int := if sealedB b = true ∧ (scan b).2.2.2.1 ≤ i ∧ i < (scan b).2.2.2.1 + (scan b).2.2.2.2.2.1.length then i - (scan b).2.2.2.1 - (pfor (i - (scan b).2.2.2.1) (placesP (scan b).2.2.1 (scan b).2.2.2.2.2.2.1)).1.1 + 1 else 0
theorem impl_ReadsFor (b : ByteArray) (i : Int) (hb : b.size ≤ 1073741824) (hi : i64 i) : Fn Try.prog 30 [.str b, .int .i64 i] [] (.int .i64 (readsT b i)) [] := by
  have hS := impl_Scan b hb
  have hL := impl_ListIn b hb
  have hF := scan_f b
  have hM := sealed_ok b
  unfold i64 at hi
  unfold readsT
  unfold listT at hL
  generalize sealedB b = sb at *
  generalize scan b = t at *
  obtain ⟨ok, v, s, base, l, rs, os, e, m⟩ := t
  obtain ⟨f1, f2, f3, f4, f5, f6, f7, f8, f9⟩ := hF
  simp only at f1 f2 f3 f4 f5 f6 f7 f8 f9 hS hM ⊢
  have hA := impl_at ok v s base l rs os e m i f3 (by omega)
  cases sb
  · simp only [Bool.false_eq_true, if_false, false_and] at hL ⊢
    unfold liP at hL
    have hP := fun n => impl_PlaceFor [] n (by simp)
    refine fn_x tok (n := 40) (rs := [.tmp 4]) Try.func30 (by decide) rfl rfl rfl rfl ?_
    (try simp (maxSteps := 1000000) (disch := first | omega | (simp only [LN, numOk, verOk, rfP, rvP, rhP, frP, scanR, scanH, scanP, rsP, skP, pfP] <;> omega) | exact Ck.mk rfl) only [VC, T, Nat.reduceMul, Nat.reduceAdd, Nat.reduceSub, Nat.reduceLT, Nat.reduceEqDiff, Nat.reduceLeDiff, Nat.reduceBEq, reduceCtorEq, Int.reduceToNat, ↓reduceIte, rfP, rvP, rhP, frP, scanR, scanH, scanP, rsP, skP, pfP])
    repeat' (first
      | (refine br_go (fun e f => ?_) (fun e f => ?_) <;> (try simp only [BB] at f) <;> (try simp only [numOk, verOk] at f) <;> (try simp (maxSteps := 1000000) (disch := first | omega | (simp only [LN, numOk, verOk, rfP, rvP, rhP, frP, scanR, scanH, scanP, rsP, skP, pfP] <;> omega) | exact Ck.mk rfl) only [e, VC, T, Nat.reduceMul, Nat.reduceAdd, Nat.reduceSub, Nat.reduceLT, Nat.reduceEqDiff, Nat.reduceLeDiff, Nat.reduceBEq, reduceCtorEq, Int.reduceToNat, ↓reduceIte, rfP, rvP, rhP, frP, scanR, scanH, scanP, rsP, skP, pfP]) <;> (try clear e))
      | (refine pick_go (fun e f => ?_) (fun e f => ?_) <;> (try simp only [BB] at f) <;> (try simp only [numOk, verOk] at f) <;> (try simp (maxSteps := 1000000) (disch := first | omega | (simp only [LN, numOk, verOk, rfP, rvP, rhP, frP, scanR, scanH, scanP, rsP, skP, pfP] <;> omega) | exact Ck.mk rfl) only [e, VC, T, Nat.reduceMul, Nat.reduceAdd, Nat.reduceSub, Nat.reduceLT, Nat.reduceEqDiff, Nat.reduceLeDiff, Nat.reduceBEq, reduceCtorEq, Int.reduceToNat, ↓reduceIte, rfP, rvP, rhP, frP, scanR, scanH, scanP, rsP, skP, pfP]) <;> (try clear e))
      | ((first | refine call_x (hL) rfl ⟨rfl⟩ ?_ | refine call_x (hS) rfl ⟨rfl⟩ ?_ | refine call_x (hA) rfl ⟨rfl⟩ ?_ | refine call_x (hP _) rfl ⟨rfl⟩ ?_); (try simp (maxSteps := 1000000) (disch := first | omega | (simp only [LN, numOk, verOk, rfP, rvP, rhP, frP, scanR, scanH, scanP, rsP, skP, pfP] <;> omega) | exact Ck.mk rfl) only [VC, T, Nat.reduceMul, Nat.reduceAdd, Nat.reduceSub, Nat.reduceLT, Nat.reduceEqDiff, Nat.reduceLeDiff, Nat.reduceBEq, reduceCtorEq, Int.reduceToNat, ↓reduceIte, rfP, rvP, rhP, frP, scanR, scanH, scanP, rsP, skP, pfP])))
  · simp only [if_true, true_and] at hL ⊢
    unfold liP at hL
    have hs := (hM rfl).2.2.1.1.2.1
    have hpl : (placesP s os).length ≤ os.length := placesOf_le _ _ _
    have hP := fun n => impl_PlaceFor (placesP s os) n (by omega)
    have hin := fun (k : Int) (h : (pfor k (placesP s os)).2 = true) => placesP_mem s os _ (pfor_in k _ h).1
    have hfi : ∀ k : Int, 0 ≤ k → k < os.length → (pfor k (placesP s os)).2 = true := fun k h1 h2 => by
      cases os with
      | nil => simp only [List.length_nil] at h2; omega
      | cons o os =>
        obtain ⟨l, h3⟩ := placesP_first s o os hs.1
        rw [h3]; exact pfor_first k _ _ h1
    by_cases hr : base ≤ i ∧ i ≤ base + rs.length - 1
    · rw [if_pos hr] at hA
      rw [if_pos (by omega)]
      have h1 := hfi (i - base) (by omega) (by omega)
      have h2 := hin (i - base) h1
      refine fn_x tok (n := 40) (rs := [.tmp 4]) Try.func30 (by decide) rfl rfl rfl rfl ?_
      (try simp (maxSteps := 1000000) (disch := first | omega | (simp only [LN, numOk, verOk, rfP, rvP, rhP, frP, scanR, scanH, scanP, rsP, skP, pfP, h1] <;> omega) | exact Ck.mk rfl) only [VC, T, Nat.reduceMul, Nat.reduceAdd, Nat.reduceSub, Nat.reduceLT, Nat.reduceEqDiff, Nat.reduceLeDiff, Nat.reduceBEq, reduceCtorEq, Int.reduceToNat, ↓reduceIte, rfP, rvP, rhP, frP, scanR, scanH, scanP, rsP, skP, pfP, h1])
      repeat' (first
        | (refine br_go (fun e f => ?_) (fun e f => ?_) <;> (try simp only [BB] at f) <;> (try simp only [numOk, verOk] at f) <;> (try simp (maxSteps := 1000000) (disch := first | omega | (simp only [LN, numOk, verOk, rfP, rvP, rhP, frP, scanR, scanH, scanP, rsP, skP, pfP, h1] <;> omega) | exact Ck.mk rfl) only [e, VC, T, Nat.reduceMul, Nat.reduceAdd, Nat.reduceSub, Nat.reduceLT, Nat.reduceEqDiff, Nat.reduceLeDiff, Nat.reduceBEq, reduceCtorEq, Int.reduceToNat, ↓reduceIte, rfP, rvP, rhP, frP, scanR, scanH, scanP, rsP, skP, pfP, h1]) <;> (try clear e))
        | (refine pick_go (fun e f => ?_) (fun e f => ?_) <;> (try simp only [BB] at f) <;> (try simp only [numOk, verOk] at f) <;> (try simp (maxSteps := 1000000) (disch := first | omega | (simp only [LN, numOk, verOk, rfP, rvP, rhP, frP, scanR, scanH, scanP, rsP, skP, pfP, h1] <;> omega) | exact Ck.mk rfl) only [e, VC, T, Nat.reduceMul, Nat.reduceAdd, Nat.reduceSub, Nat.reduceLT, Nat.reduceEqDiff, Nat.reduceLeDiff, Nat.reduceBEq, reduceCtorEq, Int.reduceToNat, ↓reduceIte, rfP, rvP, rhP, frP, scanR, scanH, scanP, rsP, skP, pfP, h1]) <;> (try clear e))
        | ((first | refine call_x (hL) rfl ⟨rfl⟩ ?_ | refine call_x (hS) rfl ⟨rfl⟩ ?_ | refine call_x (hA) rfl ⟨rfl⟩ ?_ | refine call_x (hP _) rfl ⟨rfl⟩ ?_); (try simp (maxSteps := 1000000) (disch := first | omega | (simp only [LN, numOk, verOk, rfP, rvP, rhP, frP, scanR, scanH, scanP, rsP, skP, pfP, h1] <;> omega) | exact Ck.mk rfl) only [VC, T, Nat.reduceMul, Nat.reduceAdd, Nat.reduceSub, Nat.reduceLT, Nat.reduceEqDiff, Nat.reduceLeDiff, Nat.reduceBEq, reduceCtorEq, Int.reduceToNat, ↓reduceIte, rfP, rvP, rhP, frP, scanR, scanH, scanP, rsP, skP, pfP, h1])))
    · rw [if_neg hr] at hA
      rw [if_neg (by omega)]
      refine fn_x tok (n := 40) (rs := [.tmp 4]) Try.func30 (by decide) rfl rfl rfl rfl ?_
      (try simp (maxSteps := 1000000) (disch := first | omega | (simp only [LN, numOk, verOk, rfP, rvP, rhP, frP, scanR, scanH, scanP, rsP, skP, pfP] <;> omega) | exact Ck.mk rfl) only [VC, T, Nat.reduceMul, Nat.reduceAdd, Nat.reduceSub, Nat.reduceLT, Nat.reduceEqDiff, Nat.reduceLeDiff, Nat.reduceBEq, reduceCtorEq, Int.reduceToNat, ↓reduceIte, rfP, rvP, rhP, frP, scanR, scanH, scanP, rsP, skP, pfP])
      repeat' (first
        | (refine br_go (fun e f => ?_) (fun e f => ?_) <;> (try simp only [BB] at f) <;> (try simp only [numOk, verOk] at f) <;> (try simp (maxSteps := 1000000) (disch := first | omega | (simp only [LN, numOk, verOk, rfP, rvP, rhP, frP, scanR, scanH, scanP, rsP, skP, pfP] <;> omega) | exact Ck.mk rfl) only [e, VC, T, Nat.reduceMul, Nat.reduceAdd, Nat.reduceSub, Nat.reduceLT, Nat.reduceEqDiff, Nat.reduceLeDiff, Nat.reduceBEq, reduceCtorEq, Int.reduceToNat, ↓reduceIte, rfP, rvP, rhP, frP, scanR, scanH, scanP, rsP, skP, pfP]) <;> (try clear e))
        | (refine pick_go (fun e f => ?_) (fun e f => ?_) <;> (try simp only [BB] at f) <;> (try simp only [numOk, verOk] at f) <;> (try simp (maxSteps := 1000000) (disch := first | omega | (simp only [LN, numOk, verOk, rfP, rvP, rhP, frP, scanR, scanH, scanP, rsP, skP, pfP] <;> omega) | exact Ck.mk rfl) only [e, VC, T, Nat.reduceMul, Nat.reduceAdd, Nat.reduceSub, Nat.reduceLT, Nat.reduceEqDiff, Nat.reduceLeDiff, Nat.reduceBEq, reduceCtorEq, Int.reduceToNat, ↓reduceIte, rfP, rvP, rhP, frP, scanR, scanH, scanP, rsP, skP, pfP]) <;> (try clear e))
        | ((first | refine call_x (hL) rfl ⟨rfl⟩ ?_ | refine call_x (hS) rfl ⟨rfl⟩ ?_ | refine call_x (hA) rfl ⟨rfl⟩ ?_ | refine call_x (hP _) rfl ⟨rfl⟩ ?_); (try simp (maxSteps := 1000000) (disch := first | omega | (simp only [LN, numOk, verOk, rfP, rvP, rhP, frP, scanR, scanH, scanP, rsP, skP, pfP] <;> omega) | exact Ck.mk rfl) only [VC, T, Nat.reduceMul, Nat.reduceAdd, Nat.reduceSub, Nat.reduceLT, Nat.reduceEqDiff, Nat.reduceLeDiff, Nat.reduceBEq, reduceCtorEq, Int.reduceToNat, ↓reduceIte, rfP, rvP, rhP, frP, scanR, scanH, scanP, rsP, skP, pfP])))
theorem spec_ReadsFor (b : ByteArray) (i : Int) (hb : b.size ≤ 1073741824) (hi : i64 i) : Fn Try.prog 29 [.str b, .int .i64 i] [] (.int .i64 (readsT b i)) [] := by
  have hS := spec_Scan b hb
  have hL := spec_ListIn b hb
  have hK := spec_SeekRecord b i hb hi
  have hF := scan_f b
  have hM := sealed_ok b
  unfold i64 at hi
  unfold readsT
  unfold listT at hL
  unfold seekT rSealed skP at hK
  generalize sealedB b = sb at *
  generalize scan b = t at *
  obtain ⟨ok, v, s, base, l, rs, os, e, m⟩ := t
  obtain ⟨f1, f2, f3, f4, f5, f6, f7, f8, f9⟩ := hF
  simp only at f1 f2 f3 f4 f5 f6 f7 f8 f9 hS hM hK ⊢
  cases sb
  · simp only [Bool.false_eq_true, if_false, false_and] at hL hK ⊢
    refine fn_x tok (n := 46) (rs := [.tmp 4]) Try.func29 (by decide) rfl rfl rfl rfl ?_
    (try simp (maxSteps := 1000000) (disch := first | omega | (simp only [LN, numOk, verOk, rfP, rvP, rhP, frP, scanR, scanH, scanP, rsP, skP, pfP] <;> omega) | exact Ck.mk rfl) only [VC, T, Nat.reduceMul, Nat.reduceAdd, Nat.reduceSub, Nat.reduceLT, Nat.reduceEqDiff, Nat.reduceLeDiff, Nat.reduceBEq, reduceCtorEq, Int.reduceToNat, ↓reduceIte, rfP, rvP, rhP, frP, scanR, scanH, scanP, rsP, skP, pfP])
    repeat' (first
      | (refine br_go (fun e f => ?_) (fun e f => ?_) <;> (try simp only [BB] at f) <;> (try simp only [numOk, verOk] at f) <;> (try simp (maxSteps := 1000000) (disch := first | omega | (simp only [LN, numOk, verOk, rfP, rvP, rhP, frP, scanR, scanH, scanP, rsP, skP, pfP] <;> omega) | exact Ck.mk rfl) only [e, VC, T, Nat.reduceMul, Nat.reduceAdd, Nat.reduceSub, Nat.reduceLT, Nat.reduceEqDiff, Nat.reduceLeDiff, Nat.reduceBEq, reduceCtorEq, Int.reduceToNat, ↓reduceIte, rfP, rvP, rhP, frP, scanR, scanH, scanP, rsP, skP, pfP]) <;> (try clear e))
      | (refine pick_go (fun e f => ?_) (fun e f => ?_) <;> (try simp only [BB] at f) <;> (try simp only [numOk, verOk] at f) <;> (try simp (maxSteps := 1000000) (disch := first | omega | (simp only [LN, numOk, verOk, rfP, rvP, rhP, frP, scanR, scanH, scanP, rsP, skP, pfP] <;> omega) | exact Ck.mk rfl) only [e, VC, T, Nat.reduceMul, Nat.reduceAdd, Nat.reduceSub, Nat.reduceLT, Nat.reduceEqDiff, Nat.reduceLeDiff, Nat.reduceBEq, reduceCtorEq, Int.reduceToNat, ↓reduceIte, rfP, rvP, rhP, frP, scanR, scanH, scanP, rsP, skP, pfP]) <;> (try clear e))
      | ((first | refine call_x (hK) rfl ⟨rfl⟩ ?_); (try simp (maxSteps := 1000000) (disch := first | omega | (simp only [LN, numOk, verOk, rfP, rvP, rhP, frP, scanR, scanH, scanP, rsP, skP, pfP] <;> omega) | exact Ck.mk rfl) only [VC, T, Nat.reduceMul, Nat.reduceAdd, Nat.reduceSub, Nat.reduceLT, Nat.reduceEqDiff, Nat.reduceLeDiff, Nat.reduceBEq, reduceCtorEq, Int.reduceToNat, ↓reduceIte, rfP, rvP, rhP, frP, scanR, scanH, scanP, rsP, skP, pfP])))
  · simp only [if_true, true_and] at hL hK ⊢
    unfold liP at hL
    have hs := (hM rfl).2.2.1.1.2.1
    have hpl : (placesP s os).length ≤ os.length := placesOf_le _ _ _
    have hP := fun n => spec_PlaceFor (placesP s os) n (by omega)
    have hin := fun (k : Int) (h : (pfor k (placesP s os)).2 = true) => placesP_mem s os _ (pfor_in k _ h).1
    have hfi : ∀ k : Int, 0 ≤ k → k < os.length → (pfor k (placesP s os)).2 = true := fun k h1 h2 => by
      cases os with
      | nil => simp only [List.length_nil] at h2; omega
      | cons o os =>
        obtain ⟨l, h3⟩ := placesP_first s o os hs.1
        rw [h3]; exact pfor_first k _ _ h1
    by_cases hr : base ≤ i ∧ i < base + rs.length
    · rw [if_pos hr] at hK
      rw [if_pos hr]
      have h1 := hfi (i - base) (by omega) (by omega)
      have h2 := hin (i - base) h1
      refine fn_x tok (n := 46) (rs := [.tmp 4]) Try.func29 (by decide) rfl rfl rfl rfl ?_
      (try simp (maxSteps := 1000000) (disch := first | omega | (simp only [LN, numOk, verOk, rfP, rvP, rhP, frP, scanR, scanH, scanP, rsP, skP, pfP, h1] <;> omega) | exact Ck.mk rfl) only [VC, T, Nat.reduceMul, Nat.reduceAdd, Nat.reduceSub, Nat.reduceLT, Nat.reduceEqDiff, Nat.reduceLeDiff, Nat.reduceBEq, reduceCtorEq, Int.reduceToNat, ↓reduceIte, rfP, rvP, rhP, frP, scanR, scanH, scanP, rsP, skP, pfP, h1])
      repeat' (first
        | (refine br_go (fun e f => ?_) (fun e f => ?_) <;> (try simp only [BB] at f) <;> (try simp only [numOk, verOk] at f) <;> (try simp (maxSteps := 1000000) (disch := first | omega | (simp only [LN, numOk, verOk, rfP, rvP, rhP, frP, scanR, scanH, scanP, rsP, skP, pfP, h1] <;> omega) | exact Ck.mk rfl) only [e, VC, T, Nat.reduceMul, Nat.reduceAdd, Nat.reduceSub, Nat.reduceLT, Nat.reduceEqDiff, Nat.reduceLeDiff, Nat.reduceBEq, reduceCtorEq, Int.reduceToNat, ↓reduceIte, rfP, rvP, rhP, frP, scanR, scanH, scanP, rsP, skP, pfP, h1]) <;> (try clear e))
        | (refine pick_go (fun e f => ?_) (fun e f => ?_) <;> (try simp only [BB] at f) <;> (try simp only [numOk, verOk] at f) <;> (try simp (maxSteps := 1000000) (disch := first | omega | (simp only [LN, numOk, verOk, rfP, rvP, rhP, frP, scanR, scanH, scanP, rsP, skP, pfP, h1] <;> omega) | exact Ck.mk rfl) only [e, VC, T, Nat.reduceMul, Nat.reduceAdd, Nat.reduceSub, Nat.reduceLT, Nat.reduceEqDiff, Nat.reduceLeDiff, Nat.reduceBEq, reduceCtorEq, Int.reduceToNat, ↓reduceIte, rfP, rvP, rhP, frP, scanR, scanH, scanP, rsP, skP, pfP, h1]) <;> (try clear e))
        | ((first | refine call_x (hK) rfl ⟨rfl⟩ ?_ | refine call_x (hL) rfl ⟨rfl⟩ ?_ | refine call_x (hS) rfl ⟨rfl⟩ ?_ | refine call_x (hP _) rfl ⟨rfl⟩ ?_); (try simp (maxSteps := 1000000) (disch := first | omega | (simp only [LN, numOk, verOk, rfP, rvP, rhP, frP, scanR, scanH, scanP, rsP, skP, pfP, h1] <;> omega) | exact Ck.mk rfl) only [VC, T, Nat.reduceMul, Nat.reduceAdd, Nat.reduceSub, Nat.reduceLT, Nat.reduceEqDiff, Nat.reduceLeDiff, Nat.reduceBEq, reduceCtorEq, Int.reduceToNat, ↓reduceIte, rfP, rvP, rhP, frP, scanR, scanH, scanP, rsP, skP, pfP, h1])))
    · rw [if_neg hr] at hK
      rw [if_neg hr]
      refine fn_x tok (n := 46) (rs := [.tmp 4]) Try.func29 (by decide) rfl rfl rfl rfl ?_
      (try simp (maxSteps := 1000000) (disch := first | omega | (simp only [LN, numOk, verOk, rfP, rvP, rhP, frP, scanR, scanH, scanP, rsP, skP, pfP] <;> omega) | exact Ck.mk rfl) only [VC, T, Nat.reduceMul, Nat.reduceAdd, Nat.reduceSub, Nat.reduceLT, Nat.reduceEqDiff, Nat.reduceLeDiff, Nat.reduceBEq, reduceCtorEq, Int.reduceToNat, ↓reduceIte, rfP, rvP, rhP, frP, scanR, scanH, scanP, rsP, skP, pfP])
      repeat' (first
        | (refine br_go (fun e f => ?_) (fun e f => ?_) <;> (try simp only [BB] at f) <;> (try simp only [numOk, verOk] at f) <;> (try simp (maxSteps := 1000000) (disch := first | omega | (simp only [LN, numOk, verOk, rfP, rvP, rhP, frP, scanR, scanH, scanP, rsP, skP, pfP] <;> omega) | exact Ck.mk rfl) only [e, VC, T, Nat.reduceMul, Nat.reduceAdd, Nat.reduceSub, Nat.reduceLT, Nat.reduceEqDiff, Nat.reduceLeDiff, Nat.reduceBEq, reduceCtorEq, Int.reduceToNat, ↓reduceIte, rfP, rvP, rhP, frP, scanR, scanH, scanP, rsP, skP, pfP]) <;> (try clear e))
        | (refine pick_go (fun e f => ?_) (fun e f => ?_) <;> (try simp only [BB] at f) <;> (try simp only [numOk, verOk] at f) <;> (try simp (maxSteps := 1000000) (disch := first | omega | (simp only [LN, numOk, verOk, rfP, rvP, rhP, frP, scanR, scanH, scanP, rsP, skP, pfP] <;> omega) | exact Ck.mk rfl) only [e, VC, T, Nat.reduceMul, Nat.reduceAdd, Nat.reduceSub, Nat.reduceLT, Nat.reduceEqDiff, Nat.reduceLeDiff, Nat.reduceBEq, reduceCtorEq, Int.reduceToNat, ↓reduceIte, rfP, rvP, rhP, frP, scanR, scanH, scanP, rsP, skP, pfP]) <;> (try clear e))
        | ((first | refine call_x (hK) rfl ⟨rfl⟩ ?_); (try simp (maxSteps := 1000000) (disch := first | omega | (simp only [LN, numOk, verOk, rfP, rvP, rhP, frP, scanR, scanH, scanP, rsP, skP, pfP] <;> omega) | exact Ck.mk rfl) only [VC, T, Nat.reduceMul, Nat.reduceAdd, Nat.reduceSub, Nat.reduceLT, Nat.reduceEqDiff, Nat.reduceLeDiff, Nat.reduceBEq, reduceCtorEq, Int.reduceToNat, ↓reduceIte, rfP, rvP, rhP, frP, scanR, scanH, scanP, rsP, skP, pfP])))
end Go.Pv

/- What functions of the program and of the reference do, in plain values. -/
namespace Go.Pv
open Go.Proofs Go.Mth
set_option linter.unusedSimpArgs false
set_option linter.unusedVariables false
set_option maxHeartbeats 4000000

/-! ### draws: sealed files, places -/
def caseP (v s b l : Int) (rs : List ByteArray) : PV := .tup [.agg [.int .i64 v, .int .i64 s, .int .i64 b, .int .i64 l], .far (rs.map .str)]
def isCase (r : PV) : Prop := ∃ (v s b l : Int) (rs : List ByteArray), r = caseP v s b l rs ∧ HdA (v, s, b, l) ∧ rs.length ≤ 9 ∧ ∀ r ∈ rs, r.size ≤ 61
def CQR (code : List Int) (n : Int) (r : PV) (m : Hp) : Prop := ∃ (rs : List ByteArray) (i h : Int), r = .row 64 rs.length ∧ m = [(0, curB code i h), (64, .row ⟨1, 0⟩ (rs.map .str))] ∧ Recs n rs ∧ CurOk code i h
theorem l08RecordsR (code : List Int) (hb : Bytes code) (n : Int) (hn : 0 ≤ n ∧ n ≤ 1000) (i h : Int) (hc : CurOk code i h) : FnE Try.prog 82 [.ref 0 0, .int .i64 n] [(0, curB code i h)] (CQR code n) := by
  refine fn_e tok (n := 22) (rs := [.tmp 4]) Try.func82 (by decide) rfl rfl rfl rfl (low_of rfl) ?_
  (try simp (maxSteps := 1000000) (disch := first | omega | (simp only [LN, numOk, verOk, rfP, rvP, rhP, frP, curB, bkd, rsP] <;> omega) | exact Ck.mk rfl) only [VC, T, Nat.reduceMul, Nat.reduceAdd, Nat.reduceSub, Nat.reduceLT, Nat.reduceEqDiff, Nat.reduceLeDiff, Nat.reduceBEq, reduceCtorEq, Int.reduceToNat, ↓reduceIte, rfP, rvP, rhP, frP, curB, bkd, rsP])
  repeat' (first
    | (refine br_go (fun e f => ?_) (fun e f => ?_) <;> (try simp only [BB] at f) <;> (try simp only [numOk, verOk] at f) <;> (try simp (maxSteps := 1000000) (disch := first | omega | (simp only [LN, numOk, verOk, rfP, rvP, rhP, frP, curB, bkd, rsP] <;> omega) | exact Ck.mk rfl) only [e, VC, T, Nat.reduceMul, Nat.reduceAdd, Nat.reduceSub, Nat.reduceLT, Nat.reduceEqDiff, Nat.reduceLeDiff, Nat.reduceBEq, reduceCtorEq, Int.reduceToNat, ↓reduceIte, rfP, rvP, rhP, frP, curB, bkd, rsP]) <;> (try clear e))
    | (refine pick_go (fun e f => ?_) (fun e f => ?_) <;> (try simp only [BB] at f) <;> (try simp only [numOk, verOk] at f) <;> (try simp (maxSteps := 1000000) (disch := first | omega | (simp only [LN, numOk, verOk, rfP, rvP, rhP, frP, curB, bkd, rsP] <;> omega) | exact Ck.mk rfl) only [e, VC, T, Nat.reduceMul, Nat.reduceAdd, Nat.reduceSub, Nat.reduceLT, Nat.reduceEqDiff, Nat.reduceLeDiff, Nat.reduceBEq, reduceCtorEq, Int.reduceToNat, ↓reduceIte, rfP, rvP, rhP, frP, curB, bkd, rsP]) <;> (try clear e)))
  refine lp_go (fun x : List ByteArray × Int × Int => ⟨22, [(0, .ref 0 0), (1, .int .i64 n), (5, .row 512 x.1.length), (6, .int .i64 x.1.length)], [(512, .row ⟨1, 0⟩ (x.1.map .str)), (0, curB code x.2.1 x.2.2)]⟩) (fun x => Recs n x.1 ∧ CurOk code x.2.1 x.2.2) (fun x => n.toNat - x.1.length) ([], i, h) ?_ ⟨⟨by simp only [List.length_nil]; omega, fun _ h => absurd h (by simp)⟩, hc⟩ ?_
  · (simp (disch := first | omega | (simp only [LN, numOk, verOk, curB] <;> omega) | exact Ck.mk rfl) only [SB, EQ, Nat.reduceMul, Nat.reduceAdd, Nat.reduceSub, Nat.reduceLT, Nat.reduceEqDiff, Nat.reduceLeDiff, Nat.reduceBEq, reduceCtorEq, Int.reduceToNat, ↓reduceIte, curB]; try omega)
  · rintro ⟨rs, i, h⟩ ⟨⟨h1, h2⟩, hc⟩ N hN
    simp only at h1 h2 hc
    (try simp (maxSteps := 1000000) (disch := first | omega | (simp only [LN, numOk, verOk, rfP, rvP, rhP, frP, curB, bkd, rsP] <;> omega) | exact Ck.mk rfl) only [VC, T, Nat.reduceMul, Nat.reduceAdd, Nat.reduceSub, Nat.reduceLT, Nat.reduceEqDiff, Nat.reduceLeDiff, Nat.reduceBEq, reduceCtorEq, Int.reduceToNat, ↓reduceIte, rfP, rvP, rhP, frP, curB, bkd, rsP])
    repeat' (first
      | (refine br_go (fun e f => ?_) (fun e f => ?_) <;> (try simp only [BB] at f) <;> (try simp only [numOk, verOk] at f) <;> (try simp (maxSteps := 1000000) (disch := first | omega | (simp only [LN, numOk, verOk, rfP, rvP, rhP, frP, curB, bkd, rsP] <;> omega) | exact Ck.mk rfl) only [e, VC, T, Nat.reduceMul, Nat.reduceAdd, Nat.reduceSub, Nat.reduceLT, Nat.reduceEqDiff, Nat.reduceLeDiff, Nat.reduceBEq, reduceCtorEq, Int.reduceToNat, ↓reduceIte, rfP, rvP, rhP, frP, curB, bkd, rsP]) <;> (try clear e))
      | (refine pick_go (fun e f => ?_) (fun e f => ?_) <;> (try simp only [BB] at f) <;> (try simp only [numOk, verOk] at f) <;> (try simp (maxSteps := 1000000) (disch := first | omega | (simp only [LN, numOk, verOk, rfP, rvP, rhP, frP, curB, bkd, rsP] <;> omega) | exact Ck.mk rfl) only [e, VC, T, Nat.reduceMul, Nat.reduceAdd, Nat.reduceSub, Nat.reduceLT, Nat.reduceEqDiff, Nat.reduceLeDiff, Nat.reduceBEq, reduceCtorEq, Int.reduceToNat, ↓reduceIte, rfP, rvP, rhP, frP, curB, bkd, rsP]) <;> (try clear e))
      | ((first | (refine call_h [0] [] (l01Below code hb _ (by omega) _ _ (by assumption)) (by decide) rfl rfl ?_; rintro _ _ ⟨⟨x, rfl, hx1, hx2⟩, i', h', rfl, hc'⟩) | (refine call_h [0] [] (l08Record code hb _ _ (by assumption)) (by decide) rfl rfl ?_; rintro _ _ ⟨⟨t, rfl, ht⟩, i', h', rfl, hc'⟩)); (try simp (maxSteps := 1000000) (disch := first | omega | (simp only [LN, numOk, verOk, rfP, rvP, rhP, frP, curB, bkd, rsP] <;> omega) | exact Ck.mk rfl) only [VC, T, Nat.reduceMul, Nat.reduceAdd, Nat.reduceSub, Nat.reduceLT, Nat.reduceEqDiff, Nat.reduceLeDiff, Nat.reduceBEq, reduceCtorEq, Int.reduceToNat, ↓reduceIte, rfP, rvP, rhP, frP, curB, bkd, rsP])))
    · refine hN (rs ++ [t], _, _) _ ⟨⟨by simp only [List.length_append, List.length_singleton]; omega, fun z hz => ?_⟩, by assumption⟩ (by simp only [List.length_append, List.length_singleton]; omega) ?_
      · rcases List.mem_append.1 hz with hz | hz
        · exact h2 z hz
        · rw [List.mem_singleton.1 hz]; exact ht
      · (simp (disch := first | omega | (simp only [LN, numOk, verOk, curB] <;> omega) | exact Ck.mk rfl) only [SB, EQ, Nat.reduceMul, Nat.reduceAdd, Nat.reduceSub, Nat.reduceLT, Nat.reduceEqDiff, Nat.reduceLeDiff, Nat.reduceBEq, reduceCtorEq, Int.reduceToNat, ↓reduceIte, curB]; try omega)
    · exact fin_t [some 512] (⟨rs, _, _, rfl, rfl, ⟨h1, h2⟩, hc'⟩) rfl (by simp [RV, RV2, RVl, RV1, tau, tget, hget, data1, oneOf, curB]) (by simp [RH, RVl, RV1, tau, hget, data1, curB]) (by simp [Taus, hget, curB])
theorem l12Case (code : List Int) (hb : Bytes code) : FnV Try.prog 49 [.far (code.map (.int .u8))] isCase := by
  refine fn_v tok (n := 24) (rs := [.cell 2 25, .tmp 3]) Try.func49 (by decide) rfl rfl rfl rfl ?_
  (try simp (maxSteps := 1000000) (disch := first | omega | (simp only [LN, numOk, verOk, rfP, rvP, rhP, frP, curB, bkd, rsP] <;> omega) | exact Ck.mk rfl) only [VC, T, Nat.reduceMul, Nat.reduceAdd, Nat.reduceSub, Nat.reduceLT, Nat.reduceEqDiff, Nat.reduceLeDiff, Nat.reduceBEq, reduceCtorEq, Int.reduceToNat, ↓reduceIte, rfP, rvP, rhP, frP, curB, bkd, rsP])
  repeat' (first
    | (refine br_go (fun e f => ?_) (fun e f => ?_) <;> (try simp only [BB] at f) <;> (try simp only [numOk, verOk] at f) <;> (try simp (maxSteps := 1000000) (disch := first | omega | (simp only [LN, numOk, verOk, rfP, rvP, rhP, frP, curB, bkd, rsP] <;> omega) | exact Ck.mk rfl) only [e, VC, T, Nat.reduceMul, Nat.reduceAdd, Nat.reduceSub, Nat.reduceLT, Nat.reduceEqDiff, Nat.reduceLeDiff, Nat.reduceBEq, reduceCtorEq, Int.reduceToNat, ↓reduceIte, rfP, rvP, rhP, frP, curB, bkd, rsP]) <;> (try clear e))
    | (refine pick_go (fun e f => ?_) (fun e f => ?_) <;> (try simp only [BB] at f) <;> (try simp only [numOk, verOk] at f) <;> (try simp (maxSteps := 1000000) (disch := first | omega | (simp only [LN, numOk, verOk, rfP, rvP, rhP, frP, curB, bkd, rsP] <;> omega) | exact Ck.mk rfl) only [e, VC, T, Nat.reduceMul, Nat.reduceAdd, Nat.reduceSub, Nat.reduceLT, Nat.reduceEqDiff, Nat.reduceLeDiff, Nat.reduceBEq, reduceCtorEq, Int.reduceToNat, ↓reduceIte, rfP, rvP, rhP, frP, curB, bkd, rsP]) <;> (try clear e))
    | ((first | (refine call_h [] [] (l01New code hb) (by decide) rfl rfl ?_; rintro _ _ ⟨rfl, h, rfl, hc⟩) | (refine call_h [576] [] (l08Any code hb _ _ (by assumption)) (by decide) rfl rfl ?_; rintro _ _ ⟨⟨v, s, b, l, rfl, hx⟩, i', h', rfl, hc'⟩) | (refine call_h [576] [] (l08RecordsR code hb _ (by omega) _ _ (by assumption)) (by decide) rfl rfl ?_; rintro _ _ ⟨rs, i', h', rfl, rfl, ⟨hr1, hr2⟩, hc'⟩) | (refine call_h [576] [] (l01Once code hb _ (by omega) _ _ (by assumption)) (by decide) rfl rfl ?_; rintro _ _ ⟨⟨x, rfl⟩, i', h', rfl, hc'⟩) | (refine call_h [576] [] (l01Below code hb _ (by omega) _ _ (by assumption)) (by decide) rfl rfl ?_; rintro _ _ ⟨⟨x, rfl, hx1, hx2⟩, i', h', rfl, hc'⟩) | (refine call_v (l01Long _ _ (by omega) (by omega)) rfl ?_; rintro _ ⟨u, rfl, hu⟩; refine ⟨⟨rfl⟩, ?_⟩)); (try simp (maxSteps := 1000000) (disch := first | omega | (simp only [LN, numOk, verOk, rfP, rvP, rhP, frP, curB, bkd, rsP] <;> omega) | exact Ck.mk rfl) only [VC, T, Nat.reduceMul, Nat.reduceAdd, Nat.reduceSub, Nat.reduceLT, Nat.reduceEqDiff, Nat.reduceLeDiff, Nat.reduceBEq, reduceCtorEq, Int.reduceToNat, ↓reduceIte, rfP, rvP, rhP, frP, curB, bkd, rsP])))
  · refine ⟨_, _, _, _, _, rfl, hx, by rw [List.length_append, List.length_singleton]; omega, fun z hz => ?_⟩
    rcases List.mem_append.1 hz with hz | hz
    · have := hr2 z hz; omega
    · rw [List.mem_singleton.1 hz]; unfold SzIn at hu; omega
  · exact ⟨_, _, _, _, _, rfl, hx, by omega, fun z hz => by have := hr2 z hz; omega⟩
theorem l12Text (code : List Int) (hb : Bytes code) : FnV Try.prog 67 [.far (code.map (.int .u8))] (isStr' (SzIn 200000)) := by
  have hsz := fun v s b l rs => sealT_le v s b l rs
  refine fn_v tok (n := 17) (rs := [.tmp 2]) Try.func67 (by decide) rfl rfl rfl rfl ?_
  (try simp (maxSteps := 1000000) (disch := first | omega | (simp only [LN, numOk, verOk, rfP, rvP, rhP, frP, curB, bkd, rsP] <;> omega) | exact Ck.mk rfl) only [VC, T, Nat.reduceMul, Nat.reduceAdd, Nat.reduceSub, Nat.reduceLT, Nat.reduceEqDiff, Nat.reduceLeDiff, Nat.reduceBEq, reduceCtorEq, Int.reduceToNat, ↓reduceIte, rfP, rvP, rhP, frP, curB, bkd, rsP])
  repeat' (first
    | (refine br_go (fun e f => ?_) (fun e f => ?_) <;> (try simp only [BB] at f) <;> (try simp only [numOk, verOk] at f) <;> (try simp (maxSteps := 1000000) (disch := first | omega | (simp only [LN, numOk, verOk, rfP, rvP, rhP, frP, curB, bkd, rsP] <;> omega) | exact Ck.mk rfl) only [e, VC, T, Nat.reduceMul, Nat.reduceAdd, Nat.reduceSub, Nat.reduceLT, Nat.reduceEqDiff, Nat.reduceLeDiff, Nat.reduceBEq, reduceCtorEq, Int.reduceToNat, ↓reduceIte, rfP, rvP, rhP, frP, curB, bkd, rsP]) <;> (try clear e))
    | (refine pick_go (fun e f => ?_) (fun e f => ?_) <;> (try simp only [BB] at f) <;> (try simp only [numOk, verOk] at f) <;> (try simp (maxSteps := 1000000) (disch := first | omega | (simp only [LN, numOk, verOk, rfP, rvP, rhP, frP, curB, bkd, rsP] <;> omega) | exact Ck.mk rfl) only [e, VC, T, Nat.reduceMul, Nat.reduceAdd, Nat.reduceSub, Nat.reduceLT, Nat.reduceEqDiff, Nat.reduceLeDiff, Nat.reduceBEq, reduceCtorEq, Int.reduceToNat, ↓reduceIte, rfP, rvP, rhP, frP, curB, bkd, rsP]) <;> (try clear e))
    | ((first | (refine call_h [] [] (l01New code hb) (by decide) rfl rfl ?_; rintro _ _ ⟨rfl, h, rfl, hc⟩) | (refine call_h [384] [] (l01Once code hb _ (by omega) _ _ (by assumption)) (by decide) rfl rfl ?_; rintro _ _ ⟨⟨x, rfl⟩, i', h', rfl, hc'⟩) | (refine call_h [384] [] (l10File code hb _ _ (by assumption)) (by decide) rfl rfl ?_; rintro _ _ ⟨⟨u, rfl, hu⟩, i', h', rfl, hc'⟩) | (refine call_h [384] [] (l08Head code hb _ _ (by assumption)) (by decide) rfl rfl ?_; rintro _ _ ⟨⟨v, s, b, l, rfl, hx⟩, i', h', rfl, hc'⟩) | (refine call_h [384] [] (l08Records code hb _ (by omega) _ _ (by assumption)) (by decide) rfl rfl ?_; rintro _ _ ⟨⟨rs, rfl, hr1, hr2⟩, i', h', rfl, hc'⟩) | refine call_x (spec_SealText _ _ _ _ _ (by omega) (fun r hr => by have := hr2 r hr; omega)) rfl ⟨rfl⟩ ?_ | (refine call_h [384] [] (l08Bent code hb _ (by have := hsz v s b l rs; omega) _ _ (by assumption)) (by decide) rfl rfl ?_; rintro _ _ ⟨⟨w, rfl, hw⟩, i', h', rfl, hc'⟩)); (try simp (maxSteps := 1000000) (disch := first | omega | (simp only [LN, numOk, verOk, rfP, rvP, rhP, frP, curB, bkd, rsP] <;> omega) | exact Ck.mk rfl) only [VC, T, Nat.reduceMul, Nat.reduceAdd, Nat.reduceSub, Nat.reduceLT, Nat.reduceEqDiff, Nat.reduceLeDiff, Nat.reduceBEq, reduceCtorEq, Int.reduceToNat, ↓reduceIte, rfP, rvP, rhP, frP, curB, bkd, rsP])))
  · exact ⟨_, rfl, hu⟩
  · refine ⟨_, rfl, ?_⟩
    have := hsz v s b l rs
    unfold SzIn at *
    omega
theorem DrawSealText (code : List Int) (hb : Bytes code) : FnV Try.prog 11 [.far (code.map (.int .u8))] isCase := by
  refine fn_v tok (n := 8) (rs := [.cell 2 25, .tmp 3]) Try.func11 (by decide) rfl rfl rfl rfl ?_
  (try simp (maxSteps := 1000000) (disch := first | omega | (simp only [LN, numOk, verOk, rfP, rvP, rhP, frP, curB, bkd, rsP, caseP] <;> omega) | exact Ck.mk rfl) only [VC, T, Nat.reduceMul, Nat.reduceAdd, Nat.reduceSub, Nat.reduceLT, Nat.reduceEqDiff, Nat.reduceLeDiff, Nat.reduceBEq, reduceCtorEq, Int.reduceToNat, ↓reduceIte, rfP, rvP, rhP, frP, curB, bkd, rsP, caseP])
  repeat' (first
    | (refine br_go (fun e f => ?_) (fun e f => ?_) <;> (try simp only [BB] at f) <;> (try simp only [numOk, verOk] at f) <;> (try simp (maxSteps := 1000000) (disch := first | omega | (simp only [LN, numOk, verOk, rfP, rvP, rhP, frP, curB, bkd, rsP, caseP] <;> omega) | exact Ck.mk rfl) only [e, VC, T, Nat.reduceMul, Nat.reduceAdd, Nat.reduceSub, Nat.reduceLT, Nat.reduceEqDiff, Nat.reduceLeDiff, Nat.reduceBEq, reduceCtorEq, Int.reduceToNat, ↓reduceIte, rfP, rvP, rhP, frP, curB, bkd, rsP, caseP]) <;> (try clear e))
    | (refine pick_go (fun e f => ?_) (fun e f => ?_) <;> (try simp only [BB] at f) <;> (try simp only [numOk, verOk] at f) <;> (try simp (maxSteps := 1000000) (disch := first | omega | (simp only [LN, numOk, verOk, rfP, rvP, rhP, frP, curB, bkd, rsP, caseP] <;> omega) | exact Ck.mk rfl) only [e, VC, T, Nat.reduceMul, Nat.reduceAdd, Nat.reduceSub, Nat.reduceLT, Nat.reduceEqDiff, Nat.reduceLeDiff, Nat.reduceBEq, reduceCtorEq, Int.reduceToNat, ↓reduceIte, rfP, rvP, rhP, frP, curB, bkd, rsP, caseP]) <;> (try clear e))
    | ((first | (refine call_v (l12Case code hb) rfl ?_; rintro _ ⟨v, s, b, l, rs, rfl, h1, h2, h3⟩; refine ⟨⟨rfl⟩, ?_⟩)); (try simp (maxSteps := 1000000) (disch := first | omega | (simp only [LN, numOk, verOk, rfP, rvP, rhP, frP, curB, bkd, rsP, caseP] <;> omega) | exact Ck.mk rfl) only [VC, T, Nat.reduceMul, Nat.reduceAdd, Nat.reduceSub, Nat.reduceLT, Nat.reduceEqDiff, Nat.reduceLeDiff, Nat.reduceBEq, reduceCtorEq, Int.reduceToNat, ↓reduceIte, rfP, rvP, rhP, frP, curB, bkd, rsP, caseP])))
  exact ⟨_, _, _, _, _, rfl, h1, h2, h3⟩
theorem DrawReadSealed (code : List Int) (hb : Bytes code) : FnV Try.prog 36 [.far (code.map (.int .u8))] (isStr' (SzIn 200000)) := by
  refine fn_v tok (n := 5) (rs := [.tmp 2]) Try.func36 (by decide) rfl rfl rfl rfl ?_
  (try simp (maxSteps := 1000000) (disch := first | omega | (simp only [LN, numOk, verOk, rfP, rvP, rhP, frP, curB, bkd, rsP] <;> omega) | exact Ck.mk rfl) only [VC, T, Nat.reduceMul, Nat.reduceAdd, Nat.reduceSub, Nat.reduceLT, Nat.reduceEqDiff, Nat.reduceLeDiff, Nat.reduceBEq, reduceCtorEq, Int.reduceToNat, ↓reduceIte, rfP, rvP, rhP, frP, curB, bkd, rsP])
  repeat' (first
    | (refine br_go (fun e f => ?_) (fun e f => ?_) <;> (try simp only [BB] at f) <;> (try simp only [numOk, verOk] at f) <;> (try simp (maxSteps := 1000000) (disch := first | omega | (simp only [LN, numOk, verOk, rfP, rvP, rhP, frP, curB, bkd, rsP] <;> omega) | exact Ck.mk rfl) only [e, VC, T, Nat.reduceMul, Nat.reduceAdd, Nat.reduceSub, Nat.reduceLT, Nat.reduceEqDiff, Nat.reduceLeDiff, Nat.reduceBEq, reduceCtorEq, Int.reduceToNat, ↓reduceIte, rfP, rvP, rhP, frP, curB, bkd, rsP]) <;> (try clear e))
    | (refine pick_go (fun e f => ?_) (fun e f => ?_) <;> (try simp only [BB] at f) <;> (try simp only [numOk, verOk] at f) <;> (try simp (maxSteps := 1000000) (disch := first | omega | (simp only [LN, numOk, verOk, rfP, rvP, rhP, frP, curB, bkd, rsP] <;> omega) | exact Ck.mk rfl) only [e, VC, T, Nat.reduceMul, Nat.reduceAdd, Nat.reduceSub, Nat.reduceLT, Nat.reduceEqDiff, Nat.reduceLeDiff, Nat.reduceBEq, reduceCtorEq, Int.reduceToNat, ↓reduceIte, rfP, rvP, rhP, frP, curB, bkd, rsP]) <;> (try clear e))
    | ((first | (refine call_v (l12Text code hb) rfl ?_; rintro _ ⟨u, rfl, hu⟩; refine ⟨⟨rfl⟩, ?_⟩)); (try simp (maxSteps := 1000000) (disch := first | omega | (simp only [LN, numOk, verOk, rfP, rvP, rhP, frP, curB, bkd, rsP] <;> omega) | exact Ck.mk rfl) only [VC, T, Nat.reduceMul, Nat.reduceAdd, Nat.reduceSub, Nat.reduceLT, Nat.reduceEqDiff, Nat.reduceLeDiff, Nat.reduceBEq, reduceCtorEq, Int.reduceToNat, ↓reduceIte, rfP, rvP, rhP, frP, curB, bkd, rsP])))
  exact ⟨_, rfl, hu⟩
def tiP (b : ByteArray) (i : Int) : PV := .tup [.str b, .int .i64 i]
def isTI (A : Int → Prop) (r : PV) : Prop := ∃ (b : ByteArray) (i : Int), r = tiP b i ∧ SzIn 200000 b ∧ A i
theorem DrawResealed (code : List Int) (hb : Bytes code) : FnV Try.prog 31 [.far (code.map (.int .u8))] (isTI (Mem [0, 1, 2, 3, -1])) := by
  refine fn_v tok (n := 12) (rs := [.tmp 2, .tmp 3]) Try.func31 (by decide) rfl rfl rfl rfl ?_
  (try simp (maxSteps := 1000000) (disch := first | omega | (simp only [LN, numOk, verOk, rfP, rvP, rhP, frP, curB, bkd, rsP] <;> omega) | exact Ck.mk rfl) only [VC, T, Nat.reduceMul, Nat.reduceAdd, Nat.reduceSub, Nat.reduceLT, Nat.reduceEqDiff, Nat.reduceLeDiff, Nat.reduceBEq, reduceCtorEq, Int.reduceToNat, ↓reduceIte, rfP, rvP, rhP, frP, curB, bkd, rsP])
  repeat' (first
    | (refine br_go (fun e f => ?_) (fun e f => ?_) <;> (try simp only [BB] at f) <;> (try simp only [numOk, verOk] at f) <;> (try simp (maxSteps := 1000000) (disch := first | omega | (simp only [LN, numOk, verOk, rfP, rvP, rhP, frP, curB, bkd, rsP] <;> omega) | exact Ck.mk rfl) only [e, VC, T, Nat.reduceMul, Nat.reduceAdd, Nat.reduceSub, Nat.reduceLT, Nat.reduceEqDiff, Nat.reduceLeDiff, Nat.reduceBEq, reduceCtorEq, Int.reduceToNat, ↓reduceIte, rfP, rvP, rhP, frP, curB, bkd, rsP]) <;> (try clear e))
    | (refine pick_go (fun e f => ?_) (fun e f => ?_) <;> (try simp only [BB] at f) <;> (try simp only [numOk, verOk] at f) <;> (try simp (maxSteps := 1000000) (disch := first | omega | (simp only [LN, numOk, verOk, rfP, rvP, rhP, frP, curB, bkd, rsP] <;> omega) | exact Ck.mk rfl) only [e, VC, T, Nat.reduceMul, Nat.reduceAdd, Nat.reduceSub, Nat.reduceLT, Nat.reduceEqDiff, Nat.reduceLeDiff, Nat.reduceBEq, reduceCtorEq, Int.reduceToNat, ↓reduceIte, rfP, rvP, rhP, frP, curB, bkd, rsP]) <;> (try clear e))
    | ((first | (refine call_h [] [] (l01New code hb) (by decide) rfl rfl ?_; rintro _ _ ⟨rfl, h, rfl, hc⟩) | (refine call_h [448] [] (l10File code hb _ _ (by assumption)) (by decide) rfl rfl ?_; rintro _ _ ⟨⟨u, rfl, hu⟩, i', h', rfl, hc'⟩) | (refine call_hd [448] [704] (l01PickInt code hb [0, 1, 2, 3, -1] (by simp) (by simp) _ _ (by assumption)) (by decide) ?_ rfl ?_; (focus (first | rfl | (simp (maxSteps := 1000000) (disch := first | omega | (simp only [LN, numOk, verOk, rfP, rvP, rhP, frP, curB, bkd, rsP] <;> omega) | exact Ck.mk rfl) only [VC, T, Nat.reduceMul, Nat.reduceAdd, Nat.reduceSub, Nat.reduceLT, Nat.reduceEqDiff, Nat.reduceLeDiff, Nat.reduceBEq, reduceCtorEq, Int.reduceToNat, ↓reduceIte, rfP, rvP, rhP, frP, curB, bkd, rsP]; done))); rintro _ _ ⟨⟨y, rfl, hy⟩, i', h', rfl, hc'⟩)); (try simp (maxSteps := 1000000) (disch := first | omega | (simp only [LN, numOk, verOk, rfP, rvP, rhP, frP, curB, bkd, rsP] <;> omega) | exact Ck.mk rfl) only [VC, T, Nat.reduceMul, Nat.reduceAdd, Nat.reduceSub, Nat.reduceLT, Nat.reduceEqDiff, Nat.reduceLeDiff, Nat.reduceBEq, reduceCtorEq, Int.reduceToNat, ↓reduceIte, rfP, rvP, rhP, frP, curB, bkd, rsP])))
  exact ⟨_, _, rfl, hu, hy⟩
theorem l13Case (code : List Int) (hb : Bytes code) : FnV Try.prog 78 [.far (code.map (.int .u8))] (isTI i64) := by
  refine fn_v tok (n := 35) (rs := [.tmp 2, .tmp 3]) Try.func78 (by decide) rfl rfl rfl rfl ?_
  (try simp (maxSteps := 1000000) (disch := first | omega | (simp only [LN, numOk, verOk, rfP, rvP, rhP, frP, curB, bkd, rsP] <;> omega) | exact Ck.mk rfl) only [VC, T, Nat.reduceMul, Nat.reduceAdd, Nat.reduceSub, Nat.reduceLT, Nat.reduceEqDiff, Nat.reduceLeDiff, Nat.reduceBEq, reduceCtorEq, Int.reduceToNat, ↓reduceIte, rfP, rvP, rhP, frP, curB, bkd, rsP])
  repeat' (first
    | (refine br_go (fun e f => ?_) (fun e f => ?_) <;> (try simp only [BB] at f) <;> (try simp only [numOk, verOk] at f) <;> (try simp (maxSteps := 1000000) (disch := first | omega | (simp only [LN, numOk, verOk, rfP, rvP, rhP, frP, curB, bkd, rsP] <;> omega) | exact Ck.mk rfl) only [e, VC, T, Nat.reduceMul, Nat.reduceAdd, Nat.reduceSub, Nat.reduceLT, Nat.reduceEqDiff, Nat.reduceLeDiff, Nat.reduceBEq, reduceCtorEq, Int.reduceToNat, ↓reduceIte, rfP, rvP, rhP, frP, curB, bkd, rsP]) <;> (try clear e))
    | (refine pick_go (fun e f => ?_) (fun e f => ?_) <;> (try simp only [BB] at f) <;> (try simp only [numOk, verOk] at f) <;> (try simp (maxSteps := 1000000) (disch := first | omega | (simp only [LN, numOk, verOk, rfP, rvP, rhP, frP, curB, bkd, rsP] <;> omega) | exact Ck.mk rfl) only [e, VC, T, Nat.reduceMul, Nat.reduceAdd, Nat.reduceSub, Nat.reduceLT, Nat.reduceEqDiff, Nat.reduceLeDiff, Nat.reduceBEq, reduceCtorEq, Int.reduceToNat, ↓reduceIte, rfP, rvP, rhP, frP, curB, bkd, rsP]) <;> (try clear e))
    | ((first | (refine call_v (l12Text code hb) rfl ?_; rintro _ ⟨u, rfl, hu⟩; refine ⟨⟨rfl⟩, ?_⟩) | refine call_x (spec_ReadHead _ (by unfold SzIn at hu; omega)) rfl ⟨rfl⟩ ?_ | (refine call_h [] [] (l01New code hb) (by decide) rfl rfl ?_; rintro _ _ ⟨rfl, h, rfl, hc⟩) | (refine call_hd [1088] [2176] (l01PickInt code hb [(rHead u).2.2.1, IntKind.i64.wrap ((rHead u).2.2.1 + 1), IntKind.i64.wrap ((rHead u).2.2.1 + 2), IntKind.i64.wrap ((rHead u).2.2.1 + 5), IntKind.i64.wrap ((rHead u).2.2.1 - 1), -1, 9223372036854775807, -9223372036854775808] (by simp) (by simp) _ _ (by assumption)) (by decide) ?_ rfl ?_; (focus (first | rfl | (simp (maxSteps := 1000000) (disch := first | omega | (simp only [LN, numOk, verOk, rfP, rvP, rhP, frP, curB, bkd, rsP] <;> omega) | exact Ck.mk rfl) only [VC, T, Nat.reduceMul, Nat.reduceAdd, Nat.reduceSub, Nat.reduceLT, Nat.reduceEqDiff, Nat.reduceLeDiff, Nat.reduceBEq, reduceCtorEq, Int.reduceToNat, ↓reduceIte, rfP, rvP, rhP, frP, curB, bkd, rsP]; done))); rintro _ _ ⟨⟨y, rfl, hy⟩, i', h', rfl, hc'⟩)); (try simp (maxSteps := 1000000) (disch := first | omega | (simp only [LN, numOk, verOk, rfP, rvP, rhP, frP, curB, bkd, rsP] <;> omega) | exact Ck.mk rfl) only [VC, T, Nat.reduceMul, Nat.reduceAdd, Nat.reduceSub, Nat.reduceLT, Nat.reduceEqDiff, Nat.reduceLeDiff, Nat.reduceBEq, reduceCtorEq, Int.reduceToNat, ↓reduceIte, rfP, rvP, rhP, frP, curB, bkd, rsP])))
  refine ⟨_, _, rfl, hu, ?_⟩
  simp only [Mem, List.mem_cons, List.not_mem_nil, or_false] at hy
  have h1 : i64 (rHead u).2.2.1 := by
    by_cases hr : (rHead u).2.2.2.2 = true
    · obtain ⟨_, hk, _⟩ := rHead_ok u hr
      have := hk.2.2.1
      unfold numOk at this; unfold i64; omega
    · rw [Go.Mth.rHead_no u hr]; unfold i64; decide
  rcases hy with rfl | rfl | rfl | rfl | rfl | rfl | rfl | rfl <;> first
    | exact h1
    | exact wrap_i64r _
    | (unfold i64; decide)
theorem DrawSeekRecord (code : List Int) (hb : Bytes code) : FnV Try.prog 39 [.far (code.map (.int .u8))] (isTI i64) := by
  refine fn_v tok (n := 8) (rs := [.tmp 2, .tmp 3]) Try.func39 (by decide) rfl rfl rfl rfl ?_
  (try simp (maxSteps := 1000000) (disch := first | omega | (simp only [LN, numOk, verOk, rfP, rvP, rhP, frP, curB, bkd, rsP, tiP] <;> omega) | exact Ck.mk rfl) only [VC, T, Nat.reduceMul, Nat.reduceAdd, Nat.reduceSub, Nat.reduceLT, Nat.reduceEqDiff, Nat.reduceLeDiff, Nat.reduceBEq, reduceCtorEq, Int.reduceToNat, ↓reduceIte, rfP, rvP, rhP, frP, curB, bkd, rsP, tiP])
  repeat' (first
    | (refine br_go (fun e f => ?_) (fun e f => ?_) <;> (try simp only [BB] at f) <;> (try simp only [numOk, verOk] at f) <;> (try simp (maxSteps := 1000000) (disch := first | omega | (simp only [LN, numOk, verOk, rfP, rvP, rhP, frP, curB, bkd, rsP, tiP] <;> omega) | exact Ck.mk rfl) only [e, VC, T, Nat.reduceMul, Nat.reduceAdd, Nat.reduceSub, Nat.reduceLT, Nat.reduceEqDiff, Nat.reduceLeDiff, Nat.reduceBEq, reduceCtorEq, Int.reduceToNat, ↓reduceIte, rfP, rvP, rhP, frP, curB, bkd, rsP, tiP]) <;> (try clear e))
    | (refine pick_go (fun e f => ?_) (fun e f => ?_) <;> (try simp only [BB] at f) <;> (try simp only [numOk, verOk] at f) <;> (try simp (maxSteps := 1000000) (disch := first | omega | (simp only [LN, numOk, verOk, rfP, rvP, rhP, frP, curB, bkd, rsP, tiP] <;> omega) | exact Ck.mk rfl) only [e, VC, T, Nat.reduceMul, Nat.reduceAdd, Nat.reduceSub, Nat.reduceLT, Nat.reduceEqDiff, Nat.reduceLeDiff, Nat.reduceBEq, reduceCtorEq, Int.reduceToNat, ↓reduceIte, rfP, rvP, rhP, frP, curB, bkd, rsP, tiP]) <;> (try clear e))
    | ((first | (refine call_v (l13Case code hb) rfl ?_; rintro _ ⟨u, i, rfl, hu, hi⟩; refine ⟨⟨rfl⟩, ?_⟩)); (try simp (maxSteps := 1000000) (disch := first | omega | (simp only [LN, numOk, verOk, rfP, rvP, rhP, frP, curB, bkd, rsP, tiP] <;> omega) | exact Ck.mk rfl) only [VC, T, Nat.reduceMul, Nat.reduceAdd, Nat.reduceSub, Nat.reduceLT, Nat.reduceEqDiff, Nat.reduceLeDiff, Nat.reduceBEq, reduceCtorEq, Int.reduceToNat, ↓reduceIte, rfP, rvP, rhP, frP, curB, bkd, rsP, tiP])))
  exact ⟨_, _, rfl, hu, hi⟩
def plI (l : List (Int × Int)) (i : Int) : PV := .tup [.far (l.map plP), .int .i64 i]
def isPlI (r : PV) : Prop := ∃ l i, r = plI l i ∧ l.length ≤ 10 ∧ i64 i
theorem DrawPlaceFor (code : List Int) (hb : Bytes code) : FnV Try.prog 45 [.far (code.map (.int .u8))] isPlI := by
  refine fn_v tok (n := 16) (rs := [.tmp 2, .tmp 3]) Try.func45 (by decide) rfl rfl rfl rfl ?_
  (try simp (maxSteps := 1000000) (disch := first | omega | (simp only [LN, numOk, verOk, rfP, rvP, rhP, frP, curB, bkd, rsP] <;> omega) | exact Ck.mk rfl) only [VC, T, Nat.reduceMul, Nat.reduceAdd, Nat.reduceSub, Nat.reduceLT, Nat.reduceEqDiff, Nat.reduceLeDiff, Nat.reduceBEq, reduceCtorEq, Int.reduceToNat, ↓reduceIte, rfP, rvP, rhP, frP, curB, bkd, rsP])
  repeat' (first
    | (refine br_go (fun e f => ?_) (fun e f => ?_) <;> (try simp only [BB] at f) <;> (try simp only [numOk, verOk] at f) <;> (try simp (maxSteps := 1000000) (disch := first | omega | (simp only [LN, numOk, verOk, rfP, rvP, rhP, frP, curB, bkd, rsP] <;> omega) | exact Ck.mk rfl) only [e, VC, T, Nat.reduceMul, Nat.reduceAdd, Nat.reduceSub, Nat.reduceLT, Nat.reduceEqDiff, Nat.reduceLeDiff, Nat.reduceBEq, reduceCtorEq, Int.reduceToNat, ↓reduceIte, rfP, rvP, rhP, frP, curB, bkd, rsP]) <;> (try clear e))
    | (refine pick_go (fun e f => ?_) (fun e f => ?_) <;> (try simp only [BB] at f) <;> (try simp only [numOk, verOk] at f) <;> (try simp (maxSteps := 1000000) (disch := first | omega | (simp only [LN, numOk, verOk, rfP, rvP, rhP, frP, curB, bkd, rsP] <;> omega) | exact Ck.mk rfl) only [e, VC, T, Nat.reduceMul, Nat.reduceAdd, Nat.reduceSub, Nat.reduceLT, Nat.reduceEqDiff, Nat.reduceLeDiff, Nat.reduceBEq, reduceCtorEq, Int.reduceToNat, ↓reduceIte, rfP, rvP, rhP, frP, curB, bkd, rsP]) <;> (try clear e))
    | ((first | (refine call_h [] [] (l01New code hb) (by decide) rfl rfl ?_; rintro _ _ ⟨rfl, h, rfl, hc⟩) | (refine call_h [448] [] (l01Below code hb _ (by omega) _ _ (by assumption)) (by decide) rfl rfl ?_; rintro _ _ ⟨⟨x, rfl, hx1, hx2⟩, i', h', rfl, hc'⟩) | (refine call_h [448] [] (l11Offsets code hb _ _ (by assumption)) (by decide) rfl rfl ?_; rintro _ _ ⟨⟨os, rfl, ho⟩, i', h', rfl, hc'⟩) | refine call_x (spec_PlacesOf2 _ _ (by omega) (by have := ho.1; omega)) rfl ⟨rfl⟩ ?_ | (refine call_hd [448] [960] (l01PickInt code hb [0, 1, 2, 3, 5, 8, 100, -1] (by simp) (by simp) _ _ (by assumption)) (by decide) ?_ rfl ?_; (focus (first | rfl | (simp (maxSteps := 1000000) (disch := first | omega | (simp only [LN, numOk, verOk, rfP, rvP, rhP, frP, curB, bkd, rsP] <;> omega) | exact Ck.mk rfl) only [VC, T, Nat.reduceMul, Nat.reduceAdd, Nat.reduceSub, Nat.reduceLT, Nat.reduceEqDiff, Nat.reduceLeDiff, Nat.reduceBEq, reduceCtorEq, Int.reduceToNat, ↓reduceIte, rfP, rvP, rhP, frP, curB, bkd, rsP]; done))); rintro _ _ ⟨⟨y, rfl, hy⟩, i', h', rfl, hc'⟩)); (try simp (maxSteps := 1000000) (disch := first | omega | (simp only [LN, numOk, verOk, rfP, rvP, rhP, frP, curB, bkd, rsP] <;> omega) | exact Ck.mk rfl) only [VC, T, Nat.reduceMul, Nat.reduceAdd, Nat.reduceSub, Nat.reduceLT, Nat.reduceEqDiff, Nat.reduceLeDiff, Nat.reduceBEq, reduceCtorEq, Int.reduceToNat, ↓reduceIte, rfP, rvP, rhP, frP, curB, bkd, rsP])))
  refine ⟨_, _, rfl, ?_, ?_⟩
  · have := placesOf_le (fun a b => (a, b)) (1 + x) os
    have := ho.1
    unfold placesP; omega
  · simp only [Mem, List.mem_cons, List.not_mem_nil, or_false] at hy
    unfold i64; omega
def Int10k (x : List Int) : Prop := x.length = 12 ∧ ∀ o ∈ x, 0 ≤ o ∧ o < 10000
theorem DrawPlaces (code : List Int) (hb : Bytes code) : FnV Try.prog 15 [.far (code.map (.int .u8))] (isInts Int10k) := by
  refine fn_v tok (n := 19) (rs := [.tmp 2]) Try.func15 (by decide) rfl rfl rfl rfl ?_
  (try simp (maxSteps := 1000000) (disch := first | omega | (simp only [LN, numOk, verOk, rfP, rvP, rhP, frP, curB, bkd, rsP] <;> omega) | exact Ck.mk rfl) only [VC, T, Nat.reduceMul, Nat.reduceAdd, Nat.reduceSub, Nat.reduceLT, Nat.reduceEqDiff, Nat.reduceLeDiff, Nat.reduceBEq, reduceCtorEq, Int.reduceToNat, ↓reduceIte, rfP, rvP, rhP, frP, curB, bkd, rsP])
  repeat' (first
    | (refine br_go (fun e f => ?_) (fun e f => ?_) <;> (try simp only [BB] at f) <;> (try simp only [numOk, verOk] at f) <;> (try simp (maxSteps := 1000000) (disch := first | omega | (simp only [LN, numOk, verOk, rfP, rvP, rhP, frP, curB, bkd, rsP] <;> omega) | exact Ck.mk rfl) only [e, VC, T, Nat.reduceMul, Nat.reduceAdd, Nat.reduceSub, Nat.reduceLT, Nat.reduceEqDiff, Nat.reduceLeDiff, Nat.reduceBEq, reduceCtorEq, Int.reduceToNat, ↓reduceIte, rfP, rvP, rhP, frP, curB, bkd, rsP]) <;> (try clear e))
    | (refine pick_go (fun e f => ?_) (fun e f => ?_) <;> (try simp only [BB] at f) <;> (try simp only [numOk, verOk] at f) <;> (try simp (maxSteps := 1000000) (disch := first | omega | (simp only [LN, numOk, verOk, rfP, rvP, rhP, frP, curB, bkd, rsP] <;> omega) | exact Ck.mk rfl) only [e, VC, T, Nat.reduceMul, Nat.reduceAdd, Nat.reduceSub, Nat.reduceLT, Nat.reduceEqDiff, Nat.reduceLeDiff, Nat.reduceBEq, reduceCtorEq, Int.reduceToNat, ↓reduceIte, rfP, rvP, rhP, frP, curB, bkd, rsP]) <;> (try clear e))
    | ((first | (refine call_h [] [] (l01New code hb) (by decide) rfl rfl ?_; rintro _ _ ⟨rfl, h, rfl, hc⟩)); (try simp (maxSteps := 1000000) (disch := first | omega | (simp only [LN, numOk, verOk, rfP, rvP, rhP, frP, curB, bkd, rsP] <;> omega) | exact Ck.mk rfl) only [VC, T, Nat.reduceMul, Nat.reduceAdd, Nat.reduceSub, Nat.reduceLT, Nat.reduceEqDiff, Nat.reduceLeDiff, Nat.reduceBEq, reduceCtorEq, Int.reduceToNat, ↓reduceIte, rfP, rvP, rhP, frP, curB, bkd, rsP])))
  refine lp_go (fun x : List Int × Int × Int => ⟨19, [(3, .ref 512 0), (4, .row 576 x.1.length), (5, .int .i64 x.1.length)], [(576, .row ⟨1, 0⟩ (x.1.map (.int .i64))), (512, curB code x.2.1 x.2.2)]⟩) (fun x => (x.1.length ≤ 12 ∧ ∀ o ∈ x.1, 0 ≤ o ∧ o < 10000) ∧ CurOk code x.2.1 x.2.2) (fun x => 12 - x.1.length) ([], 0, h) ?_ ⟨⟨Nat.zero_le _, fun _ h => absurd h (by simp)⟩, hc⟩ ?_
  · (simp (disch := first | omega | (simp only [LN, numOk, verOk, curB] <;> omega) | exact Ck.mk rfl) only [SB, EQ, Nat.reduceMul, Nat.reduceAdd, Nat.reduceSub, Nat.reduceLT, Nat.reduceEqDiff, Nat.reduceLeDiff, Nat.reduceBEq, reduceCtorEq, Int.reduceToNat, ↓reduceIte, curB]; try omega)
  · rintro ⟨os, i, h⟩ ⟨⟨h1, h2⟩, hc⟩ N hN
    simp only at h1 h2 hc
    (try simp (maxSteps := 1000000) (disch := first | omega | (simp only [LN, numOk, verOk, rfP, rvP, rhP, frP, curB, bkd, rsP] <;> omega) | exact Ck.mk rfl) only [VC, T, Nat.reduceMul, Nat.reduceAdd, Nat.reduceSub, Nat.reduceLT, Nat.reduceEqDiff, Nat.reduceLeDiff, Nat.reduceBEq, reduceCtorEq, Int.reduceToNat, ↓reduceIte, rfP, rvP, rhP, frP, curB, bkd, rsP])
    repeat' (first
      | (refine br_go (fun e f => ?_) (fun e f => ?_) <;> (try simp only [BB] at f) <;> (try simp only [numOk, verOk] at f) <;> (try simp (maxSteps := 1000000) (disch := first | omega | (simp only [LN, numOk, verOk, rfP, rvP, rhP, frP, curB, bkd, rsP] <;> omega) | exact Ck.mk rfl) only [e, VC, T, Nat.reduceMul, Nat.reduceAdd, Nat.reduceSub, Nat.reduceLT, Nat.reduceEqDiff, Nat.reduceLeDiff, Nat.reduceBEq, reduceCtorEq, Int.reduceToNat, ↓reduceIte, rfP, rvP, rhP, frP, curB, bkd, rsP]) <;> (try clear e))
      | (refine pick_go (fun e f => ?_) (fun e f => ?_) <;> (try simp only [BB] at f) <;> (try simp only [numOk, verOk] at f) <;> (try simp (maxSteps := 1000000) (disch := first | omega | (simp only [LN, numOk, verOk, rfP, rvP, rhP, frP, curB, bkd, rsP] <;> omega) | exact Ck.mk rfl) only [e, VC, T, Nat.reduceMul, Nat.reduceAdd, Nat.reduceSub, Nat.reduceLT, Nat.reduceEqDiff, Nat.reduceLeDiff, Nat.reduceBEq, reduceCtorEq, Int.reduceToNat, ↓reduceIte, rfP, rvP, rhP, frP, curB, bkd, rsP]) <;> (try clear e))
      | ((first | (refine call_h [512] [] (l01Below code hb _ (by omega) _ _ (by assumption)) (by decide) rfl rfl ?_; rintro _ _ ⟨⟨x, rfl, hx1, hx2⟩, i', h', rfl, hc'⟩)); (try simp (maxSteps := 1000000) (disch := first | omega | (simp only [LN, numOk, verOk, rfP, rvP, rhP, frP, curB, bkd, rsP] <;> omega) | exact Ck.mk rfl) only [VC, T, Nat.reduceMul, Nat.reduceAdd, Nat.reduceSub, Nat.reduceLT, Nat.reduceEqDiff, Nat.reduceLeDiff, Nat.reduceBEq, reduceCtorEq, Int.reduceToNat, ↓reduceIte, rfP, rvP, rhP, frP, curB, bkd, rsP])))
    · refine hN (os ++ [x], _, _) _ ⟨⟨by simp only [List.length_append, List.length_singleton]; omega, fun z hz => ?_⟩, by assumption⟩ (by simp only [List.length_append, List.length_singleton]; omega) ?_
      · rcases List.mem_append.1 hz with hz | hz
        · exact h2 z hz
        · rw [List.mem_singleton.1 hz]; exact hx2 (by decide)
      · (simp (disch := first | omega | (simp only [LN, numOk, verOk, curB] <;> omega) | exact Ck.mk rfl) only [SB, EQ, Nat.reduceMul, Nat.reduceAdd, Nat.reduceSub, Nat.reduceLT, Nat.reduceEqDiff, Nat.reduceLeDiff, Nat.reduceBEq, reduceCtorEq, Int.reduceToNat, ↓reduceIte, curB]; try omega)
    · exact ⟨_, rfl, by omega, h2⟩
end Go.Pv

/- What functions of the program and of the reference do, in plain values. -/
namespace Go.Pv
open Go.Proofs Go.Mth
set_option linter.unusedSimpArgs false
set_option linter.unusedVariables false
set_option maxHeartbeats 4000000

/-! ### laws of sealed files -/
theorem u8_wf {n : Int} (h : (Lit.int .u8 n).wf = true) : 0 ≤ n ∧ n ≤ 255 := by
  simp only [Lit.wf, Bool.and_eq_true, decide_eq_true_eq] at h
  exact h
def Code (code : List Int) : Prop := code.length ≤ 9223372036854775807 ∧ ∀ a ∈ code, (Lit.int .u8 a).wf = true
theorem code_bytes {code : List Int} (h : Code code) (hl : (code.length : Int) ≤ 1048576) : Bytes code := ⟨by omega, fun x hx => u8_wf (h.2 x hx)⟩
theorem laws_big (code : List Int) (h : code.length ≤ 9223372036854775807) : Fn Try.prog 10 [.far (code.map (.int .u8))] [] (.bool (decide (1048576 < (code.length : Int)))) [] := by
  refine fn_x tok (n := 6) (rs := [.tmp 2]) Try.func10 (by decide) rfl rfl rfl rfl ?_
  (try simp (maxSteps := 1000000) (disch := first | omega | (simp only [LN, numOk, verOk, rsP, caseP, beq_self_eq_true, tiP, hiP] <;> omega) | exact Ck.mk rfl) only [VC, T, Nat.reduceMul, Nat.reduceAdd, Nat.reduceSub, Nat.reduceLT, Nat.reduceEqDiff, Nat.reduceLeDiff, Nat.reduceBEq, reduceCtorEq, Int.reduceToNat, ↓reduceIte, rsP, caseP, beq_self_eq_true, tiP, hiP])
  repeat' (first
    | (refine br_go (fun e f => ?_) (fun e f => ?_) <;> (try simp only [BB] at f) <;> (try simp only [numOk, verOk] at f) <;> (try simp (maxSteps := 1000000) (disch := first | omega | (simp only [LN, numOk, verOk, rsP, caseP, beq_self_eq_true, tiP, hiP] <;> omega) | exact Ck.mk rfl) only [e, VC, T, Nat.reduceMul, Nat.reduceAdd, Nat.reduceSub, Nat.reduceLT, Nat.reduceEqDiff, Nat.reduceLeDiff, Nat.reduceBEq, reduceCtorEq, Int.reduceToNat, ↓reduceIte, rsP, caseP, beq_self_eq_true, tiP, hiP]) <;> (try clear e))
    | (refine pick_go (fun e f => ?_) (fun e f => ?_) <;> (try simp only [BB] at f) <;> (try simp only [numOk, verOk] at f) <;> (try simp (maxSteps := 1000000) (disch := first | omega | (simp only [LN, numOk, verOk, rsP, caseP, beq_self_eq_true, tiP, hiP] <;> omega) | exact Ck.mk rfl) only [e, VC, T, Nat.reduceMul, Nat.reduceAdd, Nat.reduceSub, Nat.reduceLT, Nat.reduceEqDiff, Nat.reduceLeDiff, Nat.reduceBEq, reduceCtorEq, Int.reduceToNat, ↓reduceIte, rsP, caseP, beq_self_eq_true, tiP, hiP]) <;> (try clear e)))
theorem seal_back {v s b l : Int} {rs : List ByteArray} (h : sealOk v s b l rs) : rSealed (sealT v s b l rs) = ((v, s, b, l), rs, true) := by
  unfold rSealed
  rw [if_pos (sealed_seal v s b l rs h), scan_seal v s b l rs h]
theorem rSealed_b (b : ByteArray) (h : (rSealed b).2.2 = true) : sealT (rSealed b).1.1 (rSealed b).1.2.1 (rSealed b).1.2.2.1 (rSealed b).1.2.2.2 (rSealed b).2.1 = b := by
  unfold rSealed at h ⊢
  split at h
  · rename_i hc
    rw [if_pos hc]
    exact (sealed_ok b hc).2.1
  · cases h
theorem other_seal {v s b l : Int} {rs : List ByteArray} (h : sealOk v s b l rs) (u x' : ByteArray) (hu : u = (frGo v b (headT v s b l) [] rs).1 ++ (endMark v (b + rs.length) ++ x')) (hn : sealT v s b l rs ≠ u) : rSealed u = ((0, 0, 0, 0), [], false) := by
  have hs := scan_marked v s b l rs _ h.1 h.2.2.1 h.2.2.2 x' rfl
  rw [← hu] at hs
  unfold rSealed
  rw [if_neg]
  unfold sealedB scSeal
  rw [hs]
  simpa using hn
theorem seal_more {v s b l : Int} {rs : List ByteArray} (h : sealOk v s b l rs) (y : ByteArray) (hy : 0 < y.size) : rSealed (sealT v s b l rs ++ y) = ((0, 0, 0, 0), [], false) := by
  obtain ⟨x, h1, h2, h3⟩ := seal_ok v s b l rs h
  refine other_seal h _ (x ++ y) (by rw [h1]; simp only [ByteArray.append_assoc]) fun e => ?_
  have := congrArg ByteArray.size e
  rw [ByteArray.size_append] at this
  omega
theorem seal_less {v s b l : Int} {rs : List ByteArray} (h : sealOk v s b l rs) : rSealed ((sealT v s b l rs).extract 0 ((sealT v s b l rs).size - 1)) = ((0, 0, 0, 0), [], false) := by
  obtain ⟨x, h1, h2, h3⟩ := seal_ok v s b l rs h
  refine other_seal h _ (x.extract 0 (x.size - 1)) ?_ fun e => ?_
  · apply bytesOf_inj
    rw [h1, bytesOf_extract, List.drop_zero]
    simp only [bytesOf_append, ByteArray.size_append, bytesOf_extract, List.drop_zero]
    rw [← List.append_assoc, ← List.append_assoc, List.take_append, List.take_of_length_le (by simp only [List.length_append, bytesOf_length]; omega)]
    congr 2
    simp only [List.length_append, bytesOf_length]; omega
  · have := congrArg ByteArray.size e
    rw [ByteArray.size_extract] at this
    have := seal_size v s b l rs h
    omega
theorem rSealed_nil : rSealed ⟨#[]⟩ = ((0, 0, 0, 0), [], false) := by decide +kernel
theorem seal_50 : (sealT 1 1 0 0 []).size = 50 := by decide +kernel
set_option maxRecDepth 20000 in
theorem law_FnSealed (code : List Int) (hc : code.length ≤ 9223372036854775807 ∧ ∀ a ∈ code, (Lit.int .u8 a).wf = true) : Fn Try.prog 8 [.far (code.map (.int .u8))] [] (.bool true) [] := by
  have hE := impl_SealedOk ⟨#[]⟩ (by decide)
  rw [rSealed_nil] at hE
  have hS := impl_SealedSize 1 1 0 0 [] (by decide) (by simp)
  rw [seal_50] at hS
  refine fn_x tok (n := 138) (rs := [.tmp 2]) Try.func8 (by decide) rfl rfl rfl rfl ?_
  (try simp (maxSteps := 1000000) (disch := first | omega | (simp only [LN, numOk, verOk, rsP, caseP, beq_self_eq_true, tiP, hiP] <;> omega) | exact Ck.mk rfl) only [VC, T, Nat.reduceMul, Nat.reduceAdd, Nat.reduceSub, Nat.reduceLT, Nat.reduceEqDiff, Nat.reduceLeDiff, Nat.reduceBEq, reduceCtorEq, Int.reduceToNat, ↓reduceIte, rsP, caseP, beq_self_eq_true, tiP, hiP])
  repeat' (first
    | (refine br_go (fun e f => ?_) (fun e f => ?_) <;> (try simp only [BB] at f) <;> (try simp only [numOk, verOk] at f) <;> (try simp (maxSteps := 1000000) (disch := first | omega | (simp only [LN, numOk, verOk, rsP, caseP, beq_self_eq_true, tiP, hiP] <;> omega) | exact Ck.mk rfl) only [e, VC, T, Nat.reduceMul, Nat.reduceAdd, Nat.reduceSub, Nat.reduceLT, Nat.reduceEqDiff, Nat.reduceLeDiff, Nat.reduceBEq, reduceCtorEq, Int.reduceToNat, ↓reduceIte, rsP, caseP, beq_self_eq_true, tiP, hiP]) <;> (try clear e))
    | (refine pick_go (fun e f => ?_) (fun e f => ?_) <;> (try simp only [BB] at f) <;> (try simp only [numOk, verOk] at f) <;> (try simp (maxSteps := 1000000) (disch := first | omega | (simp only [LN, numOk, verOk, rsP, caseP, beq_self_eq_true, tiP, hiP] <;> omega) | exact Ck.mk rfl) only [e, VC, T, Nat.reduceMul, Nat.reduceAdd, Nat.reduceSub, Nat.reduceLT, Nat.reduceEqDiff, Nat.reduceLeDiff, Nat.reduceBEq, reduceCtorEq, Int.reduceToNat, ↓reduceIte, rsP, caseP, beq_self_eq_true, tiP, hiP]) <;> (try clear e))
    | ((first | refine call_x (laws_big _ hc.1) rfl ⟨rfl⟩ ?_); (try simp (maxSteps := 1000000) (disch := first | omega | (simp only [LN, numOk, verOk, rsP, caseP, beq_self_eq_true, tiP, hiP] <;> omega) | exact Ck.mk rfl) only [VC, T, Nat.reduceMul, Nat.reduceAdd, Nat.reduceSub, Nat.reduceLT, Nat.reduceEqDiff, Nat.reduceLeDiff, Nat.reduceBEq, reduceCtorEq, Int.reduceToNat, ↓reduceIte, rsP, caseP, beq_self_eq_true, tiP, hiP])))
  refine call_v (DrawReadSealed code (code_bytes hc f)) rfl ?_
  rintro _ ⟨b, rfl, hb⟩
  refine ⟨⟨rfl⟩, ?_⟩
  unfold SzIn at hb
  have hR := impl_ReadSealed b (by omega)
  have hR2 := spec_ReadSealed b (by omega)
  have hO := impl_SealedOk b (by omega)
  have hF := rSealed_f b
  have hB := rSealed_b b
  generalize rSealed b = t at *
  obtain ⟨⟨v, s, bb, l⟩, rs, ok⟩ := t
  simp only at hB hF hO
  have hT := impl_SealText v s bb l rs (by omega)
  cases ok with
  | true =>
    have hB := hB rfl
    (try simp (maxSteps := 1000000) (disch := first | omega | (simp only [LN, numOk, verOk, rsP, caseP, beq_self_eq_true, tiP, hiP, hB] <;> omega) | exact Ck.mk rfl) only [VC, T, Nat.reduceMul, Nat.reduceAdd, Nat.reduceSub, Nat.reduceLT, Nat.reduceEqDiff, Nat.reduceLeDiff, Nat.reduceBEq, reduceCtorEq, Int.reduceToNat, ↓reduceIte, rsP, caseP, beq_self_eq_true, tiP, hiP, hB])
    repeat' (first
      | (refine br_go (fun e f => ?_) (fun e f => ?_) <;> (try simp only [BB] at f) <;> (try simp only [numOk, verOk] at f) <;> (try simp (maxSteps := 1000000) (disch := first | omega | (simp only [LN, numOk, verOk, rsP, caseP, beq_self_eq_true, tiP, hiP, hB] <;> omega) | exact Ck.mk rfl) only [e, VC, T, Nat.reduceMul, Nat.reduceAdd, Nat.reduceSub, Nat.reduceLT, Nat.reduceEqDiff, Nat.reduceLeDiff, Nat.reduceBEq, reduceCtorEq, Int.reduceToNat, ↓reduceIte, rsP, caseP, beq_self_eq_true, tiP, hiP, hB]) <;> (try clear e))
      | (refine pick_go (fun e f => ?_) (fun e f => ?_) <;> (try simp only [BB] at f) <;> (try simp only [numOk, verOk] at f) <;> (try simp (maxSteps := 1000000) (disch := first | omega | (simp only [LN, numOk, verOk, rsP, caseP, beq_self_eq_true, tiP, hiP, hB] <;> omega) | exact Ck.mk rfl) only [e, VC, T, Nat.reduceMul, Nat.reduceAdd, Nat.reduceSub, Nat.reduceLT, Nat.reduceEqDiff, Nat.reduceLeDiff, Nat.reduceBEq, reduceCtorEq, Int.reduceToNat, ↓reduceIte, rsP, caseP, beq_self_eq_true, tiP, hiP, hB]) <;> (try clear e))
      | ((first | refine dr_go mixed (id := 6) [([], [6], []), ([], [9], []), ([0, 1], [38, 39], []), ([0, 1, 2], [40], []), ([0, 1, 2, 3], [4, 41], []), ([0, 1, 2, 3], [7, 41], []), ([0, 1, 2, 3, 4, 5], [41, 42, 43], []), ([0, 1, 2, 3, 4, 5, 6], [41, 44], []), ([0, 1, 2, 3, 4, 5, 6, 7], [45], []), ([0, 1, 2, 3, 4, 5, 6, 7, 8], [5, 46], []), ([0, 1, 2, 3, 4, 5, 6, 7, 8], [8, 46], []), ([0, 1, 2, 3, 4, 5, 6, 7, 8, 9, 10], [46, 47, 48], []), ([0, 1, 2, 3, 4, 5, 6, 7, 8, 9, 10, 11], [46, 49], []), ([0, 1, 2, 3, 4, 5, 6, 7, 8, 9, 10, 11, 12], [46, 50], []), ([0, 1, 2, 3, 4, 5, 6, 7, 8, 9, 10, 11, 12, 13], [51], []), ([0, 1, 2, 3, 4, 5, 6, 7, 8, 9, 10, 11, 12, 13, 14], [3, 52], []), ([0, 1, 2, 3, 4, 5, 6, 7, 8, 9, 10, 11, 12, 13, 14, 15], [52, 53], []), ([0, 1, 2, 3, 4, 5, 6, 7, 8, 9, 10, 11, 12, 13, 14], [6, 52], []), ([0, 1, 2, 3, 4, 5, 6, 7, 8, 9, 10, 11, 12, 13, 14, 15, 16, 17], [52, 54, 55], []), ([0, 1, 2, 3, 4, 5, 6, 7, 8, 9, 10, 11, 12, 13, 14, 15, 16, 17, 18], [52, 56], [])] rfl rfl rfl ?_ | refine call_x (hR) rfl ⟨rfl⟩ ?_ | refine call_x (hR2) rfl ⟨rfl⟩ ?_ | refine call_x (hT) rfl ⟨rfl⟩ ?_ | refine call_x (hO) rfl ⟨rfl⟩ ?_ | refine call_x (laws_sameStr _ _ (by omega)) rfl ⟨rfl⟩ ?_); (try simp (maxSteps := 1000000) (disch := first | omega | (simp only [LN, numOk, verOk, rsP, caseP, beq_self_eq_true, tiP, hiP, hB] <;> omega) | exact Ck.mk rfl) only [VC, T, Nat.reduceMul, Nat.reduceAdd, Nat.reduceSub, Nat.reduceLT, Nat.reduceEqDiff, Nat.reduceLeDiff, Nat.reduceBEq, reduceCtorEq, Int.reduceToNat, ↓reduceIte, rsP, caseP, beq_self_eq_true, tiP, hiP, hB])))
    rotate_left
    · simp at f
    refine call_v (DrawSealText code (code_bytes hc (by assumption))) rfl ?_
    rintro _ ⟨v2, s2, b2, l2, rs2, rfl, h1, h2, h3⟩
    refine ⟨⟨rfl⟩, ?_⟩
    have hU := impl_SealText v2 s2 b2 l2 rs2 (by omega)
    have hU2 := spec_SealText v2 s2 b2 l2 rs2 (by omega) (fun r hr => by have := h3 r hr; omega)
    have hZ := impl_SealedSize v2 s2 b2 l2 rs2 (by omega) (fun r hr => by have := h3 r hr; omega)
    have hle := sealT_le v2 s2 b2 l2 rs2
    by_cases hk : sealOk v2 s2 b2 l2 rs2
    · have hge := seal_size _ _ _ _ _ hk
      have k1 := impl_ReadSealed (sealT v2 s2 b2 l2 rs2) (by omega)
      have k2 := impl_ReadSealed (sealT v2 s2 b2 l2 rs2 ++ ⟨#[120]⟩) (by rw [ByteArray.size_append]; exact Nat.le_trans (Nat.add_le_add_right hle _) (by decide))
      have k3 := impl_ReadSealed ((sealT v2 s2 b2 l2 rs2).extract 0 ((sealT v2 s2 b2 l2 rs2).size - 1)) (by rw [ByteArray.size_extract]; omega)
      rw [seal_back hk] at k1
      rw [seal_more hk _ (by decide)] at k2
      rw [seal_less hk, show (sealT v2 s2 b2 l2 rs2).size - 1 = (((sealT v2 s2 b2 l2 rs2).size : Int) - 1).toNat by omega] at k3
      generalize sealT v2 s2 b2 l2 rs2 = t at *
      (try simp (maxSteps := 1000000) (disch := first | omega | (simp only [LN, numOk, verOk, rsP, caseP, beq_self_eq_true, tiP, hiP] <;> omega) | exact Ck.mk rfl) only [VC, T, Nat.reduceMul, Nat.reduceAdd, Nat.reduceSub, Nat.reduceLT, Nat.reduceEqDiff, Nat.reduceLeDiff, Nat.reduceBEq, reduceCtorEq, Int.reduceToNat, ↓reduceIte, rsP, caseP, beq_self_eq_true, tiP, hiP])
      repeat' (first
        | (refine br_go (fun e f => ?_) (fun e f => ?_) <;> (try simp only [BB] at f) <;> (try simp only [numOk, verOk] at f) <;> (try simp (maxSteps := 1000000) (disch := first | omega | (simp only [LN, numOk, verOk, rsP, caseP, beq_self_eq_true, tiP, hiP] <;> omega) | exact Ck.mk rfl) only [e, VC, T, Nat.reduceMul, Nat.reduceAdd, Nat.reduceSub, Nat.reduceLT, Nat.reduceEqDiff, Nat.reduceLeDiff, Nat.reduceBEq, reduceCtorEq, Int.reduceToNat, ↓reduceIte, rsP, caseP, beq_self_eq_true, tiP, hiP]) <;> (try clear e))
        | (refine pick_go (fun e f => ?_) (fun e f => ?_) <;> (try simp only [BB] at f) <;> (try simp only [numOk, verOk] at f) <;> (try simp (maxSteps := 1000000) (disch := first | omega | (simp only [LN, numOk, verOk, rsP, caseP, beq_self_eq_true, tiP, hiP] <;> omega) | exact Ck.mk rfl) only [e, VC, T, Nat.reduceMul, Nat.reduceAdd, Nat.reduceSub, Nat.reduceLT, Nat.reduceEqDiff, Nat.reduceLeDiff, Nat.reduceBEq, reduceCtorEq, Int.reduceToNat, ↓reduceIte, rsP, caseP, beq_self_eq_true, tiP, hiP]) <;> (try clear e))
        | ((first | refine dr_go mixed (id := 6) [([], [6], []), ([], [9], []), ([0, 1], [38, 39], []), ([0, 1, 2], [40], []), ([0, 1, 2, 3], [4, 41], []), ([0, 1, 2, 3], [7, 41], []), ([0, 1, 2, 3, 4, 5], [41, 42, 43], []), ([0, 1, 2, 3, 4, 5, 6], [41, 44], []), ([0, 1, 2, 3, 4, 5, 6, 7], [45], []), ([0, 1, 2, 3, 4, 5, 6, 7, 8], [5, 46], []), ([0, 1, 2, 3, 4, 5, 6, 7, 8], [8, 46], []), ([0, 1, 2, 3, 4, 5, 6, 7, 8, 9, 10], [46, 47, 48], []), ([0, 1, 2, 3, 4, 5, 6, 7, 8, 9, 10, 11], [46, 49], []), ([0, 1, 2, 3, 4, 5, 6, 7, 8, 9, 10, 11, 12], [46, 50], []), ([0, 1, 2, 3, 4, 5, 6, 7, 8, 9, 10, 11, 12, 13], [51], []), ([0, 1, 2, 3, 4, 5, 6, 7, 8, 9, 10, 11, 12, 13, 14], [3, 52], []), ([0, 1, 2, 3, 4, 5, 6, 7, 8, 9, 10, 11, 12, 13, 14, 15], [52, 53], []), ([0, 1, 2, 3, 4, 5, 6, 7, 8, 9, 10, 11, 12, 13, 14], [6, 52], []), ([0, 1, 2, 3, 4, 5, 6, 7, 8, 9, 10, 11, 12, 13, 14, 15, 16, 17], [52, 54, 55], []), ([0, 1, 2, 3, 4, 5, 6, 7, 8, 9, 10, 11, 12, 13, 14, 15, 16, 17, 18], [52, 56], [])] rfl rfl rfl ?_ | refine call_x (hU) rfl ⟨rfl⟩ ?_ | refine call_x (hU2) rfl ⟨rfl⟩ ?_ | refine call_x (k1) rfl ⟨rfl⟩ ?_ | refine call_x (k2) rfl ⟨rfl⟩ ?_ | refine call_x (k3) rfl ⟨rfl⟩ ?_ | refine call_x (hZ) rfl ⟨rfl⟩ ?_ | refine call_x (laws_sameStr _ _ (by omega)) rfl ⟨rfl⟩ ?_); (try simp (maxSteps := 1000000) (disch := first | omega | (simp only [LN, numOk, verOk, rsP, caseP, beq_self_eq_true, tiP, hiP] <;> omega) | exact Ck.mk rfl) only [VC, T, Nat.reduceMul, Nat.reduceAdd, Nat.reduceSub, Nat.reduceLT, Nat.reduceEqDiff, Nat.reduceLeDiff, Nat.reduceBEq, reduceCtorEq, Int.reduceToNat, ↓reduceIte, rsP, caseP, beq_self_eq_true, tiP, hiP])))
      · omega
      · simp
      · simp at f
    · have hz := (seal_iff _ _ _ _ _).2 hk
      generalize sealT v2 s2 b2 l2 rs2 = t at *
      (try simp (maxSteps := 1000000) (disch := first | omega | (simp only [LN, numOk, verOk, rsP, caseP, beq_self_eq_true, tiP, hiP, hz] <;> omega) | exact Ck.mk rfl) only [VC, T, Nat.reduceMul, Nat.reduceAdd, Nat.reduceSub, Nat.reduceLT, Nat.reduceEqDiff, Nat.reduceLeDiff, Nat.reduceBEq, reduceCtorEq, Int.reduceToNat, ↓reduceIte, rsP, caseP, beq_self_eq_true, tiP, hiP, hz])
      repeat' (first
        | (refine br_go (fun e f => ?_) (fun e f => ?_) <;> (try simp only [BB] at f) <;> (try simp only [numOk, verOk] at f) <;> (try simp (maxSteps := 1000000) (disch := first | omega | (simp only [LN, numOk, verOk, rsP, caseP, beq_self_eq_true, tiP, hiP, hz] <;> omega) | exact Ck.mk rfl) only [e, VC, T, Nat.reduceMul, Nat.reduceAdd, Nat.reduceSub, Nat.reduceLT, Nat.reduceEqDiff, Nat.reduceLeDiff, Nat.reduceBEq, reduceCtorEq, Int.reduceToNat, ↓reduceIte, rsP, caseP, beq_self_eq_true, tiP, hiP, hz]) <;> (try clear e))
        | (refine pick_go (fun e f => ?_) (fun e f => ?_) <;> (try simp only [BB] at f) <;> (try simp only [numOk, verOk] at f) <;> (try simp (maxSteps := 1000000) (disch := first | omega | (simp only [LN, numOk, verOk, rsP, caseP, beq_self_eq_true, tiP, hiP, hz] <;> omega) | exact Ck.mk rfl) only [e, VC, T, Nat.reduceMul, Nat.reduceAdd, Nat.reduceSub, Nat.reduceLT, Nat.reduceEqDiff, Nat.reduceLeDiff, Nat.reduceBEq, reduceCtorEq, Int.reduceToNat, ↓reduceIte, rsP, caseP, beq_self_eq_true, tiP, hiP, hz]) <;> (try clear e))
        | ((first | refine dr_go mixed (id := 6) [([], [6], []), ([], [9], []), ([0, 1], [38, 39], []), ([0, 1, 2], [40], []), ([0, 1, 2, 3], [4, 41], []), ([0, 1, 2, 3], [7, 41], []), ([0, 1, 2, 3, 4, 5], [41, 42, 43], []), ([0, 1, 2, 3, 4, 5, 6], [41, 44], []), ([0, 1, 2, 3, 4, 5, 6, 7], [45], []), ([0, 1, 2, 3, 4, 5, 6, 7, 8], [5, 46], []), ([0, 1, 2, 3, 4, 5, 6, 7, 8], [8, 46], []), ([0, 1, 2, 3, 4, 5, 6, 7, 8, 9, 10], [46, 47, 48], []), ([0, 1, 2, 3, 4, 5, 6, 7, 8, 9, 10, 11], [46, 49], []), ([0, 1, 2, 3, 4, 5, 6, 7, 8, 9, 10, 11, 12], [46, 50], []), ([0, 1, 2, 3, 4, 5, 6, 7, 8, 9, 10, 11, 12, 13], [51], []), ([0, 1, 2, 3, 4, 5, 6, 7, 8, 9, 10, 11, 12, 13, 14], [3, 52], []), ([0, 1, 2, 3, 4, 5, 6, 7, 8, 9, 10, 11, 12, 13, 14, 15], [52, 53], []), ([0, 1, 2, 3, 4, 5, 6, 7, 8, 9, 10, 11, 12, 13, 14], [6, 52], []), ([0, 1, 2, 3, 4, 5, 6, 7, 8, 9, 10, 11, 12, 13, 14, 15, 16, 17], [52, 54, 55], []), ([0, 1, 2, 3, 4, 5, 6, 7, 8, 9, 10, 11, 12, 13, 14, 15, 16, 17, 18], [52, 56], [])] rfl rfl rfl ?_ | refine call_x (hU) rfl ⟨rfl⟩ ?_ | refine call_x (hU2) rfl ⟨rfl⟩ ?_ | refine call_x (hE) rfl ⟨rfl⟩ ?_ | refine call_x (hS) rfl ⟨rfl⟩ ?_); (try simp (maxSteps := 1000000) (disch := first | omega | (simp only [LN, numOk, verOk, rsP, caseP, beq_self_eq_true, tiP, hiP, hz] <;> omega) | exact Ck.mk rfl) only [VC, T, Nat.reduceMul, Nat.reduceAdd, Nat.reduceSub, Nat.reduceLT, Nat.reduceEqDiff, Nat.reduceLeDiff, Nat.reduceBEq, reduceCtorEq, Int.reduceToNat, ↓reduceIte, rsP, caseP, beq_self_eq_true, tiP, hiP, hz])))
      · rfl
      · exact absurd hz f
  | false =>
    (try simp (maxSteps := 1000000) (disch := first | omega | (simp only [LN, numOk, verOk, rsP, caseP, beq_self_eq_true, tiP, hiP] <;> omega) | exact Ck.mk rfl) only [VC, T, Nat.reduceMul, Nat.reduceAdd, Nat.reduceSub, Nat.reduceLT, Nat.reduceEqDiff, Nat.reduceLeDiff, Nat.reduceBEq, reduceCtorEq, Int.reduceToNat, ↓reduceIte, rsP, caseP, beq_self_eq_true, tiP, hiP])
    repeat' (first
      | (refine br_go (fun e f => ?_) (fun e f => ?_) <;> (try simp only [BB] at f) <;> (try simp only [numOk, verOk] at f) <;> (try simp (maxSteps := 1000000) (disch := first | omega | (simp only [LN, numOk, verOk, rsP, caseP, beq_self_eq_true, tiP, hiP] <;> omega) | exact Ck.mk rfl) only [e, VC, T, Nat.reduceMul, Nat.reduceAdd, Nat.reduceSub, Nat.reduceLT, Nat.reduceEqDiff, Nat.reduceLeDiff, Nat.reduceBEq, reduceCtorEq, Int.reduceToNat, ↓reduceIte, rsP, caseP, beq_self_eq_true, tiP, hiP]) <;> (try clear e))
      | (refine pick_go (fun e f => ?_) (fun e f => ?_) <;> (try simp only [BB] at f) <;> (try simp only [numOk, verOk] at f) <;> (try simp (maxSteps := 1000000) (disch := first | omega | (simp only [LN, numOk, verOk, rsP, caseP, beq_self_eq_true, tiP, hiP] <;> omega) | exact Ck.mk rfl) only [e, VC, T, Nat.reduceMul, Nat.reduceAdd, Nat.reduceSub, Nat.reduceLT, Nat.reduceEqDiff, Nat.reduceLeDiff, Nat.reduceBEq, reduceCtorEq, Int.reduceToNat, ↓reduceIte, rsP, caseP, beq_self_eq_true, tiP, hiP]) <;> (try clear e))
      | ((first | refine dr_go mixed (id := 6) [([], [6], []), ([], [9], []), ([0, 1], [38, 39], []), ([0, 1, 2], [40], []), ([0, 1, 2, 3], [4, 41], []), ([0, 1, 2, 3], [7, 41], []), ([0, 1, 2, 3, 4, 5], [41, 42, 43], []), ([0, 1, 2, 3, 4, 5, 6], [41, 44], []), ([0, 1, 2, 3, 4, 5, 6, 7], [45], []), ([0, 1, 2, 3, 4, 5, 6, 7, 8], [5, 46], []), ([0, 1, 2, 3, 4, 5, 6, 7, 8], [8, 46], []), ([0, 1, 2, 3, 4, 5, 6, 7, 8, 9, 10], [46, 47, 48], []), ([0, 1, 2, 3, 4, 5, 6, 7, 8, 9, 10, 11], [46, 49], []), ([0, 1, 2, 3, 4, 5, 6, 7, 8, 9, 10, 11, 12], [46, 50], []), ([0, 1, 2, 3, 4, 5, 6, 7, 8, 9, 10, 11, 12, 13], [51], []), ([0, 1, 2, 3, 4, 5, 6, 7, 8, 9, 10, 11, 12, 13, 14], [3, 52], []), ([0, 1, 2, 3, 4, 5, 6, 7, 8, 9, 10, 11, 12, 13, 14, 15], [52, 53], []), ([0, 1, 2, 3, 4, 5, 6, 7, 8, 9, 10, 11, 12, 13, 14], [6, 52], []), ([0, 1, 2, 3, 4, 5, 6, 7, 8, 9, 10, 11, 12, 13, 14, 15, 16, 17], [52, 54, 55], []), ([0, 1, 2, 3, 4, 5, 6, 7, 8, 9, 10, 11, 12, 13, 14, 15, 16, 17, 18], [52, 56], [])] rfl rfl rfl ?_ | refine call_x (hR) rfl ⟨rfl⟩ ?_ | refine call_x (hR2) rfl ⟨rfl⟩ ?_ | refine call_x (hT) rfl ⟨rfl⟩ ?_ | refine call_x (hO) rfl ⟨rfl⟩ ?_ | refine call_x (laws_sameStr _ _ (by omega)) rfl ⟨rfl⟩ ?_); (try simp (maxSteps := 1000000) (disch := first | omega | (simp only [LN, numOk, verOk, rsP, caseP, beq_self_eq_true, tiP, hiP] <;> omega) | exact Ck.mk rfl) only [VC, T, Nat.reduceMul, Nat.reduceAdd, Nat.reduceSub, Nat.reduceLT, Nat.reduceEqDiff, Nat.reduceLeDiff, Nat.reduceBEq, reduceCtorEq, Int.reduceToNat, ↓reduceIte, rsP, caseP, beq_self_eq_true, tiP, hiP])))
    rotate_left
    · simp at f
    refine call_v (DrawSealText code (code_bytes hc (by assumption))) rfl ?_
    rintro _ ⟨v2, s2, b2, l2, rs2, rfl, h1, h2, h3⟩
    refine ⟨⟨rfl⟩, ?_⟩
    have hU := impl_SealText v2 s2 b2 l2 rs2 (by omega)
    have hU2 := spec_SealText v2 s2 b2 l2 rs2 (by omega) (fun r hr => by have := h3 r hr; omega)
    have hZ := impl_SealedSize v2 s2 b2 l2 rs2 (by omega) (fun r hr => by have := h3 r hr; omega)
    have hle := sealT_le v2 s2 b2 l2 rs2
    by_cases hk : sealOk v2 s2 b2 l2 rs2
    · have hge := seal_size _ _ _ _ _ hk
      have k1 := impl_ReadSealed (sealT v2 s2 b2 l2 rs2) (by omega)
      have k2 := impl_ReadSealed (sealT v2 s2 b2 l2 rs2 ++ ⟨#[120]⟩) (by rw [ByteArray.size_append]; exact Nat.le_trans (Nat.add_le_add_right hle _) (by decide))
      have k3 := impl_ReadSealed ((sealT v2 s2 b2 l2 rs2).extract 0 ((sealT v2 s2 b2 l2 rs2).size - 1)) (by rw [ByteArray.size_extract]; omega)
      rw [seal_back hk] at k1
      rw [seal_more hk _ (by decide)] at k2
      rw [seal_less hk, show (sealT v2 s2 b2 l2 rs2).size - 1 = (((sealT v2 s2 b2 l2 rs2).size : Int) - 1).toNat by omega] at k3
      generalize sealT v2 s2 b2 l2 rs2 = t at *
      (try simp (maxSteps := 1000000) (disch := first | omega | (simp only [LN, numOk, verOk, rsP, caseP, beq_self_eq_true, tiP, hiP] <;> omega) | exact Ck.mk rfl) only [VC, T, Nat.reduceMul, Nat.reduceAdd, Nat.reduceSub, Nat.reduceLT, Nat.reduceEqDiff, Nat.reduceLeDiff, Nat.reduceBEq, reduceCtorEq, Int.reduceToNat, ↓reduceIte, rsP, caseP, beq_self_eq_true, tiP, hiP])
      repeat' (first
        | (refine br_go (fun e f => ?_) (fun e f => ?_) <;> (try simp only [BB] at f) <;> (try simp only [numOk, verOk] at f) <;> (try simp (maxSteps := 1000000) (disch := first | omega | (simp only [LN, numOk, verOk, rsP, caseP, beq_self_eq_true, tiP, hiP] <;> omega) | exact Ck.mk rfl) only [e, VC, T, Nat.reduceMul, Nat.reduceAdd, Nat.reduceSub, Nat.reduceLT, Nat.reduceEqDiff, Nat.reduceLeDiff, Nat.reduceBEq, reduceCtorEq, Int.reduceToNat, ↓reduceIte, rsP, caseP, beq_self_eq_true, tiP, hiP]) <;> (try clear e))
        | (refine pick_go (fun e f => ?_) (fun e f => ?_) <;> (try simp only [BB] at f) <;> (try simp only [numOk, verOk] at f) <;> (try simp (maxSteps := 1000000) (disch := first | omega | (simp only [LN, numOk, verOk, rsP, caseP, beq_self_eq_true, tiP, hiP] <;> omega) | exact Ck.mk rfl) only [e, VC, T, Nat.reduceMul, Nat.reduceAdd, Nat.reduceSub, Nat.reduceLT, Nat.reduceEqDiff, Nat.reduceLeDiff, Nat.reduceBEq, reduceCtorEq, Int.reduceToNat, ↓reduceIte, rsP, caseP, beq_self_eq_true, tiP, hiP]) <;> (try clear e))
        | ((first | refine dr_go mixed (id := 6) [([], [6], []), ([], [9], []), ([0, 1], [38, 39], []), ([0, 1, 2], [40], []), ([0, 1, 2, 3], [4, 41], []), ([0, 1, 2, 3], [7, 41], []), ([0, 1, 2, 3, 4, 5], [41, 42, 43], []), ([0, 1, 2, 3, 4, 5, 6], [41, 44], []), ([0, 1, 2, 3, 4, 5, 6, 7], [45], []), ([0, 1, 2, 3, 4, 5, 6, 7, 8], [5, 46], []), ([0, 1, 2, 3, 4, 5, 6, 7, 8], [8, 46], []), ([0, 1, 2, 3, 4, 5, 6, 7, 8, 9, 10], [46, 47, 48], []), ([0, 1, 2, 3, 4, 5, 6, 7, 8, 9, 10, 11], [46, 49], []), ([0, 1, 2, 3, 4, 5, 6, 7, 8, 9, 10, 11, 12], [46, 50], []), ([0, 1, 2, 3, 4, 5, 6, 7, 8, 9, 10, 11, 12, 13], [51], []), ([0, 1, 2, 3, 4, 5, 6, 7, 8, 9, 10, 11, 12, 13, 14], [3, 52], []), ([0, 1, 2, 3, 4, 5, 6, 7, 8, 9, 10, 11, 12, 13, 14, 15], [52, 53], []), ([0, 1, 2, 3, 4, 5, 6, 7, 8, 9, 10, 11, 12, 13, 14], [6, 52], []), ([0, 1, 2, 3, 4, 5, 6, 7, 8, 9, 10, 11, 12, 13, 14, 15, 16, 17], [52, 54, 55], []), ([0, 1, 2, 3, 4, 5, 6, 7, 8, 9, 10, 11, 12, 13, 14, 15, 16, 17, 18], [52, 56], [])] rfl rfl rfl ?_ | refine call_x (hU) rfl ⟨rfl⟩ ?_ | refine call_x (hU2) rfl ⟨rfl⟩ ?_ | refine call_x (k1) rfl ⟨rfl⟩ ?_ | refine call_x (k2) rfl ⟨rfl⟩ ?_ | refine call_x (k3) rfl ⟨rfl⟩ ?_ | refine call_x (hZ) rfl ⟨rfl⟩ ?_ | refine call_x (laws_sameStr _ _ (by omega)) rfl ⟨rfl⟩ ?_); (try simp (maxSteps := 1000000) (disch := first | omega | (simp only [LN, numOk, verOk, rsP, caseP, beq_self_eq_true, tiP, hiP] <;> omega) | exact Ck.mk rfl) only [VC, T, Nat.reduceMul, Nat.reduceAdd, Nat.reduceSub, Nat.reduceLT, Nat.reduceEqDiff, Nat.reduceLeDiff, Nat.reduceBEq, reduceCtorEq, Int.reduceToNat, ↓reduceIte, rsP, caseP, beq_self_eq_true, tiP, hiP])))
      · omega
      · simp
      · simp at f
    · have hz := (seal_iff _ _ _ _ _).2 hk
      generalize sealT v2 s2 b2 l2 rs2 = t at *
      (try simp (maxSteps := 1000000) (disch := first | omega | (simp only [LN, numOk, verOk, rsP, caseP, beq_self_eq_true, tiP, hiP, hz] <;> omega) | exact Ck.mk rfl) only [VC, T, Nat.reduceMul, Nat.reduceAdd, Nat.reduceSub, Nat.reduceLT, Nat.reduceEqDiff, Nat.reduceLeDiff, Nat.reduceBEq, reduceCtorEq, Int.reduceToNat, ↓reduceIte, rsP, caseP, beq_self_eq_true, tiP, hiP, hz])
      repeat' (first
        | (refine br_go (fun e f => ?_) (fun e f => ?_) <;> (try simp only [BB] at f) <;> (try simp only [numOk, verOk] at f) <;> (try simp (maxSteps := 1000000) (disch := first | omega | (simp only [LN, numOk, verOk, rsP, caseP, beq_self_eq_true, tiP, hiP, hz] <;> omega) | exact Ck.mk rfl) only [e, VC, T, Nat.reduceMul, Nat.reduceAdd, Nat.reduceSub, Nat.reduceLT, Nat.reduceEqDiff, Nat.reduceLeDiff, Nat.reduceBEq, reduceCtorEq, Int.reduceToNat, ↓reduceIte, rsP, caseP, beq_self_eq_true, tiP, hiP, hz]) <;> (try clear e))
        | (refine pick_go (fun e f => ?_) (fun e f => ?_) <;> (try simp only [BB] at f) <;> (try simp only [numOk, verOk] at f) <;> (try simp (maxSteps := 1000000) (disch := first | omega | (simp only [LN, numOk, verOk, rsP, caseP, beq_self_eq_true, tiP, hiP, hz] <;> omega) | exact Ck.mk rfl) only [e, VC, T, Nat.reduceMul, Nat.reduceAdd, Nat.reduceSub, Nat.reduceLT, Nat.reduceEqDiff, Nat.reduceLeDiff, Nat.reduceBEq, reduceCtorEq, Int.reduceToNat, ↓reduceIte, rsP, caseP, beq_self_eq_true, tiP, hiP, hz]) <;> (try clear e))
        | ((first | refine dr_go mixed (id := 6) [([], [6], []), ([], [9], []), ([0, 1], [38, 39], []), ([0, 1, 2], [40], []), ([0, 1, 2, 3], [4, 41], []), ([0, 1, 2, 3], [7, 41], []), ([0, 1, 2, 3, 4, 5], [41, 42, 43], []), ([0, 1, 2, 3, 4, 5, 6], [41, 44], []), ([0, 1, 2, 3, 4, 5, 6, 7], [45], []), ([0, 1, 2, 3, 4, 5, 6, 7, 8], [5, 46], []), ([0, 1, 2, 3, 4, 5, 6, 7, 8], [8, 46], []), ([0, 1, 2, 3, 4, 5, 6, 7, 8, 9, 10], [46, 47, 48], []), ([0, 1, 2, 3, 4, 5, 6, 7, 8, 9, 10, 11], [46, 49], []), ([0, 1, 2, 3, 4, 5, 6, 7, 8, 9, 10, 11, 12], [46, 50], []), ([0, 1, 2, 3, 4, 5, 6, 7, 8, 9, 10, 11, 12, 13], [51], []), ([0, 1, 2, 3, 4, 5, 6, 7, 8, 9, 10, 11, 12, 13, 14], [3, 52], []), ([0, 1, 2, 3, 4, 5, 6, 7, 8, 9, 10, 11, 12, 13, 14, 15], [52, 53], []), ([0, 1, 2, 3, 4, 5, 6, 7, 8, 9, 10, 11, 12, 13, 14], [6, 52], []), ([0, 1, 2, 3, 4, 5, 6, 7, 8, 9, 10, 11, 12, 13, 14, 15, 16, 17], [52, 54, 55], []), ([0, 1, 2, 3, 4, 5, 6, 7, 8, 9, 10, 11, 12, 13, 14, 15, 16, 17, 18], [52, 56], [])] rfl rfl rfl ?_ | refine call_x (hU) rfl ⟨rfl⟩ ?_ | refine call_x (hU2) rfl ⟨rfl⟩ ?_ | refine call_x (hE) rfl ⟨rfl⟩ ?_ | refine call_x (hS) rfl ⟨rfl⟩ ?_); (try simp (maxSteps := 1000000) (disch := first | omega | (simp only [LN, numOk, verOk, rsP, caseP, beq_self_eq_true, tiP, hiP, hz] <;> omega) | exact Ck.mk rfl) only [VC, T, Nat.reduceMul, Nat.reduceAdd, Nat.reduceSub, Nat.reduceLT, Nat.reduceEqDiff, Nat.reduceLeDiff, Nat.reduceBEq, reduceCtorEq, Int.reduceToNat, ↓reduceIte, rsP, caseP, beq_self_eq_true, tiP, hiP, hz])))
      · rfl
      · exact absurd hz f
theorem flip_ne (t u : ByteArray) (i : Nat) (hi : i < t.size) (x : Int) (hu : u = strOf ((bytesOf t).set i x)) (hx : x ≠ bt t i) (h0 : 0 ≤ x ∧ x ≤ 255) : u ≠ t := fun e => by
  subst hu
  have h1 := congrArg bytesOf e
  have hl : i < (bytesOf t).length := by rw [bytesOf_length]; exact hi
  rw [bytesOf_strOf _ (fun z hz => by
    rcases List.mem_or_eq_of_mem_set hz with h | rfl
    · exact bytesOf_range t z h
    · exact h0)] at h1
  have h2 := congrArg (fun l : List Int => l[i]?) h1
  simp only [List.getElem?_set_self hl] at h2
  rw [List.getElem?_eq_getElem hl] at h2
  rw [bt_rd, rd_get _ _ hl] at hx
  exact hx (Option.some.inj h2)
theorem flip_bit8 : ∀ (a : _root_.Fin 256) (k : _root_.Fin 8), (0 ≤ Go.bits .xor .u8 (a.val : Int) (shl .u8 1 (k.val : Int)) ∧ Go.bits .xor .u8 (a.val : Int) (shl .u8 1 (k.val : Int)) ≤ 255) ∧ Go.bits .xor .u8 (a.val : Int) (shl .u8 1 (k.val : Int)) ≠ (a.val : Int) := by decide +kernel
theorem flip_bit (a : Int) (k : Nat) (ha : 0 ≤ a ∧ a ≤ 255) (hk : k < 8) : (0 ≤ Go.bits .xor .u8 a (shl .u8 1 (k : Int)) ∧ Go.bits .xor .u8 a (shl .u8 1 (k : Int)) ≤ 255) ∧ Go.bits .xor .u8 a (shl .u8 1 (k : Int)) ≠ a := by
  have := flip_bit8 ⟨a.toNat, by omega⟩ ⟨k, hk⟩
  simp only [Int.toNat_of_nonneg ha.1] at this
  exact this
set_option maxRecDepth 20000 in
theorem law_FnBent (code : List Int) (hc : code.length ≤ 9223372036854775807 ∧ ∀ a ∈ code, (Lit.int .u8 a).wf = true) : Fn Try.prog 3 [.far (code.map (.int .u8))] [] (.bool true) [] := by
  refine fn_x tok (n := 129) (rs := [.tmp 2]) Try.func3 (by decide) rfl rfl rfl rfl ?_
  (try simp (maxSteps := 1000000) (disch := first | omega | (simp only [LN, numOk, verOk, rsP, caseP, beq_self_eq_true, tiP, hiP] <;> omega) | exact Ck.mk rfl) only [VC, T, Nat.reduceMul, Nat.reduceAdd, Nat.reduceSub, Nat.reduceLT, Nat.reduceEqDiff, Nat.reduceLeDiff, Nat.reduceBEq, reduceCtorEq, Int.reduceToNat, ↓reduceIte, rsP, caseP, beq_self_eq_true, tiP, hiP])
  repeat' (first
    | (refine br_go (fun e f => ?_) (fun e f => ?_) <;> (try simp only [BB] at f) <;> (try simp only [numOk, verOk] at f) <;> (try simp (maxSteps := 1000000) (disch := first | omega | (simp only [LN, numOk, verOk, rsP, caseP, beq_self_eq_true, tiP, hiP] <;> omega) | exact Ck.mk rfl) only [e, VC, T, Nat.reduceMul, Nat.reduceAdd, Nat.reduceSub, Nat.reduceLT, Nat.reduceEqDiff, Nat.reduceLeDiff, Nat.reduceBEq, reduceCtorEq, Int.reduceToNat, ↓reduceIte, rsP, caseP, beq_self_eq_true, tiP, hiP]) <;> (try clear e))
    | (refine pick_go (fun e f => ?_) (fun e f => ?_) <;> (try simp only [BB] at f) <;> (try simp only [numOk, verOk] at f) <;> (try simp (maxSteps := 1000000) (disch := first | omega | (simp only [LN, numOk, verOk, rsP, caseP, beq_self_eq_true, tiP, hiP] <;> omega) | exact Ck.mk rfl) only [e, VC, T, Nat.reduceMul, Nat.reduceAdd, Nat.reduceSub, Nat.reduceLT, Nat.reduceEqDiff, Nat.reduceLeDiff, Nat.reduceBEq, reduceCtorEq, Int.reduceToNat, ↓reduceIte, rsP, caseP, beq_self_eq_true, tiP, hiP]) <;> (try clear e))
    | ((first | refine call_x (laws_big _ hc.1) rfl ⟨rfl⟩ ?_); (try simp (maxSteps := 1000000) (disch := first | omega | (simp only [LN, numOk, verOk, rsP, caseP, beq_self_eq_true, tiP, hiP] <;> omega) | exact Ck.mk rfl) only [VC, T, Nat.reduceMul, Nat.reduceAdd, Nat.reduceSub, Nat.reduceLT, Nat.reduceEqDiff, Nat.reduceLeDiff, Nat.reduceBEq, reduceCtorEq, Int.reduceToNat, ↓reduceIte, rsP, caseP, beq_self_eq_true, tiP, hiP])))
  refine call_v (DrawSealText code (code_bytes hc f)) rfl ?_
  rintro _ ⟨v, s, b, l, rs, rfl, h1, h2, h3⟩
  refine ⟨⟨rfl⟩, ?_⟩
  have hU := spec_SealText v s b l rs (by omega) (fun r hr => by have := h3 r hr; omega)
  have hle := sealT_le v s b l rs
  by_cases hk : sealOk v s b l rs
  · have hge := seal_size _ _ _ _ _ hk
    have hB := rSealed_b
    have k1 := impl_HeadIn (sealT v s b l rs) (by omega)
    have k2 := fun n => impl_SealedAs (sealT v s b l rs) n (by omega)
    rw [seal_back hk] at k1 k2
    generalize hT : sealT v s b l rs = t at *
    (try simp (maxSteps := 1000000) (disch := first | omega | (simp only [LN, numOk, verOk, rsP, caseP, beq_self_eq_true, tiP, hiP] <;> omega) | exact Ck.mk rfl) only [VC, T, Nat.reduceMul, Nat.reduceAdd, Nat.reduceSub, Nat.reduceLT, Nat.reduceEqDiff, Nat.reduceLeDiff, Nat.reduceBEq, reduceCtorEq, Int.reduceToNat, ↓reduceIte, rsP, caseP, beq_self_eq_true, tiP, hiP])
    repeat' (first
      | (refine br_go (fun e f => ?_) (fun e f => ?_) <;> (try simp only [BB] at f) <;> (try simp only [numOk, verOk] at f) <;> (try simp (maxSteps := 1000000) (disch := first | omega | (simp only [LN, numOk, verOk, rsP, caseP, beq_self_eq_true, tiP, hiP] <;> omega) | exact Ck.mk rfl) only [e, VC, T, Nat.reduceMul, Nat.reduceAdd, Nat.reduceSub, Nat.reduceLT, Nat.reduceEqDiff, Nat.reduceLeDiff, Nat.reduceBEq, reduceCtorEq, Int.reduceToNat, ↓reduceIte, rsP, caseP, beq_self_eq_true, tiP, hiP]) <;> (try clear e))
      | (refine pick_go (fun e f => ?_) (fun e f => ?_) <;> (try simp only [BB] at f) <;> (try simp only [numOk, verOk] at f) <;> (try simp (maxSteps := 1000000) (disch := first | omega | (simp only [LN, numOk, verOk, rsP, caseP, beq_self_eq_true, tiP, hiP] <;> omega) | exact Ck.mk rfl) only [e, VC, T, Nat.reduceMul, Nat.reduceAdd, Nat.reduceSub, Nat.reduceLT, Nat.reduceEqDiff, Nat.reduceLeDiff, Nat.reduceBEq, reduceCtorEq, Int.reduceToNat, ↓reduceIte, rsP, caseP, beq_self_eq_true, tiP, hiP]) <;> (try clear e))
      | ((first | refine dr_go mixed (id := 9) [([], [8], []), ([0], [47], []), ([0, 1], [48], []), ([0, 1, 2], [49], []), ([], [8], []), ([4], [51], []), ([4, 5], [52], []), ([0, 1, 2, 3, 4, 5, 6], [50, 53], []), ([], [5], []), ([8], [55], []), ([8, 9], [56], []), ([0, 1, 2, 3, 4, 5, 6, 7, 8, 9, 10], [54, 57], []), ([0, 1, 2, 3, 4, 5, 6, 7, 8, 9, 10, 11], [58], [])] rfl rfl rfl ?_ | refine call_x (hU) rfl ⟨rfl⟩ ?_ | (refine call_v (DrawPlaces code (code_bytes hc (by assumption))) rfl ?_; rintro _ ⟨p, rfl, hp1, hp2⟩; refine ⟨⟨rfl⟩, ?_⟩)); (try simp (maxSteps := 1000000) (disch := first | omega | (simp only [LN, numOk, verOk, rsP, caseP, beq_self_eq_true, tiP, hiP] <;> omega) | exact Ck.mk rfl) only [VC, T, Nat.reduceMul, Nat.reduceAdd, Nat.reduceSub, Nat.reduceLT, Nat.reduceEqDiff, Nat.reduceLeDiff, Nat.reduceBEq, reduceCtorEq, Int.reduceToNat, ↓reduceIte, rsP, caseP, beq_self_eq_true, tiP, hiP])))
    · omega
    have d0 : 0 ≤ p.getD 0 default ∧ p.getD 0 default < 10000 := by
      rw [List.getD_eq_getElem?_getD, List.getElem?_eq_getElem (by omega)]
      exact hp2 _ (List.getElem_mem _)
    have d1 : 0 ≤ p.getD 1 default ∧ p.getD 1 default < 10000 := by
      rw [List.getD_eq_getElem?_getD, List.getElem?_eq_getElem (by omega)]
      exact hp2 _ (List.getElem_mem _)
    generalize p.getD 0 default = p0 at *
    generalize p.getD 1 default = p1 at *
    have e0 : IntKind.i64.wrap (IntKind.i64.wrap (p0 * 10000) + p1) = p0 * 10000 + p1 := by rw [wsmall (p0 * 10000) (by omega) (by omega), wsmall _ (by omega) (by omega)]
    obtain ⟨m, hm, hm2⟩ : ∃ m : Nat, (p0 * 10000 + p1).tmod (8 * (t.size : Int)) = m ∧ m < 8 * t.size := by
      have q1 := Int.tmod_nonneg (8 * (t.size : Int)) (by omega : 0 ≤ p0 * 10000 + p1)
      have q2 := Int.tmod_lt_of_pos (p0 * 10000 + p1) (by omega : 0 < 8 * (t.size : Int))
      exact ⟨((p0 * 10000 + p1).tmod (8 * (t.size : Int))).toNat, by omega, by omega⟩
    have e1 : IntKind.i64.wrap ((m : Int).tdiv 8) = ((m / 8 : Nat) : Int) := by
      rw [Int.tdiv_eq_ediv_of_nonneg (by omega), wsmall _ (by omega) (by omega)]
      omega
    have e2 : (m : Int).tmod 8 = ((m % 8 : Nat) : Int) := by rw [Int.tmod_eq_emod_of_nonneg (by omega)]; omega
    rw [e0, hm, e1]
    refine ⟨(bytesOf_length t).symm, by omega, by omega, ?_⟩
    have hx := flip_bit (bt t (m / 8 : Nat)) (m % 8) (bt_range t _) (by omega)
    have hbt : bt t (m / 8 : Nat) = (bytesOf t).getD (m / 8) default := by rw [bt_rd]; rfl
    have h8 : ((m % 8 : Nat) : Int) % 18446744073709551616 = ((m % 8 : Nat) : Int) := by omega
    have hun := fun u hu => flip_ne t u (m / 8) (by omega) _ hu hx.2 hx.1
    have hin : ∀ z ∈ (bytesOf t).set (m / 8) (Go.bits .xor .u8 (bt t (m / 8 : Nat)) (shl .u8 1 (m % 8 : Nat))), 0 ≤ z ∧ z < 256 := fun z hz => by
      rcases List.mem_or_eq_of_mem_set hz with h | rfl
      · have := bytesOf_range t z h; omega
      · omega
    generalize hX : Go.bits .xor .u8 (bt t (m / 8 : Nat)) (shl .u8 1 (m % 8 : Nat)) = X at *
    rw [hbt] at hX
    obtain ⟨u, hu⟩ : ∃ u, u = strOf ((bytesOf t).set (m / 8) X) := ⟨_, rfl⟩
    have hus : u.size = t.size := by rw [hu, strOf_size, List.length_set, bytesOf_length]
    have hun := hun u hu
    have k3 := impl_ReadSealed u (by omega)
    have k4 := impl_SealedOk u (by omega)
    have hFu := rSealed_f u
    have hBu := hB u
    generalize rSealed u = r at *
    obtain ⟨⟨v2, s2, b2, l2⟩, rs2, ok⟩ := r
    simp only at hBu hFu k4
    cases ok with
    | true =>
      have hBu := hBu rfl
      (try simp (maxSteps := 1000000) (disch := first | omega | (simp only [LN, numOk, verOk, rsP, caseP, beq_self_eq_true, tiP, hiP, e0, hm, e1, e2, bytesOf_length, h8, hX, ← hu] <;> omega) | exact Ck.mk rfl) only [VC, T, Nat.reduceMul, Nat.reduceAdd, Nat.reduceSub, Nat.reduceLT, Nat.reduceEqDiff, Nat.reduceLeDiff, Nat.reduceBEq, reduceCtorEq, Int.reduceToNat, ↓reduceIte, rsP, caseP, beq_self_eq_true, tiP, hiP, e0, hm, e1, e2, bytesOf_length, h8, hX, ← hu])
      repeat' (first
        | (refine br_go (fun e f => ?_) (fun e f => ?_) <;> (try simp only [BB] at f) <;> (try simp only [numOk, verOk] at f) <;> (try simp (maxSteps := 1000000) (disch := first | omega | (simp only [LN, numOk, verOk, rsP, caseP, beq_self_eq_true, tiP, hiP, e0, hm, e1, e2, bytesOf_length, h8, hX, ← hu] <;> omega) | exact Ck.mk rfl) only [e, VC, T, Nat.reduceMul, Nat.reduceAdd, Nat.reduceSub, Nat.reduceLT, Nat.reduceEqDiff, Nat.reduceLeDiff, Nat.reduceBEq, reduceCtorEq, Int.reduceToNat, ↓reduceIte, rsP, caseP, beq_self_eq_true, tiP, hiP, e0, hm, e1, e2, bytesOf_length, h8, hX, ← hu]) <;> (try clear e))
        | (refine pick_go (fun e f => ?_) (fun e f => ?_) <;> (try simp only [BB] at f) <;> (try simp only [numOk, verOk] at f) <;> (try simp (maxSteps := 1000000) (disch := first | omega | (simp only [LN, numOk, verOk, rsP, caseP, beq_self_eq_true, tiP, hiP, e0, hm, e1, e2, bytesOf_length, h8, hX, ← hu] <;> omega) | exact Ck.mk rfl) only [e, VC, T, Nat.reduceMul, Nat.reduceAdd, Nat.reduceSub, Nat.reduceLT, Nat.reduceEqDiff, Nat.reduceLeDiff, Nat.reduceBEq, reduceCtorEq, Int.reduceToNat, ↓reduceIte, rsP, caseP, beq_self_eq_true, tiP, hiP, e0, hm, e1, e2, bytesOf_length, h8, hX, ← hu]) <;> (try clear e))
        | ((first | refine dr_go mixed (id := 9) [([], [8], []), ([0], [47], []), ([0, 1], [48], []), ([0, 1, 2], [49], []), ([], [8], []), ([4], [51], []), ([4, 5], [52], []), ([0, 1, 2, 3, 4, 5, 6], [50, 53], []), ([], [5], []), ([8], [55], []), ([8, 9], [56], []), ([0, 1, 2, 3, 4, 5, 6, 7, 8, 9, 10], [54, 57], []), ([0, 1, 2, 3, 4, 5, 6, 7, 8, 9, 10, 11], [58], [])] rfl rfl rfl ?_ | refine call_x (k1) rfl ⟨rfl⟩ ?_ | refine call_x (k2 _) rfl ⟨rfl⟩ ?_ | refine call_x (k3) rfl ⟨rfl⟩ ?_ | refine call_x (k4) rfl ⟨rfl⟩ ?_ | refine call_x (laws_sameStr _ _ (by omega)) rfl ⟨rfl⟩ ?_); (try simp (maxSteps := 1000000) (disch := first | omega | (simp only [LN, numOk, verOk, rsP, caseP, beq_self_eq_true, tiP, hiP, e0, hm, e1, e2, bytesOf_length, h8, hX, ← hu] <;> omega) | exact Ck.mk rfl) only [VC, T, Nat.reduceMul, Nat.reduceAdd, Nat.reduceSub, Nat.reduceLT, Nat.reduceEqDiff, Nat.reduceLeDiff, Nat.reduceBEq, reduceCtorEq, Int.reduceToNat, ↓reduceIte, rsP, caseP, beq_self_eq_true, tiP, hiP, e0, hm, e1, e2, bytesOf_length, h8, hX, ← hu])))
      · have hv := hk.1.1
        unfold verOk at hv
        rw [wsmall _ (by omega) (by omega)] at f
        omega
      · rename_i f1
        have f2 : rs2 = rs := f
        obtain ⟨rfl, rfl, rfl, rfl⟩ := f1
        subst f2
        exact absurd (hBu.symm.trans hT) hun
      · simp at f
    | false =>
      (try simp (maxSteps := 1000000) (disch := first | omega | (simp only [LN, numOk, verOk, rsP, caseP, beq_self_eq_true, tiP, hiP, e0, hm, e1, e2, bytesOf_length, h8, hX, ← hu] <;> omega) | exact Ck.mk rfl) only [VC, T, Nat.reduceMul, Nat.reduceAdd, Nat.reduceSub, Nat.reduceLT, Nat.reduceEqDiff, Nat.reduceLeDiff, Nat.reduceBEq, reduceCtorEq, Int.reduceToNat, ↓reduceIte, rsP, caseP, beq_self_eq_true, tiP, hiP, e0, hm, e1, e2, bytesOf_length, h8, hX, ← hu])
      repeat' (first
        | (refine br_go (fun e f => ?_) (fun e f => ?_) <;> (try simp only [BB] at f) <;> (try simp only [numOk, verOk] at f) <;> (try simp (maxSteps := 1000000) (disch := first | omega | (simp only [LN, numOk, verOk, rsP, caseP, beq_self_eq_true, tiP, hiP, e0, hm, e1, e2, bytesOf_length, h8, hX, ← hu] <;> omega) | exact Ck.mk rfl) only [e, VC, T, Nat.reduceMul, Nat.reduceAdd, Nat.reduceSub, Nat.reduceLT, Nat.reduceEqDiff, Nat.reduceLeDiff, Nat.reduceBEq, reduceCtorEq, Int.reduceToNat, ↓reduceIte, rsP, caseP, beq_self_eq_true, tiP, hiP, e0, hm, e1, e2, bytesOf_length, h8, hX, ← hu]) <;> (try clear e))
        | (refine pick_go (fun e f => ?_) (fun e f => ?_) <;> (try simp only [BB] at f) <;> (try simp only [numOk, verOk] at f) <;> (try simp (maxSteps := 1000000) (disch := first | omega | (simp only [LN, numOk, verOk, rsP, caseP, beq_self_eq_true, tiP, hiP, e0, hm, e1, e2, bytesOf_length, h8, hX, ← hu] <;> omega) | exact Ck.mk rfl) only [e, VC, T, Nat.reduceMul, Nat.reduceAdd, Nat.reduceSub, Nat.reduceLT, Nat.reduceEqDiff, Nat.reduceLeDiff, Nat.reduceBEq, reduceCtorEq, Int.reduceToNat, ↓reduceIte, rsP, caseP, beq_self_eq_true, tiP, hiP, e0, hm, e1, e2, bytesOf_length, h8, hX, ← hu]) <;> (try clear e))
        | ((first | refine dr_go mixed (id := 9) [([], [8], []), ([0], [47], []), ([0, 1], [48], []), ([0, 1, 2], [49], []), ([], [8], []), ([4], [51], []), ([4, 5], [52], []), ([0, 1, 2, 3, 4, 5, 6], [50, 53], []), ([], [5], []), ([8], [55], []), ([8, 9], [56], []), ([0, 1, 2, 3, 4, 5, 6, 7, 8, 9, 10], [54, 57], []), ([0, 1, 2, 3, 4, 5, 6, 7, 8, 9, 10, 11], [58], [])] rfl rfl rfl ?_ | refine call_x (k1) rfl ⟨rfl⟩ ?_ | refine call_x (k2 _) rfl ⟨rfl⟩ ?_ | refine call_x (k3) rfl ⟨rfl⟩ ?_ | refine call_x (k4) rfl ⟨rfl⟩ ?_ | refine call_x (laws_sameStr _ _ (by omega)) rfl ⟨rfl⟩ ?_); (try simp (maxSteps := 1000000) (disch := first | omega | (simp only [LN, numOk, verOk, rsP, caseP, beq_self_eq_true, tiP, hiP, e0, hm, e1, e2, bytesOf_length, h8, hX, ← hu] <;> omega) | exact Ck.mk rfl) only [VC, T, Nat.reduceMul, Nat.reduceAdd, Nat.reduceSub, Nat.reduceLT, Nat.reduceEqDiff, Nat.reduceLeDiff, Nat.reduceBEq, reduceCtorEq, Int.reduceToNat, ↓reduceIte, rsP, caseP, beq_self_eq_true, tiP, hiP, e0, hm, e1, e2, bytesOf_length, h8, hX, ← hu])))
      · have hv := hk.1.1
        unfold verOk at hv
        rw [wsmall _ (by omega) (by omega)] at f
        omega
      · simp at f
  · have hz := (seal_iff _ _ _ _ _).2 hk
    have k0 : sealOk 1 1 0 0 [] := by decide
    have k0' : sealOk 2 1 0 0 [] := by decide
    have q1 := spec_SealText 1 1 0 0 [] (by decide) (by simp)
    have q2 := spec_SealText 2 1 0 0 [] (by decide) (by simp)
    have q3 := impl_HeadIn (sealT 1 1 0 0 []) (Nat.le_trans (sealT_le _ _ _ _ _) (by decide))
    have q4 := impl_SealedAs (sealT 2 1 0 0 []) 2 (Nat.le_trans (sealT_le _ _ _ _ _) (by decide))
    rw [seal_back k0] at q3
    rw [seal_back k0'] at q4
    generalize sealT 1 1 0 0 [] = w1 at *
    generalize sealT 2 1 0 0 [] = w2 at *
    generalize sealT v s b l rs = t at *
    (try simp (maxSteps := 1000000) (disch := first | omega | (simp only [LN, numOk, verOk, rsP, caseP, beq_self_eq_true, tiP, hiP, hz] <;> omega) | exact Ck.mk rfl) only [VC, T, Nat.reduceMul, Nat.reduceAdd, Nat.reduceSub, Nat.reduceLT, Nat.reduceEqDiff, Nat.reduceLeDiff, Nat.reduceBEq, reduceCtorEq, Int.reduceToNat, ↓reduceIte, rsP, caseP, beq_self_eq_true, tiP, hiP, hz])
    repeat' (first
      | (refine br_go (fun e f => ?_) (fun e f => ?_) <;> (try simp only [BB] at f) <;> (try simp only [numOk, verOk] at f) <;> (try simp (maxSteps := 1000000) (disch := first | omega | (simp only [LN, numOk, verOk, rsP, caseP, beq_self_eq_true, tiP, hiP, hz] <;> omega) | exact Ck.mk rfl) only [e, VC, T, Nat.reduceMul, Nat.reduceAdd, Nat.reduceSub, Nat.reduceLT, Nat.reduceEqDiff, Nat.reduceLeDiff, Nat.reduceBEq, reduceCtorEq, Int.reduceToNat, ↓reduceIte, rsP, caseP, beq_self_eq_true, tiP, hiP, hz]) <;> (try clear e))
      | (refine pick_go (fun e f => ?_) (fun e f => ?_) <;> (try simp only [BB] at f) <;> (try simp only [numOk, verOk] at f) <;> (try simp (maxSteps := 1000000) (disch := first | omega | (simp only [LN, numOk, verOk, rsP, caseP, beq_self_eq_true, tiP, hiP, hz] <;> omega) | exact Ck.mk rfl) only [e, VC, T, Nat.reduceMul, Nat.reduceAdd, Nat.reduceSub, Nat.reduceLT, Nat.reduceEqDiff, Nat.reduceLeDiff, Nat.reduceBEq, reduceCtorEq, Int.reduceToNat, ↓reduceIte, rsP, caseP, beq_self_eq_true, tiP, hiP, hz]) <;> (try clear e))
      | ((first | refine dr_go mixed (id := 9) [([], [8], []), ([0], [47], []), ([0, 1], [48], []), ([0, 1, 2], [49], []), ([], [8], []), ([4], [51], []), ([4, 5], [52], []), ([0, 1, 2, 3, 4, 5, 6], [50, 53], []), ([], [5], []), ([8], [55], []), ([8, 9], [56], []), ([0, 1, 2, 3, 4, 5, 6, 7, 8, 9, 10], [54, 57], []), ([0, 1, 2, 3, 4, 5, 6, 7, 8, 9, 10, 11], [58], [])] rfl rfl rfl ?_ | refine call_x (hU) rfl ⟨rfl⟩ ?_ | refine call_x (q1) rfl ⟨rfl⟩ ?_ | refine call_x (q2) rfl ⟨rfl⟩ ?_ | refine call_x (q3) rfl ⟨rfl⟩ ?_ | refine call_x (q4) rfl ⟨rfl⟩ ?_); (try simp (maxSteps := 1000000) (disch := first | omega | (simp only [LN, numOk, verOk, rsP, caseP, beq_self_eq_true, tiP, hiP, hz] <;> omega) | exact Ck.mk rfl) only [VC, T, Nat.reduceMul, Nat.reduceAdd, Nat.reduceSub, Nat.reduceLT, Nat.reduceEqDiff, Nat.reduceLeDiff, Nat.reduceBEq, reduceCtorEq, Int.reduceToNat, ↓reduceIte, rsP, caseP, beq_self_eq_true, tiP, hiP, hz])))
    · simp
    · exact absurd hz f
end Go.Pv

/- What functions of the program and of the reference do, in plain values. -/
namespace Go.Pv
open Go.Proofs Go.Mth
set_option linter.unusedSimpArgs false
set_option linter.unusedVariables false
set_option maxHeartbeats 4000000

/-! ### laws of sealed files, more -/
theorem reseal_seal {v s b l : Int} {rs : List ByteArray} (h : sealOk v s b l rs) (n : Int) (hn : n = 0 ∨ verOk n) : resealT (sealT v s b l rs) n = sealT (if n = 0 then v else n) s b l rs := by
  unfold resealT
  rw [scan_seal v s b l rs h, if_pos ⟨rfl, hn⟩]
theorem sealOk_ver {v s b l : Int} {rs : List ByteArray} (h : sealOk v s b l rs) (n : Int) (hn : verOk n) : sealOk n s b l rs := ⟨⟨hn, h.1.2⟩, h.2⟩
theorem reseal_form (b : ByteArray) (n : Int) (h : ¬ (resealT b n).size = 0) : ∃ v s base l, sealOk v s base l (scan b).2.2.2.2.2.1 ∧ resealT b n = sealT v s base l (scan b).2.2.2.2.2.1 ∧ (sealedB b = true → n ≤ 0 → resealT b n = b) := by
  unfold resealT at h ⊢
  split at h
  · rename_i hc
    rw [if_pos hc]
    refine ⟨_, _, _, _, Decidable.byContradiction fun k => h ((seal_iff _ _ _ _ _).2 k), rfl, fun hs hn => ?_⟩
    obtain rfl : n = 0 := by
      rcases hc.2 with h | h
      · exact h
      · unfold verOk at h; omega
    rw [if_pos rfl]
    exact (sealed_ok b hs).2.1
  · exact absurd rfl h
set_option maxRecDepth 20000 in
theorem law_FnResealed (code : List Int) (hc : code.length ≤ 9223372036854775807 ∧ ∀ a ∈ code, (Lit.int .u8 a).wf = true) : Fn Try.prog 7 [.far (code.map (.int .u8))] [] (.bool true) [] := by
  have hk0 : sealOk 1 2 0 0 [⟨#[97]⟩, ⟨#[98]⟩] := by decide
  have x1 := spec_SealText 1 2 0 0 [⟨#[97]⟩, ⟨#[98]⟩] (by decide) (by decide)
  have x2 := spec_SealText 2 2 0 0 [⟨#[97]⟩, ⟨#[98]⟩] (by decide) (by decide)
  have y1 := impl_Resealed (sealT 1 2 0 0 [⟨#[97]⟩, ⟨#[98]⟩]) 0 (Nat.le_trans (sealT_le _ _ _ _ _) (by decide))
  have y2 := impl_Resealed (sealT 1 2 0 0 [⟨#[97]⟩, ⟨#[98]⟩]) 2 (Nat.le_trans (sealT_le _ _ _ _ _) (by decide))
  rw [reseal_seal hk0 _ (Or.inl rfl), if_pos rfl] at y1
  rw [reseal_seal hk0 _ (Or.inr (by decide)), if_neg (by decide)] at y2
  generalize sealT 1 2 0 0 [⟨#[97]⟩, ⟨#[98]⟩] = z1 at *
  generalize sealT 2 2 0 0 [⟨#[97]⟩, ⟨#[98]⟩] = z2 at *
  refine fn_x tok (n := 76) (rs := [.tmp 2]) Try.func7 (by decide) rfl rfl rfl rfl ?_
  (try simp (maxSteps := 1000000) (disch := first | omega | (simp only [LN, numOk, verOk, rsP, caseP, beq_self_eq_true, tiP, hiP] <;> omega) | exact Ck.mk rfl) only [VC, T, Nat.reduceMul, Nat.reduceAdd, Nat.reduceSub, Nat.reduceLT, Nat.reduceEqDiff, Nat.reduceLeDiff, Nat.reduceBEq, reduceCtorEq, Int.reduceToNat, ↓reduceIte, rsP, caseP, beq_self_eq_true, tiP, hiP])
  repeat' (first
    | (refine br_go (fun e f => ?_) (fun e f => ?_) <;> (try simp only [BB] at f) <;> (try simp only [numOk, verOk] at f) <;> (try simp (maxSteps := 1000000) (disch := first | omega | (simp only [LN, numOk, verOk, rsP, caseP, beq_self_eq_true, tiP, hiP] <;> omega) | exact Ck.mk rfl) only [e, VC, T, Nat.reduceMul, Nat.reduceAdd, Nat.reduceSub, Nat.reduceLT, Nat.reduceEqDiff, Nat.reduceLeDiff, Nat.reduceBEq, reduceCtorEq, Int.reduceToNat, ↓reduceIte, rsP, caseP, beq_self_eq_true, tiP, hiP]) <;> (try clear e))
    | (refine pick_go (fun e f => ?_) (fun e f => ?_) <;> (try simp only [BB] at f) <;> (try simp only [numOk, verOk] at f) <;> (try simp (maxSteps := 1000000) (disch := first | omega | (simp only [LN, numOk, verOk, rsP, caseP, beq_self_eq_true, tiP, hiP] <;> omega) | exact Ck.mk rfl) only [e, VC, T, Nat.reduceMul, Nat.reduceAdd, Nat.reduceSub, Nat.reduceLT, Nat.reduceEqDiff, Nat.reduceLeDiff, Nat.reduceBEq, reduceCtorEq, Int.reduceToNat, ↓reduceIte, rsP, caseP, beq_self_eq_true, tiP, hiP]) <;> (try clear e))
    | ((first | refine call_x (laws_big _ hc.1) rfl ⟨rfl⟩ ?_); (try simp (maxSteps := 1000000) (disch := first | omega | (simp only [LN, numOk, verOk, rsP, caseP, beq_self_eq_true, tiP, hiP] <;> omega) | exact Ck.mk rfl) only [VC, T, Nat.reduceMul, Nat.reduceAdd, Nat.reduceSub, Nat.reduceLT, Nat.reduceEqDiff, Nat.reduceLeDiff, Nat.reduceBEq, reduceCtorEq, Int.reduceToNat, ↓reduceIte, rsP, caseP, beq_self_eq_true, tiP, hiP])))
  refine call_v (DrawResealed code (code_bytes hc f)) rfl ?_
  rintro _ ⟨b, v, rfl, hb, hv⟩
  refine ⟨⟨rfl⟩, ?_⟩
  unfold SzIn at hb
  have hR := impl_Resealed b v (by omega)
  have hR2 := spec_Resealed b v (by omega)
  by_cases hz : (resealT b v).size = 0
  · generalize resealT b v = t at *
    (try simp (maxSteps := 1000000) (disch := first | omega | (simp only [LN, numOk, verOk, rsP, caseP, beq_self_eq_true, tiP, hiP, hz] <;> omega) | exact Ck.mk rfl) only [VC, T, Nat.reduceMul, Nat.reduceAdd, Nat.reduceSub, Nat.reduceLT, Nat.reduceEqDiff, Nat.reduceLeDiff, Nat.reduceBEq, reduceCtorEq, Int.reduceToNat, ↓reduceIte, rsP, caseP, beq_self_eq_true, tiP, hiP, hz])
    repeat' (first
      | (refine br_go (fun e f => ?_) (fun e f => ?_) <;> (try simp only [BB] at f) <;> (try simp only [numOk, verOk] at f) <;> (try simp (maxSteps := 1000000) (disch := first | omega | (simp only [LN, numOk, verOk, rsP, caseP, beq_self_eq_true, tiP, hiP, hz] <;> omega) | exact Ck.mk rfl) only [e, VC, T, Nat.reduceMul, Nat.reduceAdd, Nat.reduceSub, Nat.reduceLT, Nat.reduceEqDiff, Nat.reduceLeDiff, Nat.reduceBEq, reduceCtorEq, Int.reduceToNat, ↓reduceIte, rsP, caseP, beq_self_eq_true, tiP, hiP, hz]) <;> (try clear e))
      | (refine pick_go (fun e f => ?_) (fun e f => ?_) <;> (try simp only [BB] at f) <;> (try simp only [numOk, verOk] at f) <;> (try simp (maxSteps := 1000000) (disch := first | omega | (simp only [LN, numOk, verOk, rsP, caseP, beq_self_eq_true, tiP, hiP, hz] <;> omega) | exact Ck.mk rfl) only [e, VC, T, Nat.reduceMul, Nat.reduceAdd, Nat.reduceSub, Nat.reduceLT, Nat.reduceEqDiff, Nat.reduceLeDiff, Nat.reduceBEq, reduceCtorEq, Int.reduceToNat, ↓reduceIte, rsP, caseP, beq_self_eq_true, tiP, hiP, hz]) <;> (try clear e))
      | ((first | refine dr_go mixed (id := 6) [([], [], [])] rfl rfl rfl ?_ | refine call_x (hR) rfl ⟨rfl⟩ ?_ | refine call_x (hR2) rfl ⟨rfl⟩ ?_ | (refine call_hx [] [1664] (x1) (by decide) ?_ rfl ?_; (focus (first | rfl | (simp (maxSteps := 1000000) (disch := first | omega | (simp only [LN, numOk, verOk, rsP, caseP, beq_self_eq_true, tiP, hiP, hz] <;> omega) | exact Ck.mk rfl) only [VC, T, Nat.reduceMul, Nat.reduceAdd, Nat.reduceSub, Nat.reduceLT, Nat.reduceEqDiff, Nat.reduceLeDiff, Nat.reduceBEq, reduceCtorEq, Int.reduceToNat, ↓reduceIte, rsP, caseP, beq_self_eq_true, tiP, hiP, hz]; done)))) | (refine call_hx [] [2304] (x2) (by decide) ?_ rfl ?_; (focus (first | rfl | (simp (maxSteps := 1000000) (disch := first | omega | (simp only [LN, numOk, verOk, rsP, caseP, beq_self_eq_true, tiP, hiP, hz] <;> omega) | exact Ck.mk rfl) only [VC, T, Nat.reduceMul, Nat.reduceAdd, Nat.reduceSub, Nat.reduceLT, Nat.reduceEqDiff, Nat.reduceLeDiff, Nat.reduceBEq, reduceCtorEq, Int.reduceToNat, ↓reduceIte, rsP, caseP, beq_self_eq_true, tiP, hiP, hz]; done)))) | refine call_x (y1) rfl ⟨rfl⟩ ?_ | refine call_x (y2) rfl ⟨rfl⟩ ?_); (try simp (maxSteps := 1000000) (disch := first | omega | (simp only [LN, numOk, verOk, rsP, caseP, beq_self_eq_true, tiP, hiP, hz] <;> omega) | exact Ck.mk rfl) only [VC, T, Nat.reduceMul, Nat.reduceAdd, Nat.reduceSub, Nat.reduceLT, Nat.reduceEqDiff, Nat.reduceLeDiff, Nat.reduceBEq, reduceCtorEq, Int.reduceToNat, ↓reduceIte, rsP, caseP, beq_self_eq_true, tiP, hiP, hz])))
    · simp
    · exact absurd hz f
  · obtain ⟨v2, s2, b2, l2, hk, ht, hb2⟩ := reseal_form b v hz
    have hS := spec_RecordsIn b (by omega)
    have hl := (scan_f b).2.2.2.2.1
    have hle := fun v => sealT_le v s2 b2 l2 (scan b).2.2.2.2.2.1
    have hO := spec_SealedOk b (by omega)
    rw [sok] at hO
    generalize (scan b).2.2.2.2.2.1 = rs at *
    have hT := spec_SealedOk (sealT v2 s2 b2 l2 rs) (Nat.le_trans (hle _) (by decide))
    rw [seal_back hk] at hT
    have hS2 := spec_RecordsIn (sealT v2 s2 b2 l2 rs) (Nat.le_trans (hle _) (by decide))
    rw [scan_seal _ _ _ _ _ hk] at hS2
    have q0 := impl_Resealed (sealT v2 s2 b2 l2 rs) 0 (Nat.le_trans (hle _) (by decide))
    have q1 := impl_Resealed (sealT v2 s2 b2 l2 rs) 1 (Nat.le_trans (hle _) (by decide))
    have q2 := impl_Resealed (sealT v2 s2 b2 l2 rs) 2 (Nat.le_trans (hle _) (by decide))
    have q3 := impl_Resealed (sealT 1 s2 b2 l2 rs) 2 (Nat.le_trans (hle _) (by decide))
    rw [reseal_seal hk _ (Or.inl rfl), if_pos rfl] at q0
    rw [reseal_seal hk _ (Or.inr (by decide)), if_neg (by decide)] at q1 q2
    rw [reseal_seal (sealOk_ver hk 1 (by decide)) _ (Or.inr (by decide)), if_neg (by decide)] at q3
    rw [ht] at hR hR2 hz hb2
    generalize sealT v2 s2 b2 l2 rs = t at *
    generalize sealT 1 s2 b2 l2 rs = t1 at *
    generalize sealT 2 s2 b2 l2 rs = t2 at *
    (try simp (maxSteps := 1000000) (disch := first | omega | (simp only [LN, numOk, verOk, rsP, caseP, beq_self_eq_true, tiP, hiP] <;> omega) | exact Ck.mk rfl) only [VC, T, Nat.reduceMul, Nat.reduceAdd, Nat.reduceSub, Nat.reduceLT, Nat.reduceEqDiff, Nat.reduceLeDiff, Nat.reduceBEq, reduceCtorEq, Int.reduceToNat, ↓reduceIte, rsP, caseP, beq_self_eq_true, tiP, hiP])
    repeat' (first
      | (refine br_go (fun e f => ?_) (fun e f => ?_) <;> (try simp only [BB] at f) <;> (try simp only [numOk, verOk] at f) <;> (try simp (maxSteps := 1000000) (disch := first | omega | (simp only [LN, numOk, verOk, rsP, caseP, beq_self_eq_true, tiP, hiP] <;> omega) | exact Ck.mk rfl) only [e, VC, T, Nat.reduceMul, Nat.reduceAdd, Nat.reduceSub, Nat.reduceLT, Nat.reduceEqDiff, Nat.reduceLeDiff, Nat.reduceBEq, reduceCtorEq, Int.reduceToNat, ↓reduceIte, rsP, caseP, beq_self_eq_true, tiP, hiP]) <;> (try clear e))
      | (refine pick_go (fun e f => ?_) (fun e f => ?_) <;> (try simp only [BB] at f) <;> (try simp only [numOk, verOk] at f) <;> (try simp (maxSteps := 1000000) (disch := first | omega | (simp only [LN, numOk, verOk, rsP, caseP, beq_self_eq_true, tiP, hiP] <;> omega) | exact Ck.mk rfl) only [e, VC, T, Nat.reduceMul, Nat.reduceAdd, Nat.reduceSub, Nat.reduceLT, Nat.reduceEqDiff, Nat.reduceLeDiff, Nat.reduceBEq, reduceCtorEq, Int.reduceToNat, ↓reduceIte, rsP, caseP, beq_self_eq_true, tiP, hiP]) <;> (try clear e))
      | ((first | refine dr_go mixed (id := 6) [([], [], [])] rfl rfl rfl ?_ | refine call_x (hR) rfl ⟨rfl⟩ ?_ | refine call_x (hR2) rfl ⟨rfl⟩ ?_ | refine call_x (hT) rfl ⟨rfl⟩ ?_ | refine call_x (hS) rfl ⟨rfl⟩ ?_ | refine call_x (hS2) rfl ⟨rfl⟩ ?_ | refine call_x (hO) rfl ⟨rfl⟩ ?_ | refine call_x (q0) rfl ⟨rfl⟩ ?_ | refine call_x (q1) rfl ⟨rfl⟩ ?_ | refine call_x (q2) rfl ⟨rfl⟩ ?_ | refine call_x (q3) rfl ⟨rfl⟩ ?_ | refine call_x (laws_sameStr _ _ (by omega)) rfl ⟨rfl⟩ ?_); (try simp (maxSteps := 1000000) (disch := first | omega | (simp only [LN, numOk, verOk, rsP, caseP, beq_self_eq_true, tiP, hiP] <;> omega) | exact Ck.mk rfl) only [VC, T, Nat.reduceMul, Nat.reduceAdd, Nat.reduceSub, Nat.reduceLT, Nat.reduceEqDiff, Nat.reduceLeDiff, Nat.reduceBEq, reduceCtorEq, Int.reduceToNat, ↓reduceIte, rsP, caseP, beq_self_eq_true, tiP, hiP])))
    · exact absurd f hz
    · rename_i f1
      rw [decide_eq_true (hb2 f1 f)]
end Go.Pv

/- What functions of the program and of the reference do, in plain values. -/
namespace Go.Pv
open Go.Proofs Go.Mth
set_option linter.unusedSimpArgs false
set_option linter.unusedVariables false
set_option maxHeartbeats 4000000

/-! ### the law of seeking -/
theorem plc_low (s : Int) : ∀ (l : List Int) (j : Nat) (p : Int × Int), p ∈ plc (fun a b => (a, b)) s l j → (j : Int) ≤ p.1
  | [], _, p, h => by simp [plc] at h
  | x :: l, j, p, h => by
    unfold plc at h
    split at h
    · rcases List.mem_cons.1 h with rfl | h
      · exact Int.le_refl _
      · have := plc_low s l (j + 1) p h; omega
    · have := plc_low s l (j + 1) p h; omega
theorem pfor_high (s k : Int) : ∀ (l : List Int) (j : Nat) (m : Int), m % s = 0 → (j : Int) ≤ m → m ≤ k → m < j + l.length → (pfor k (plc (fun a b => (a, b)) s l j)).2 = true ∧ m ≤ (pfor k (plc (fun a b => (a, b)) s l j)).1.1
  | [], j, m, _, h1, _, h3 => by simp at h3; omega
  | x :: l, j, m, h0, h1, h2, h3 => by
    rw [List.length_cons] at h3
    unfold plc
    split
    · rename_i hj
      unfold pfor
      by_cases hm : m = j
      · by_cases hr : (pfor k (plc (fun a b => (a, b)) s l (j + 1))).2 = true
        · rw [if_pos hr]
          have := plc_low s l (j + 1) _ (pfor_in k _ hr).1
          exact ⟨hr, by omega⟩
        · rw [if_neg hr, if_pos (show ((j : Int), x).1 ≤ k by simp only; omega)]
          exact ⟨rfl, by simp only; omega⟩
      · have ih := pfor_high s k l (j + 1) m h0 (by omega) h2 (by omega)
        rw [if_pos ih.1]
        exact ih
    · rename_i hj
      exact pfor_high s k l (j + 1) m h0 (by
        have : m ≠ j := fun e => hj (by rw [← e]; exact h0)
        omega) h2 (by omega)
theorem reads_in (s k : Int) (os : List Int) (hs : 1 ≤ s) (h0 : 0 ≤ k) (h1 : k < os.length) : 1 ≤ k - (pfor k (placesP s os)).1.1 + 1 ∧ k - (pfor k (placesP s os)).1.1 + 1 ≤ s := by
  have e1 := Int.emod_nonneg k (show s ≠ 0 by omega)
  have e2 := Int.emod_lt_of_pos k (show 0 < s by omega)
  have e4 := Int.emod_add_mul_ediv k s
  have e3 : (k - k % s) % s = 0 := by
    rw [show k - k % s = s * (k / s) by omega]
    exact Int.mul_emod_right _ _
  have hm : 0 ≤ k - k % s := by
    rw [show k - k % s = s * (k / s) by omega]
    exact Int.mul_nonneg (by omega) (Int.ediv_nonneg h0 (by omega))
  have := pfor_high s k os 0 (k - k % s) e3 (by omega) (by omega) (by omega)
  have h2 := pfor_in k _ this.1
  unfold placesP placesOf
  rw [if_neg (by omega)]
  omega
theorem seek_ok (b : ByteArray) (i : Int) (h : (seekT b i).2 = true) : (1 ≤ readsT b i ∧ readsT b i ≤ (rHead b).2.1) ∧ (0 ≤ i - (rHead b).2.2.1 ∧ i - (rHead b).2.2.1 < (scan b).2.2.2.2.2.1.length) ∧ (seekT b i).1 = (scan b).2.2.2.2.2.1.getD (i - (rHead b).2.2.1).toNat default := by
  unfold seekT at h ⊢
  split at h
  · rename_i hc
    rw [if_pos hc]
    obtain ⟨c1, c2, c3⟩ := hc
    have hs := c1
    rw [sok] at hs
    have e : rSealed b = (((scan b).2.1, (scan b).2.2.1, (scan b).2.2.2.1, (scan b).2.2.2.2.1), (scan b).2.2.2.2.2.1, true) := by unfold rSealed; rw [if_pos hs]
    rw [e] at c2 c3
    simp only at c2 c3
    obtain ⟨k1, k2, k3, k4, k5⟩ := scan_head b (sealed_ok b hs).1
    have hk := (rHead_ok b k1).2.1
    have hf := scan_f b
    rw [e]
    unfold readsT
    rw [if_pos ⟨hs, c2, c3⟩, ← k3, ← k4]
    rw [← k3] at hk
    refine ⟨reads_in _ _ _ hk.2.1.1 (by omega) (by rw [hf.2.2.2.1]; omega), ⟨by omega, by omega⟩, rfl⟩
  · cases h
theorem reads_1 : readsT (sealT 1 2 0 0 [⟨#[97]⟩, ⟨#[98]⟩, ⟨#[99]⟩]) 1 = 2 := by decide +kernel
theorem reads_2 : readsT (sealT 1 2 0 0 [⟨#[97]⟩, ⟨#[98]⟩, ⟨#[99]⟩]) 2 = 1 := by decide +kernel
set_option maxRecDepth 20000 in
theorem law_FnSeeks (code : List Int) (hc : code.length ≤ 9223372036854775807 ∧ ∀ a ∈ code, (Lit.int .u8 a).wf = true) : Fn Try.prog 9 [.far (code.map (.int .u8))] [] (.bool true) [] := by
  have x1 := spec_SealText 1 2 0 0 [⟨#[97]⟩, ⟨#[98]⟩, ⟨#[99]⟩] (by decide) (by decide)
  have y1 := impl_ReadsFor (sealT 1 2 0 0 [⟨#[97]⟩, ⟨#[98]⟩, ⟨#[99]⟩]) 1 (Nat.le_trans (sealT_le _ _ _ _ _) (by decide)) (by unfold i64; decide)
  have y2 := impl_ReadsFor (sealT 1 2 0 0 [⟨#[97]⟩, ⟨#[98]⟩, ⟨#[99]⟩]) 2 (Nat.le_trans (sealT_le _ _ _ _ _) (by decide)) (by unfold i64; decide)
  rw [reads_1] at y1
  rw [reads_2] at y2
  generalize sealT 1 2 0 0 [⟨#[97]⟩, ⟨#[98]⟩, ⟨#[99]⟩] = z1 at *
  refine fn_x tok (n := 164) (rs := [.tmp 2]) Try.func9 (by decide) rfl rfl rfl rfl ?_
  (try simp (maxSteps := 1000000) (disch := first | omega | (simp only [LN, numOk, verOk, rsP, caseP, beq_self_eq_true, tiP, hiP, skP, liP, plI, pfP, rhP] <;> omega) | exact Ck.mk rfl) only [VC, T, Nat.reduceMul, Nat.reduceAdd, Nat.reduceSub, Nat.reduceLT, Nat.reduceEqDiff, Nat.reduceLeDiff, Nat.reduceBEq, reduceCtorEq, Int.reduceToNat, ↓reduceIte, rsP, caseP, beq_self_eq_true, tiP, hiP, skP, liP, plI, pfP, rhP])
  repeat' (first
    | (refine br_go (fun e f => ?_) (fun e f => ?_) <;> (try simp only [BB] at f) <;> (try simp only [numOk, verOk] at f) <;> (try simp (maxSteps := 1000000) (disch := first | omega | (simp only [LN, numOk, verOk, rsP, caseP, beq_self_eq_true, tiP, hiP, skP, liP, plI, pfP, rhP] <;> omega) | exact Ck.mk rfl) only [e, VC, T, Nat.reduceMul, Nat.reduceAdd, Nat.reduceSub, Nat.reduceLT, Nat.reduceEqDiff, Nat.reduceLeDiff, Nat.reduceBEq, reduceCtorEq, Int.reduceToNat, ↓reduceIte, rsP, caseP, beq_self_eq_true, tiP, hiP, skP, liP, plI, pfP, rhP]) <;> (try clear e))
    | (refine pick_go (fun e f => ?_) (fun e f => ?_) <;> (try simp only [BB] at f) <;> (try simp only [numOk, verOk] at f) <;> (try simp (maxSteps := 1000000) (disch := first | omega | (simp only [LN, numOk, verOk, rsP, caseP, beq_self_eq_true, tiP, hiP, skP, liP, plI, pfP, rhP] <;> omega) | exact Ck.mk rfl) only [e, VC, T, Nat.reduceMul, Nat.reduceAdd, Nat.reduceSub, Nat.reduceLT, Nat.reduceEqDiff, Nat.reduceLeDiff, Nat.reduceBEq, reduceCtorEq, Int.reduceToNat, ↓reduceIte, rsP, caseP, beq_self_eq_true, tiP, hiP, skP, liP, plI, pfP, rhP]) <;> (try clear e))
    | ((first | refine call_x (laws_big _ hc.1) rfl ⟨rfl⟩ ?_); (try simp (maxSteps := 1000000) (disch := first | omega | (simp only [LN, numOk, verOk, rsP, caseP, beq_self_eq_true, tiP, hiP, skP, liP, plI, pfP, rhP] <;> omega) | exact Ck.mk rfl) only [VC, T, Nat.reduceMul, Nat.reduceAdd, Nat.reduceSub, Nat.reduceLT, Nat.reduceEqDiff, Nat.reduceLeDiff, Nat.reduceBEq, reduceCtorEq, Int.reduceToNat, ↓reduceIte, rsP, caseP, beq_self_eq_true, tiP, hiP, skP, liP, plI, pfP, rhP])))
  refine call_v (DrawSeekRecord code (code_bytes hc f)) rfl ?_
  rintro _ ⟨b, i, rfl, hb, hi⟩
  refine ⟨⟨rfl⟩, ?_⟩
  unfold SzIn at hb
  have a1 := impl_SeekRecord b i (by omega) hi
  have a2 := spec_SeekRecord b i (by omega) hi
  have a3 := impl_OffsetOf b i (by omega) hi
  have a4 := spec_OffsetOf b i (by omega) hi
  have a5 := impl_ReadsFor b i (by omega) hi
  have a6 := spec_ReadsFor b i (by omega) hi
  have a7 := impl_ListIn b (by omega)
  have a8 := spec_ListIn b (by omega)
  have a9 := spec_ReadHead b (by omega)
  have a10 := spec_RecordsIn b (by omega)
  have hll : (listT b).1.length ≤ b.size := by
    unfold listT
    split
    · have h := scan_f b
      have : (placesP (scan b).2.2.1 (scan b).2.2.2.2.2.2.1).length ≤ (scan b).2.2.2.2.2.2.1.length := placesOf_le _ _ _
      have h4 := h.2.2.2.1
      have h5 := h.2.2.2.2.1
      simp only
      omega
    · exact Nat.zero_le _
  have hk := seek_ok b i
  have hrs := (scan_f b).2.2.2.2.1
  generalize seekT b i = sk at *
  generalize offT b i = o at *
  generalize readsT b i = n at *
  generalize listT b = li at *
  generalize rHead b = hd at *
  generalize (scan b).2.2.2.2.2.1 = rs at *
  obtain ⟨r, ok⟩ := sk
  obtain ⟨ls, is⟩ := li
  obtain ⟨v, s, base, l, hok⟩ := hd
  simp only at hk hll
  unfold i64 at hi
  (try simp (maxSteps := 1000000) (disch := first | omega | (simp only [LN, numOk, verOk, rsP, caseP, beq_self_eq_true, tiP, hiP, skP, liP, plI, pfP, rhP] <;> omega) | exact Ck.mk rfl) only [VC, T, Nat.reduceMul, Nat.reduceAdd, Nat.reduceSub, Nat.reduceLT, Nat.reduceEqDiff, Nat.reduceLeDiff, Nat.reduceBEq, reduceCtorEq, Int.reduceToNat, ↓reduceIte, rsP, caseP, beq_self_eq_true, tiP, hiP, skP, liP, plI, pfP, rhP])
  repeat' (first
    | (refine br_go (fun e f => ?_) (fun e f => ?_) <;> (try simp only [BB] at f) <;> (try simp only [numOk, verOk] at f) <;> (try simp (maxSteps := 1000000) (disch := first | omega | (simp only [LN, numOk, verOk, rsP, caseP, beq_self_eq_true, tiP, hiP, skP, liP, plI, pfP, rhP] <;> omega) | exact Ck.mk rfl) only [e, VC, T, Nat.reduceMul, Nat.reduceAdd, Nat.reduceSub, Nat.reduceLT, Nat.reduceEqDiff, Nat.reduceLeDiff, Nat.reduceBEq, reduceCtorEq, Int.reduceToNat, ↓reduceIte, rsP, caseP, beq_self_eq_true, tiP, hiP, skP, liP, plI, pfP, rhP]) <;> (try clear e))
    | (refine pick_go (fun e f => ?_) (fun e f => ?_) <;> (try simp only [BB] at f) <;> (try simp only [numOk, verOk] at f) <;> (try simp (maxSteps := 1000000) (disch := first | omega | (simp only [LN, numOk, verOk, rsP, caseP, beq_self_eq_true, tiP, hiP, skP, liP, plI, pfP, rhP] <;> omega) | exact Ck.mk rfl) only [e, VC, T, Nat.reduceMul, Nat.reduceAdd, Nat.reduceSub, Nat.reduceLT, Nat.reduceEqDiff, Nat.reduceLeDiff, Nat.reduceBEq, reduceCtorEq, Int.reduceToNat, ↓reduceIte, rsP, caseP, beq_self_eq_true, tiP, hiP, skP, liP, plI, pfP, rhP]) <;> (try clear e))
    | ((first | refine dr_go mixed (id := 6) [([], [5], []), ([], [7], []), ([0, 1], [43, 44], []), ([0, 1, 2], [45], []), ([0, 1, 2, 3], [6, 46], []), ([0, 1, 2, 3], [8, 46], []), ([0, 1, 2, 3, 4, 5], [46, 47, 48], []), ([0, 1, 2, 3, 4, 5, 6], [46, 49], []), ([0, 1, 2, 3, 4, 5, 6, 7], [50], []), ([0, 1, 2, 3, 4, 5, 6, 7, 8], [3, 51], []), ([0, 1, 2, 3, 4, 5, 6, 7, 8], [4, 51], []), ([0, 1, 2, 3, 4, 5, 6, 7, 8, 9, 10], [51, 52, 53], []), ([0, 1, 2, 3, 4, 5, 6, 7, 8], [3, 51], []), ([0, 1, 2, 3, 4, 5, 6, 7, 8], [4, 51], []), ([0, 1, 2, 3, 4, 5, 6, 7, 8, 9, 10, 11, 12, 13], [51, 55, 56], []), ([0, 1, 2, 3, 4, 5, 6, 7, 8, 9, 10, 11, 12, 13, 14], [51, 54, 57], []), ([0, 1, 2, 3, 4, 5, 6, 7, 8, 9, 10, 11, 12, 13, 14, 15], [51, 58], []), ([0, 1, 2, 3, 4, 5, 6, 7, 8, 9, 10, 11, 12, 13, 14, 15, 16], [59], []), ([0, 1, 2, 3, 4, 5, 6, 7, 8, 9, 10, 11, 12, 13, 14, 15, 16, 17], [3, 60], []), ([0, 1, 2, 3, 4, 5, 6, 7, 8, 9, 10, 11, 12, 13, 14, 15, 16, 17], [4, 60], []), ([0, 1, 2, 3, 4, 5, 6, 7, 8, 9, 10, 11, 12, 13, 14, 15, 16, 17, 18, 19], [60, 61, 62], []), ([0, 1, 2, 3, 4, 5, 6, 7, 8, 9, 10, 11, 12, 13, 14, 15, 16, 17], [3, 60], []), ([0, 1, 2, 3, 4, 5, 6, 7, 8, 9, 10, 11, 12, 13, 14, 15, 16, 17], [4, 60], []), ([0, 1, 2, 3, 4, 5, 6, 7, 8, 9, 10, 11, 12, 13, 14, 15, 16, 17, 18, 19, 20, 21, 22], [60, 64, 65], []), ([0, 1, 2, 3, 4, 5, 6, 7, 8, 9, 10, 11, 12, 13, 14, 15, 16, 17, 18, 19, 20, 21, 22, 23], [60, 63, 66], []), ([0, 1, 2, 3, 4, 5, 6, 7, 8, 9, 10, 11, 12, 13, 14, 15, 16, 17, 18, 19, 20, 21, 22, 23, 24], [60, 67], [])] rfl rfl rfl ?_ | refine call_x (a1) rfl ⟨rfl⟩ ?_ | refine call_x (a2) rfl ⟨rfl⟩ ?_ | refine call_x (a3) rfl ⟨rfl⟩ ?_ | refine call_x (a4) rfl ⟨rfl⟩ ?_ | refine call_x (a5) rfl ⟨rfl⟩ ?_ | refine call_x (a6) rfl ⟨rfl⟩ ?_ | refine call_x (a7) rfl ⟨rfl⟩ ?_ | refine call_x (a8) rfl ⟨rfl⟩ ?_ | refine call_x (laws_samePlaces _ _ (by omega)) rfl ⟨rfl⟩ ?_ | (refine call_v (DrawPlaceFor code (code_bytes hc (by assumption))) rfl ?_; rintro _ ⟨ps, k, rfl, hp1, hp2⟩; refine ⟨⟨rfl⟩, ?_⟩) | refine call_x (impl_PlaceFor _ _ (by omega)) rfl ⟨rfl⟩ ?_ | refine call_x (spec_PlaceFor _ _ (by omega)) rfl ⟨rfl⟩ ?_); (try simp (maxSteps := 1000000) (disch := first | omega | (simp only [LN, numOk, verOk, rsP, caseP, beq_self_eq_true, tiP, hiP, skP, liP, plI, pfP, rhP] <;> omega) | exact Ck.mk rfl) only [VC, T, Nat.reduceMul, Nat.reduceAdd, Nat.reduceSub, Nat.reduceLT, Nat.reduceEqDiff, Nat.reduceLeDiff, Nat.reduceBEq, reduceCtorEq, Int.reduceToNat, ↓reduceIte, rsP, caseP, beq_self_eq_true, tiP, hiP, skP, liP, plI, pfP, rhP])))
  · subst f
    obtain ⟨⟨n1, n2⟩, ⟨i1, i2⟩, hr⟩ := hk rfl
    subst hr
    have hw : IntKind.i64.wrap (i - base) = i - base := wsmall _ (by omega) (by omega)
    (try simp (maxSteps := 1000000) (disch := first | omega | (simp only [LN, numOk, verOk, rsP, caseP, beq_self_eq_true, tiP, hiP, skP, liP, plI, pfP, rhP, hw] <;> omega) | exact Ck.mk rfl) only [VC, T, Nat.reduceMul, Nat.reduceAdd, Nat.reduceSub, Nat.reduceLT, Nat.reduceEqDiff, Nat.reduceLeDiff, Nat.reduceBEq, reduceCtorEq, Int.reduceToNat, ↓reduceIte, rsP, caseP, beq_self_eq_true, tiP, hiP, skP, liP, plI, pfP, rhP, hw])
    repeat' (first
      | (refine br_go (fun e f => ?_) (fun e f => ?_) <;> (try simp only [BB] at f) <;> (try simp only [numOk, verOk] at f) <;> (try simp (maxSteps := 1000000) (disch := first | omega | (simp only [LN, numOk, verOk, rsP, caseP, beq_self_eq_true, tiP, hiP, skP, liP, plI, pfP, rhP, hw] <;> omega) | exact Ck.mk rfl) only [e, VC, T, Nat.reduceMul, Nat.reduceAdd, Nat.reduceSub, Nat.reduceLT, Nat.reduceEqDiff, Nat.reduceLeDiff, Nat.reduceBEq, reduceCtorEq, Int.reduceToNat, ↓reduceIte, rsP, caseP, beq_self_eq_true, tiP, hiP, skP, liP, plI, pfP, rhP, hw]) <;> (try clear e))
      | (refine pick_go (fun e f => ?_) (fun e f => ?_) <;> (try simp only [BB] at f) <;> (try simp only [numOk, verOk] at f) <;> (try simp (maxSteps := 1000000) (disch := first | omega | (simp only [LN, numOk, verOk, rsP, caseP, beq_self_eq_true, tiP, hiP, skP, liP, plI, pfP, rhP, hw] <;> omega) | exact Ck.mk rfl) only [e, VC, T, Nat.reduceMul, Nat.reduceAdd, Nat.reduceSub, Nat.reduceLT, Nat.reduceEqDiff, Nat.reduceLeDiff, Nat.reduceBEq, reduceCtorEq, Int.reduceToNat, ↓reduceIte, rsP, caseP, beq_self_eq_true, tiP, hiP, skP, liP, plI, pfP, rhP, hw]) <;> (try clear e))
      | ((first | refine dr_go mixed (id := 6) [([], [5], []), ([], [7], []), ([0, 1], [43, 44], []), ([0, 1, 2], [45], []), ([0, 1, 2, 3], [6, 46], []), ([0, 1, 2, 3], [8, 46], []), ([0, 1, 2, 3, 4, 5], [46, 47, 48], []), ([0, 1, 2, 3, 4, 5, 6], [46, 49], []), ([0, 1, 2, 3, 4, 5, 6, 7], [50], []), ([0, 1, 2, 3, 4, 5, 6, 7, 8], [3, 51], []), ([0, 1, 2, 3, 4, 5, 6, 7, 8], [4, 51], []), ([0, 1, 2, 3, 4, 5, 6, 7, 8, 9, 10], [51, 52, 53], []), ([0, 1, 2, 3, 4, 5, 6, 7, 8], [3, 51], []), ([0, 1, 2, 3, 4, 5, 6, 7, 8], [4, 51], []), ([0, 1, 2, 3, 4, 5, 6, 7, 8, 9, 10, 11, 12, 13], [51, 55, 56], []), ([0, 1, 2, 3, 4, 5, 6, 7, 8, 9, 10, 11, 12, 13, 14], [51, 54, 57], []), ([0, 1, 2, 3, 4, 5, 6, 7, 8, 9, 10, 11, 12, 13, 14, 15], [51, 58], []), ([0, 1, 2, 3, 4, 5, 6, 7, 8, 9, 10, 11, 12, 13, 14, 15, 16], [59], []), ([0, 1, 2, 3, 4, 5, 6, 7, 8, 9, 10, 11, 12, 13, 14, 15, 16, 17], [3, 60], []), ([0, 1, 2, 3, 4, 5, 6, 7, 8, 9, 10, 11, 12, 13, 14, 15, 16, 17], [4, 60], []), ([0, 1, 2, 3, 4, 5, 6, 7, 8, 9, 10, 11, 12, 13, 14, 15, 16, 17, 18, 19], [60, 61, 62], []), ([0, 1, 2, 3, 4, 5, 6, 7, 8, 9, 10, 11, 12, 13, 14, 15, 16, 17], [3, 60], []), ([0, 1, 2, 3, 4, 5, 6, 7, 8, 9, 10, 11, 12, 13, 14, 15, 16, 17], [4, 60], []), ([0, 1, 2, 3, 4, 5, 6, 7, 8, 9, 10, 11, 12, 13, 14, 15, 16, 17, 18, 19, 20, 21, 22], [60, 64, 65], []), ([0, 1, 2, 3, 4, 5, 6, 7, 8, 9, 10, 11, 12, 13, 14, 15, 16, 17, 18, 19, 20, 21, 22, 23], [60, 63, 66], []), ([0, 1, 2, 3, 4, 5, 6, 7, 8, 9, 10, 11, 12, 13, 14, 15, 16, 17, 18, 19, 20, 21, 22, 23, 24], [60, 67], [])] rfl rfl rfl ?_ | refine call_x (a5) rfl ⟨rfl⟩ ?_ | refine call_x (a9) rfl ⟨rfl⟩ ?_ | refine call_x (a10) rfl ⟨rfl⟩ ?_); (try simp (maxSteps := 1000000) (disch := first | omega | (simp only [LN, numOk, verOk, rsP, caseP, beq_self_eq_true, tiP, hiP, skP, liP, plI, pfP, rhP, hw] <;> omega) | exact Ck.mk rfl) only [VC, T, Nat.reduceMul, Nat.reduceAdd, Nat.reduceSub, Nat.reduceLT, Nat.reduceEqDiff, Nat.reduceLeDiff, Nat.reduceBEq, reduceCtorEq, Int.reduceToNat, ↓reduceIte, rsP, caseP, beq_self_eq_true, tiP, hiP, skP, liP, plI, pfP, rhP, hw])))
    simp
  · (try simp (maxSteps := 1000000) (disch := first | omega | (simp only [LN, numOk, verOk, rsP, caseP, beq_self_eq_true, tiP, hiP, skP, liP, plI, pfP, rhP] <;> omega) | exact Ck.mk rfl) only [VC, T, Nat.reduceMul, Nat.reduceAdd, Nat.reduceSub, Nat.reduceLT, Nat.reduceEqDiff, Nat.reduceLeDiff, Nat.reduceBEq, reduceCtorEq, Int.reduceToNat, ↓reduceIte, rsP, caseP, beq_self_eq_true, tiP, hiP, skP, liP, plI, pfP, rhP])
    repeat' (first
      | (refine br_go (fun e f => ?_) (fun e f => ?_) <;> (try simp only [BB] at f) <;> (try simp only [numOk, verOk] at f) <;> (try simp (maxSteps := 1000000) (disch := first | omega | (simp only [LN, numOk, verOk, rsP, caseP, beq_self_eq_true, tiP, hiP, skP, liP, plI, pfP, rhP] <;> omega) | exact Ck.mk rfl) only [e, VC, T, Nat.reduceMul, Nat.reduceAdd, Nat.reduceSub, Nat.reduceLT, Nat.reduceEqDiff, Nat.reduceLeDiff, Nat.reduceBEq, reduceCtorEq, Int.reduceToNat, ↓reduceIte, rsP, caseP, beq_self_eq_true, tiP, hiP, skP, liP, plI, pfP, rhP]) <;> (try clear e))
      | (refine pick_go (fun e f => ?_) (fun e f => ?_) <;> (try simp only [BB] at f) <;> (try simp only [numOk, verOk] at f) <;> (try simp (maxSteps := 1000000) (disch := first | omega | (simp only [LN, numOk, verOk, rsP, caseP, beq_self_eq_true, tiP, hiP, skP, liP, plI, pfP, rhP] <;> omega) | exact Ck.mk rfl) only [e, VC, T, Nat.reduceMul, Nat.reduceAdd, Nat.reduceSub, Nat.reduceLT, Nat.reduceEqDiff, Nat.reduceLeDiff, Nat.reduceBEq, reduceCtorEq, Int.reduceToNat, ↓reduceIte, rsP, caseP, beq_self_eq_true, tiP, hiP, skP, liP, plI, pfP, rhP]) <;> (try clear e))
      | ((first | refine dr_go mixed (id := 6) [([], [5], []), ([], [7], []), ([0, 1], [43, 44], []), ([0, 1, 2], [45], []), ([0, 1, 2, 3], [6, 46], []), ([0, 1, 2, 3], [8, 46], []), ([0, 1, 2, 3, 4, 5], [46, 47, 48], []), ([0, 1, 2, 3, 4, 5, 6], [46, 49], []), ([0, 1, 2, 3, 4, 5, 6, 7], [50], []), ([0, 1, 2, 3, 4, 5, 6, 7, 8], [3, 51], []), ([0, 1, 2, 3, 4, 5, 6, 7, 8], [4, 51], []), ([0, 1, 2, 3, 4, 5, 6, 7, 8, 9, 10], [51, 52, 53], []), ([0, 1, 2, 3, 4, 5, 6, 7, 8], [3, 51], []), ([0, 1, 2, 3, 4, 5, 6, 7, 8], [4, 51], []), ([0, 1, 2, 3, 4, 5, 6, 7, 8, 9, 10, 11, 12, 13], [51, 55, 56], []), ([0, 1, 2, 3, 4, 5, 6, 7, 8, 9, 10, 11, 12, 13, 14], [51, 54, 57], []), ([0, 1, 2, 3, 4, 5, 6, 7, 8, 9, 10, 11, 12, 13, 14, 15], [51, 58], []), ([0, 1, 2, 3, 4, 5, 6, 7, 8, 9, 10, 11, 12, 13, 14, 15, 16], [59], []), ([0, 1, 2, 3, 4, 5, 6, 7, 8, 9, 10, 11, 12, 13, 14, 15, 16, 17], [3, 60], []), ([0, 1, 2, 3, 4, 5, 6, 7, 8, 9, 10, 11, 12, 13, 14, 15, 16, 17], [4, 60], []), ([0, 1, 2, 3, 4, 5, 6, 7, 8, 9, 10, 11, 12, 13, 14, 15, 16, 17, 18, 19], [60, 61, 62], []), ([0, 1, 2, 3, 4, 5, 6, 7, 8, 9, 10, 11, 12, 13, 14, 15, 16, 17], [3, 60], []), ([0, 1, 2, 3, 4, 5, 6, 7, 8, 9, 10, 11, 12, 13, 14, 15, 16, 17], [4, 60], []), ([0, 1, 2, 3, 4, 5, 6, 7, 8, 9, 10, 11, 12, 13, 14, 15, 16, 17, 18, 19, 20, 21, 22], [60, 64, 65], []), ([0, 1, 2, 3, 4, 5, 6, 7, 8, 9, 10, 11, 12, 13, 14, 15, 16, 17, 18, 19, 20, 21, 22, 23], [60, 63, 66], []), ([0, 1, 2, 3, 4, 5, 6, 7, 8, 9, 10, 11, 12, 13, 14, 15, 16, 17, 18, 19, 20, 21, 22, 23, 24], [60, 67], [])] rfl rfl rfl ?_ | (refine call_hx [] [7488] (x1) (by decide) ?_ rfl ?_; (focus (first | rfl | (simp (maxSteps := 1000000) (disch := first | omega | (simp only [LN, numOk, verOk, rsP, caseP, beq_self_eq_true, tiP, hiP, skP, liP, plI, pfP, rhP] <;> omega) | exact Ck.mk rfl) only [VC, T, Nat.reduceMul, Nat.reduceAdd, Nat.reduceSub, Nat.reduceLT, Nat.reduceEqDiff, Nat.reduceLeDiff, Nat.reduceBEq, reduceCtorEq, Int.reduceToNat, ↓reduceIte, rsP, caseP, beq_self_eq_true, tiP, hiP, skP, liP, plI, pfP, rhP]; done)))) | refine call_x (y1) rfl ⟨rfl⟩ ?_ | refine call_x (y2) rfl ⟨rfl⟩ ?_); (try simp (maxSteps := 1000000) (disch := first | omega | (simp only [LN, numOk, verOk, rsP, caseP, beq_self_eq_true, tiP, hiP, skP, liP, plI, pfP, rhP] <;> omega) | exact Ck.mk rfl) only [VC, T, Nat.reduceMul, Nat.reduceAdd, Nat.reduceSub, Nat.reduceLT, Nat.reduceEqDiff, Nat.reduceLeDiff, Nat.reduceBEq, reduceCtorEq, Int.reduceToNat, ↓reduceIte, rsP, caseP, beq_self_eq_true, tiP, hiP, skP, liP, plI, pfP, rhP])))
    simp
  · simp at f
end Go.Pv

/- What a law's contract in plain values says of its walk. -/
namespace Go.Pv

variable {P : Program}
theorem kp_below {Γ : Nat → Value} {w w' : World} (h : Kp (Ow Γ []) w w') : Go.RowKit.Below w.heap.size w w' :=
  ⟨h.os, h.tape, h.output, h.size, fun k hk => h.block k hk fun ⟨_, l, _⟩ => l.elim⟩
/-- Nothing is handed over. -/
def No : Bl := fun _ => False
def Ga : Nat → Value := fun _ => .bool false
/-- The arguments of a law. -/
def Lay (w : World) (args : List PV) (vs : List Value) : Prop := vs.length = args.length ∧ ∀ (i : Nat) (x : PV) (v : Value), args[i]? = some x → vs[i]? = some v → DR w No x v
theorem lay_nil {w : World} : Lay w [] [] := ⟨rfl, fun _ _ _ h => by simp at h⟩
theorem lay_cons {w : World} {x : PV} {v : Value} {xs : List PV} {vs : List Value} (h : DR w No x v) (k : Lay w xs vs) : Lay w (x :: xs) (v :: vs) :=
  ⟨congrArg (· + 1) k.1, fun i y u h1 h2 => by
    cases i with
    | zero => simp at h1 h2; obtain rfl := h1; obtain rfl := h2; exact h
    | succ i => exact k.2 i y u (by simpa using h1) (by simpa using h2)⟩
theorem Fn.law {f : FuncId} {args : List PV} {vs : List Value} {w : World} {b : Bool} (h : Fn P f args [] (.bool b) []) (hl : Lay w args vs) :
    Calls P f vs.toArray w fun e w' => e = .returned (.bool b) ∧ Go.RowKit.Below w.heap.size w w' := by
  have no : ∀ b, ¬ Av No Ga [] b := fun b hb => hb.elim id fun ⟨_, l, _⟩ => l
  refine (h.run w No Ga vs.toArray (fun _ h => h.elim) (by simpa using hl.1) (fun i x hx => ?_) (fun _ => trivial) fun _ _ _ l => l.elim).mono ?_
  · have hi : i < vs.length := by
      rw [hl.1]
      exact (List.getElem?_eq_some_iff.1 hx).1
    have e := hl.2 i x vs[i] hx (List.getElem?_eq_getElem hi)
    have g : vs.toArray.getD i undef = vs[i] := by simp [Array.getD, hi]
    rw [g]
    exact .data (e.step (fun _ _ _ => rfl) fun b _ hb => (no b hb).elim)
  · rintro e w' ⟨v, Γ', rfl, h1, h2, _⟩
    refine ⟨?_, kp_below h1⟩
    cases h2 with
    | data h => cases h; rfl
end Go.Pv

/- A law's arguments, opened: whole numbers, texts, slices and structs of them. -/
namespace Go.Pv
open Go.RowKit Go.WideShapes

section
variable {H : Type} {enc : TypeId × Value → H} {P : Program} {w : World} {α β : Type}

/-- What is read at type t, out of k cells, is 'f a', for an a of which R holds. -/
def Opn (enc : TypeId × Value → H) (P : Program) (w : World) (t : TypeId) (k : Nat) (f : α → PV) (R : α → Prop) : Prop :=
  ∀ (fuel : Nat) (cs : List Value) (d : DataW H × List MemPlace), DataW.trod enc P w 0 (fun _ => true) true fuel t cs = some d →
    cs.length = k ∧ ∃ a, R a ∧ (flat (f a)).length = k ∧ ∀ (j : Nat) (y : PV), (flat (f a))[j]? = some y → DR w No y (cs.getD j undef)
theorem one_dr {x : PV} {v : Value} (hx : flat x = [x]) (h : DR w No x v) : (flat x).length = 1 ∧ ∀ (j : Nat) (y : PV), (flat x)[j]? = some y → DR w No y ([v].getD j undef) := by
  rw [hx]
  refine ⟨rfl, fun j y hy => ?_⟩
  cases j with
  | zero => cases hy; exact h
  | succ j => simp at hy
theorem opn_int {t : TypeId} {k : IntKind} (ht : P.underlying t = some (.int k)) : Opn enc P w t 1 (PV.int k) (fun n => (Lit.int k n).wf = true) := fun fuel cs d h => by
  obtain ⟨n, rfl, _, hw⟩ := DataW.trod_int ht h
  exact ⟨rfl, n, hw, one_dr rfl (.int k n)⟩
theorem int_wf {n : Int} (h : (Lit.int .i64 n).wf = true) : -9223372036854775808 ≤ n ∧ n ≤ 9223372036854775807 := by
  simp only [Lit.wf, Bool.and_eq_true, decide_eq_true_eq] at h
  exact h
theorem opn_i64 {t : TypeId} (ht : P.underlying t = some (.int .i64)) : Opn enc P w t 1 (PV.int .i64) (fun n => -9223372036854775808 ≤ n ∧ n ≤ 9223372036854775807) := fun fuel cs d h => by
  obtain ⟨h1, a, h2, h3⟩ := opn_int ht fuel cs d h
  exact ⟨h1, a, int_wf h2, h3⟩
theorem opn_bool {t : TypeId} (ht : P.underlying t = some .bool) : Opn enc P w t 1 PV.bool (fun _ => True) := fun fuel cs d h => by
  obtain ⟨n, rfl, _⟩ := DataW.trod_bool ht h
  exact ⟨rfl, n, trivial, one_dr rfl (.bool n)⟩
theorem opn_str {t : TypeId} (ht : P.underlying t = some .string) : Opn enc P w t 1 PV.str (fun s => s.size ≤ 9223372036854775807) := fun fuel cs d h => by
  obtain ⟨s, rfl, _, hs⟩ := DataW.trod_string ht h
  exact ⟨rfl, s, hs, one_dr rfl (.str s)⟩
theorem all_list {Q : Nat → α → Prop} : ∀ (n : Nat), (∀ i, i < n → ∃ a, Q i a) → ∃ l : List α, l.length = n ∧ ∀ i a, l[i]? = some a → Q i a
  | 0, _ => ⟨[], rfl, fun i a h => by simp at h⟩
  | n + 1, h => by
    obtain ⟨l, h1, h2⟩ := all_list n fun i hi => h i (by omega)
    obtain ⟨a, ha⟩ := h n (by omega)
    refine ⟨l ++ [a], by simp [h1], fun i x hx => ?_⟩
    by_cases hi : i < l.length
    · rw [List.getElem?_append_left hi] at hx; exact h2 i x hx
    · rw [List.getElem?_append_right (by omega)] at hx
      by_cases e : i = l.length
      · subst e; rw [Nat.sub_self] at hx; cases hx; rw [h1]; exact ha
      · rw [show i - l.length = (i - l.length - 1) + 1 by omega] at hx; simp at hx
theorem opn_slice {t e : TypeId} {k : Nat} {f : α → PV} {R : α → Prop} (ht : P.underlying t = some (.slice e)) (hk : P.cellsOf e = k) (h0 : 0 < k) (he : Opn enc P w e k f R) :
    Opn enc P w t 1 (fun l : List α => .far (l.map f)) (fun l => l.length ≤ 9223372036854775807 ∧ ∀ a ∈ l, R a) := fun fuel cs d h => by
  rcases DataW.trod_slice ht h with ⟨rfl, _⟩ | ⟨a, len, cap, elems, rest, n, _, rfl, _, _, hl, hm, hlen, hel, _, _⟩
  · exact ⟨rfl, [], ⟨by simp, by simp⟩, one_dr rfl (.far0 _ _)⟩
  · refine ⟨rfl, ?_⟩
    rw [hk] at hel
    have each : ∀ i, i < len → ∃ x, R x ∧ (flat (f x)).length = k ∧ ∀ (j : Nat) (y : PV), (flat (f x))[j]? = some y → ∃ v, w.cell? ((a.add (i * k)).add j) = some v ∧ DR w No y v := fun i hi => by
      have h1 := hel i hi
      rw [List.getElem?_eq_getElem (by omega), Option.bind_eq_some_iff] at h1
      obtain ⟨cs, h2, h3⟩ := h1
      obtain ⟨h4, x, h5, h6, h7⟩ := he _ _ _ h3
      refine ⟨x, h5, h6, fun j y hy => ?_⟩
      have hj : j < k := by rw [← h6]; exact (List.getElem?_eq_some_iff.1 hy).1
      unfold World.cells? at h2
      rw [if_pos (Nat.zero_le _)] at h2
      have h8 := mapM_some_get h2 j j (by simp [hj])
      rw [List.getElem?_eq_getElem (by omega)] at h8
      refine ⟨_, h8, ?_⟩
      have := h7 j y hy
      rw [List.getD_eq_getElem?_getD, List.getElem?_eq_getElem (by omega)] at this
      exact this
    obtain ⟨l, h1, h2⟩ := all_list len each
    refine ⟨l, ⟨by rw [h1]; exact Nat.le_trans hl hm, fun x hx => ?_⟩, one_dr rfl ?_⟩
    · obtain ⟨i, hi⟩ := List.getElem?_of_mem hx
      exact (h2 i x hi).1
    · by_cases hz : len = 0
      · obtain rfl : l = [] := List.eq_nil_of_length_eq_zero (by omega)
        subst hz
        exact .far0 _ _
      · obtain ⟨β, o, spot⟩ := a
        have cell : ∀ (i : Nat) (x : α) (j : Nat) (y : PV), l[i]? = some x → (flat (f x))[j]? = some y → ∃ v, w.cell? ⟨β, o + i * k + j, if i * k = 0 ∧ j = 0 then spot else none⟩ = some v ∧ DR w No y v := fun i x j y hx hy => by
          obtain ⟨v, q1, q2⟩ := (h2 i x hx).2.2 j y hy
          refine ⟨v, ?_, q2⟩
          rw [← q1]
          unfold Addr.add
          by_cases e1 : i * k = 0 <;> by_cases e2 : j = 0 <;> simp [e1, e2]
        obtain ⟨x0, hx0⟩ : ∃ x, l[0]? = some x := ⟨l[0]'(by omega), List.getElem?_eq_getElem (by omega)⟩
        have hfl := (h2 0 x0 hx0).2.1
        obtain ⟨v, q1, _⟩ := cell 0 x0 0 ((flat (f x0))[0]'(by omega)) hx0 (List.getElem?_eq_getElem (by omega))
        simp only [Nat.zero_mul, true_and, and_self, if_true] at q1
        obtain ⟨c, t', fr, hw, hs⟩ : ∃ c t' fr, w.heap[β]? = some (.cells c t' fr) ∧ spot = none := by
          unfold World.cell? at q1
          split at q1
          · rename_i c t' fr hw
            refine ⟨c, t', fr, hw, ?_⟩
            cases spot with
            | none => rfl
            | some s => simp at q1
          · cases q1
        subst hs
        simp only [ite_self] at cell
        have cc : ∀ (i : Nat) (x : α) (j : Nat) (y : PV), l[i]? = some x → (flat (f x))[j]? = some y → o + i * k + j < c.size ∧ DR w No y (c.getD (o + i * k + j) undef) := fun i x j y hx hy => by
          obtain ⟨v, q1, q2⟩ := cell i x j y hx hy
          unfold World.cell? at q1
          simp only [hw] at q1
          have q3 := (Array.getElem?_eq_some_iff.1 (by simpa using q1 : c[o + i * k + j]? = some v)).1
          refine ⟨q3, ?_⟩
          have q4 : c[o + i * k + j]? = some v := by simpa using q1
          rw [Array.getD_eq_getD_getElem?, q4]
          exact q2
        have pick : ∀ (i : Nat) (x : PV), (l.map f)[i]? = some x → ∃ a, l[i]? = some a ∧ x = f a := fun i x hx => by
          rw [List.getElem?_map, Option.map_eq_some_iff] at hx
          obtain ⟨a, ha, rfl⟩ := hx
          exact ⟨a, ha, rfl⟩
        have key := DR.far (w := w) (A := No) (l.map f) β o cap k c t' fr (fun h => h) hw (by simpa [h1] using hl)
          (fun i x hx => by obtain ⟨a, ha, rfl⟩ := pick i x hx; exact (h2 i a ha).2.1)
          (fun i x j y hx hy => by obtain ⟨a, ha, rfl⟩ := pick i x hx; exact (cc i a j y ha hy).1)
          (fun i x j y hx hy => by obtain ⟨a, ha, rfl⟩ := pick i x hx; exact (cc i a j y ha hy).2)
        rw [List.length_map, h1] at key
        exact key
/-- The fields of a struct, from cell 'off' on, each of one cell. -/
def OpnF (enc : TypeId × Value → H) (P : Program) (w : World) (fs : List Field) (off : Nat) (f : α → List PV) (R : α → Prop) : Prop :=
  ∀ (n : Nat) (cs : List Value), (∀ (i : Nat) (fl : Field), fs[i]? = some fl → ∃ d, DataW.trod enc P w 0 (fun _ => true) true n fl.type ((cs.drop fl.offset).take (P.cellsOf fl.type)) = some d) →
    ∃ a, R a ∧ (f a).length = fs.length ∧ ∀ (j : Nat) (y : PV), (f a)[j]? = some y → DR w No y (cs.getD (off + j) undef)
theorem opnf_fld {fl : Field} {off : Nat} {f1 : α → PV} {R1 : α → Prop} (hk : P.cellsOf fl.type = 1) (ho : fl.offset = off) (hf : ∀ a, flat (f1 a) = [f1 a]) (h1 : Opn enc P w fl.type 1 f1 R1) {n : Nat} {cs : List Value} {d : DataW H × List MemPlace}
    (h : DataW.trod enc P w 0 (fun _ => true) true n fl.type ((cs.drop fl.offset).take (P.cellsOf fl.type)) = some d) : ∃ a, R1 a ∧ DR w No (f1 a) (cs.getD off undef) := by
  rw [hk, ho] at h
  obtain ⟨e, a, q1, q2, q3⟩ := h1 _ _ _ h
  refine ⟨a, q1, ?_⟩
  rw [hf] at q3
  have q4 := q3 0 _ rfl
  have e2 : ((cs.drop off).take 1).getD 0 undef = cs.getD off undef := by
    rw [List.getD_eq_getElem?_getD, List.getD_eq_getElem?_getD, List.getElem?_take_of_lt (by decide), List.getElem?_drop, Nat.add_zero]
  rw [e2] at q4
  exact q4
theorem opnf_one {fl : Field} {off : Nat} {f1 : α → PV} {R1 : α → Prop} (hk : P.cellsOf fl.type = 1) (ho : fl.offset = off) (hf : ∀ a, flat (f1 a) = [f1 a]) (h1 : Opn enc P w fl.type 1 f1 R1) : OpnF enc P w [fl] off (fun a => [f1 a]) R1 := fun n cs h => by
  obtain ⟨d, hd⟩ := h 0 fl rfl
  obtain ⟨a, q1, q2⟩ := opnf_fld hk ho hf h1 hd
  refine ⟨a, q1, rfl, fun j y hy => ?_⟩
  cases j with
  | zero => cases hy; exact q2
  | succ j => simp at hy
theorem opnf_cons {fl : Field} {fs : List Field} {off : Nat} {f1 : α → PV} {R1 : α → Prop} {f2 : β → List PV} {R2 : β → Prop} (hk : P.cellsOf fl.type = 1) (ho : fl.offset = off) (hf : ∀ a, flat (f1 a) = [f1 a]) (h1 : Opn enc P w fl.type 1 f1 R1) (h2 : OpnF enc P w fs (off + 1) f2 R2) :
    OpnF enc P w (fl :: fs) off (fun p : α × β => f1 p.1 :: f2 p.2) (fun p => R1 p.1 ∧ R2 p.2) := fun n cs h => by
  obtain ⟨d, hd⟩ := h 0 fl rfl
  obtain ⟨a, q1, q2⟩ := opnf_fld hk ho hf h1 hd
  obtain ⟨b, q3, q4, q5⟩ := h2 n cs fun i g hg => h (i + 1) g (by simpa using hg)
  refine ⟨(a, b), ⟨q1, q3⟩, by simp [q4], fun j y hy => ?_⟩
  cases j with
  | zero => cases hy; exact q2
  | succ j =>
    have := q5 j y (by simpa using hy)
    rwa [show off + 1 + j = off + (j + 1) by omega] at this
theorem opn_struct {t : TypeId} {fs : Array Field} {fl : List Field} {n : Nat} {f : α → List PV} {R : α → Prop} (ht : P.underlying t = some (.struct fs)) (hfs : fs.toList = fl) (hc : P.cellsOf t = n) (hn : fl.length = n) (h : OpnF enc P w fl 0 f R) : Opn enc P w t n (fun a => .agg (f a)) R := fun fuel cs d hd => by
  obtain ⟨xs, m, _, _, h1, h2, h3⟩ := DataW.trod_struct ht hd
  subst hfs
  obtain ⟨a, q1, q2, q3⟩ := h m cs fun i g hg => by
    have hi : i < fs.size := by simpa using (List.getElem?_eq_some_iff.1 hg).1
    rw [h3 i g (by simpa using hg), List.getElem?_eq_getElem (by omega)]
    exact ⟨_, rfl⟩
  refine ⟨h1.trans hc, a, q1, q2.trans hn, fun j y hy => ?_⟩
  have := q3 j y hy
  rwa [Nat.zero_add] at this
/-- A struct, and a slice, as an argument. -/
theorem arg_struct {t : TypeId} {n : Nat} {fs : Array Field} {f : α → List PV} {R : α → Prop} {base : Nat} {v : Value} {d : DataW H} {ps : List MemPlace} (ht : P.underlying t = some (.struct fs)) (h : Opn enc P w t n (fun a => .agg (f a)) R) (hval : Value.okWide P w .any base t v)
    (hd : DataW.Trod enc P w 0 (fun _ => true) true t v d ps) : ∃ a, R a ∧ DR w No (.agg (f a)) v := by
  obtain ⟨cs, rfl, _⟩ := okWide_struct ht hval
  obtain ⟨fuel, hf⟩ := hd
  obtain ⟨h1, a, h2, h3, h4⟩ := h _ _ _ hf
  refine ⟨a, h2, .agg _ _ ?_ fun i x hx => ?_⟩
  · have : (flat (.agg (f a))).length = (f a).length := rfl
    simp only [Value.cells] at h1
    rw [← this, h3, ← h1, Array.length_toList]
  · have := h4 i x hx
    simp only [Value.cells] at this
    rwa [List.getD_eq_getElem?_getD, Array.getElem?_toList, ← Array.getD_eq_getD_getElem?] at this
theorem arg_slice {t e : TypeId} {f : α → PV} {R : List α → Prop} {base : Nat} {v : Value} {d : DataW H} {ps : List MemPlace} (ht : P.underlying t = some (.slice e)) (h : Opn enc P w t 1 (fun l : List α => .far (l.map f)) R) (hval : Value.okWide P w .any base t v)
    (hd : DataW.Trod enc P w 0 (fun _ => true) true t v d ps) : ∃ l, R l ∧ DR w No (.far (l.map f)) v := by
  obtain ⟨a, len, cap, rfl⟩ := okWide_slice ht hval
  obtain ⟨fuel, hf⟩ := hd
  obtain ⟨h1, l, h2, h3, h4⟩ := h _ _ _ hf
  exact ⟨l, h2, h4 0 _ rfl⟩
end
end Go.Pv
