/- The texts of this claim, part 5: a small logic of plain values for the model's runs, what it says of the functions, in plain values. -/
import Derived.Below
import Derived.ChangeArms
import Derived.ChangeShapes
import Derived.WideShapes
import Derived.Test.YtboeojpjgncjoaaGreatDoorPvI0
import Derived.Test.YtboeojpjgncjoaaGreatDoorPvI1
import Derived.Test.YtboeojpjgncjoaaGreatDoorPvI2
import Derived.Test.YtboeojpjgncjoaaGreatDoorPvI3
import Derived.Test.YtboeojpjgncjoaaGreatDoorPvI4
/- What functions of the program and of the reference do, in plain values. -/
namespace Go.Pv
open Go.Proofs Go.Mth
set_option linter.unusedSimpArgs false
set_option linter.unusedVariables false
set_option maxHeartbeats 4000000
set_option maxRecDepth 4000

/-! ### writers: a file sealed -/
def lkT (b : ByteArray) : Int := linkAll (scan b).2.2.2.2.1 (scan b).2.2.2.2.2.1
def foT (w : Wt) : ByteArray := footT w.1 w.2.1 w.2.2.2.1 w.2.2.2.2.1 w.2.2.2.2.2.1 w.2.2.2.2.2.2.1
/-- What LogRoll hands back. -/
def lrT (d : Dk) (w : Wt) : Dk × Wt × Int :=
  if w.2.2.2.2.2.2.2.1 = false ∨ w.2.2.2.2.2.2.2.2 ≠ 0 then (d, w, w.2.2.2.2.2.2.2.2)
  else if (appendT d (segT w.2.2.2.1) (foT w)).2 ≠ 0 then ((appendT d (segT w.2.2.2.1) (foT w)).1, (w.1, w.2.1, w.2.2.1, w.2.2.2.1, w.2.2.2.2.1, w.2.2.2.2.2.1, w.2.2.2.2.2.2.1, w.2.2.2.2.2.2.2.1, 2), 2)
  else ((syncT (appendT d (segT w.2.2.2.1) (foT w)).1 (segT w.2.2.2.1)).1, (w.1, w.2.1, w.2.2.1, IntKind.i64.wrap (w.2.2.2.1 + w.2.2.2.2.2.1.length), lkT (textT d w.2.2.2.1), [], 0, false, w.2.2.2.2.2.2.2.2), 0)
def lrQ (x : Dk × Wt × Int) (r : PV) (m : Hp) : Prop := r = .tup [dkR 64 x.1, wrR 68 x.2.1, .int .i64 x.2.2] ∧ m = dkH x.1 ++ [(68, .row ⟨1, 0⟩ (x.2.1.2.2.2.2.2.1.map (.int .i64)))]
theorem foT_le (w : Wt) (h : w.2.2.2.2.2.1.length ≤ 1048576) : (foT w).size ≤ 10485817 := by
  have := footT_le w.1 w.2.1 w.2.2.2.1 w.2.2.2.2.1 w.2.2.2.2.2.1 w.2.2.2.2.2.2.1
  unfold foT
  omega
theorem lrT_W {d : Dk} (h : DkOk d) (w : Wt) (hl : w.2.2.2.2.2.1.length ≤ 1048576) : DkW (lrT d w).1 ∧ (lrT d w).2.1.2.2.2.2.2.1.length ≤ 1048576 := by
  have hf := foT_le w hl
  have ha := appendT_W h (segT w.2.2.2.1) (foT w) (by omega)
  unfold lrT
  split
  · exact ⟨h.w, hl⟩
  · split
    · exact ⟨ha, hl⟩
    · exact ⟨syncT_W ha _, Nat.zero_le _⟩
theorem spec_LogRoll_R (d : Dk) (w : Wt) (h : DkOk d) (hl : w.2.2.2.2.2.1.length ≤ 1048576) (hb : i64 w.2.2.2.1) (ho : ∀ o ∈ w.2.2.2.2.2.1, i64 o) (he : i64 w.2.2.2.2.2.2.1) : FnE Tryz.prog 7 [dkP d, wrP w] [] (lrQ (lrT d w)) := by
  have hc := spec_l05Copy_R d h.w
  have hcw := spec_l16Copy_R w hl
  have hS := spec_SegmentName w.2.2.2.1 hb
  have hT := spec_TextAt d w.2.2.2.1 h hb
  have hL := spec_LinkAfter (textT d w.2.2.2.1) (by have := textT_le h w.2.2.2.1; omega)
  have hH := spec_head w
  have hF := spec_FootText w.1 w.2.1 w.2.2.2.1 w.2.2.2.2.1 w.2.2.2.2.2.1 w.2.2.2.2.2.2.1 (by omega) ho he
  have hfl := foT_le w hl
  have hA := spec_AppendFile_W d (segT w.2.2.2.1) (foT w) h.w (by omega)
  have hY := spec_SyncFile_W (appendT d (segT w.2.2.2.1) (foT w)).1 (segT w.2.2.2.1) (appendT_W h _ _ (by omega))
  have e1 : (w.2.2.2.2.2.2.2.1 = false ∨ w.2.2.2.2.2.2.2.2 ≠ 0) → lrT d w = (d, w, w.2.2.2.2.2.2.2.2) := fun a => if_pos a
  have e2 : ¬ (w.2.2.2.2.2.2.2.1 = false ∨ w.2.2.2.2.2.2.2.2 ≠ 0) → (appendT d (segT w.2.2.2.1) (foT w)).2 ≠ 0 → lrT d w = ((appendT d (segT w.2.2.2.1) (foT w)).1, (w.1, w.2.1, w.2.2.1, w.2.2.2.1, w.2.2.2.2.1, w.2.2.2.2.2.1, w.2.2.2.2.2.2.1, w.2.2.2.2.2.2.2.1, 2), 2) := fun a b => by unfold lrT; rw [if_neg a, if_pos b]
  have e3 : ¬ (w.2.2.2.2.2.2.2.1 = false ∨ w.2.2.2.2.2.2.2.2 ≠ 0) → ¬ (appendT d (segT w.2.2.2.1) (foT w)).2 ≠ 0 → lrT d w = ((syncT (appendT d (segT w.2.2.2.1) (foT w)).1 (segT w.2.2.2.1)).1, (w.1, w.2.1, w.2.2.1, IntKind.i64.wrap (w.2.2.2.1 + w.2.2.2.2.2.1.length), lkT (textT d w.2.2.2.1), [], 0, false, w.2.2.2.2.2.2.2.2), 0) := fun a b => by unfold lrT; rw [if_neg a, if_neg b]
  have hlk : linkAll (scan (textT d w.2.2.2.1)).2.2.2.2.1 (scan (textT d w.2.2.2.1)).2.2.2.2.2.1 = lkT (textT d w.2.2.2.1) := rfl
  have hft : footT w.1 w.2.1 w.2.2.2.1 w.2.2.2.2.1 w.2.2.2.2.2.1 w.2.2.2.2.2.2.1 = foT w := rfl
  rw [hlk] at hL
  rw [hft] at hF
  have hns := h.ns
  have hes := h.es
  have hos := h.os
  have hss := h.ss
  have haW := appendT_W h (segT w.2.2.2.1) (foT w) (by omega)
  have ans := haW.ns
  have aes := haW.es
  have aos := haW.os
  have ass := haW.ss
  generalize lrT d w = Q at *
  generalize foT w = ft at *
  generalize lkT (textT d w.2.2.2.1) = lk at *
  generalize textT d w.2.2.2.1 = tx at *
  obtain ⟨v, s, rl, b, l, L, g, o, cd⟩ := w
  simp only at *
  generalize segT b = nm at *
  generalize syncT (appendT d nm ft).1 nm = Y at *
  generalize appendT d nm ft = A at *
  obtain ⟨A, ac⟩ := A
  obtain ⟨Y, yc⟩ := Y
  simp only at *
  have hy := syncT_W haW nm
  clear hlk hft haW
  by_cases hg : o = false ∨ cd ≠ 0
  · cases e1 hg
    clear e2 e3 hS hT hL hH hF hA hY
    unfold lrQ
    simp only
    unfold dkP dkR dkH wrP wrR at *
    refine fn_e tok (n := 73) (rs := [.cell 4 35, .cell 5 36, .tmp 6]) Tryz.func7 (by decide) rfl rfl rfl rfl (low_of rfl) ?_
    refine Wr.go ?_
    repeat' ((first | (have ee := True.intro; refine Wr.mk ?_) | ((first | refine br_go ?_ ?_ | refine pick_go ?_ ?_) <;> intro ee f <;> (try simp only [BB] at f) <;> (try simp only [numOk, verOk] at f)) | (have ee := True.intro; first | refine dr_go mixed (id := 4) [([], [2], [384]), ([], [3], [320]), ([], [3], [320, 384]), ([2], [24], [320, 384]), ([0], [4, 22], [384]), ([0, 1, 4], [5, 23], [320]), ([0, 1, 2, 3, 4, 5], [25], [])] rfl rfl rfl ?_ | (refine call_h [] [] (hc) (by decide) rfl rfl ?_; rintro _ _ ⟨rfl, rfl⟩) | (refine call_h [] [] (hcw) (by decide) rfl rfl ?_; rintro _ _ ⟨rfl, rfl⟩))) <;> (try simp (maxSteps := 1000000) (disch := first | omega | (simp only [LN, numOk, verOk, rfP, rvP, rhP, frP, elOk_en, elOk_nd, nfx_en, nfx_nd] <;> omega) | exact Ck.mk rfl) only [ee, VC, T, Nat.reduceMul, Nat.reduceAdd, Nat.reduceSub, Nat.reduceLT, Nat.reduceEqDiff, Nat.reduceLeDiff, Nat.reduceBEq, reduceCtorEq, Int.reduceToNat, ↓reduceIte, rfP, rvP, rhP, frP, elOk_en, elOk_nd, nfx_en, nfx_nd]) <;> (try clear ee))
    all_goals first
      | (exact fin_t [some 768, some 769, some 770, some 771, some 896] (⟨rfl, rfl⟩) rfl (by simp [RV, RV2, RVl, RV1, tau, tget, hget, data1, oneOf]) (by simp [RH, RVl, RV1, tau, hget, data1]) (by simp [Taus, hget])
         done)
      | (exfalso; simp_all)
  · have ho1 : o = true := by cases o with
      | true => rfl
      | false => exact absurd (.inl rfl) hg
    have hc0 : cd = 0 := Classical.byContradiction fun k => hg (.inr k)
    subst ho1
    subst hc0
    by_cases ha : ac = 0
    · cases e3 hg (fun k => k ha)
      clear e1 e2 e3
      subst ha
      unfold lrQ
      simp only
      unfold dkP dkR dkH wrP wrR at *
      refine fn_e tok (n := 73) (rs := [.cell 4 35, .cell 5 36, .tmp 6]) Tryz.func7 (by decide) rfl rfl rfl rfl (low_of rfl) ?_
      refine Wr.go ?_
      repeat' ((first | (have ee := True.intro; refine Wr.mk ?_) | ((first | refine br_go ?_ ?_ | refine pick_go ?_ ?_) <;> intro ee f <;> (try simp only [BB] at f) <;> (try simp only [numOk, verOk] at f)) | (have ee := True.intro; first | refine dr_go mixed (id := 8) [([], [2], []), ([], [7], []), ([], [3], []), ([2], [37], []), ([], [3], []), ([4], [39], []), ([], [3], []), ([6], [41], []), ([2, 3, 4, 5, 6, 7], [38, 40, 42], []), ([0, 1, 2, 3, 4, 5, 6, 7, 8], [35, 36, 43], []), ([0, 1, 2, 3, 4, 5, 6, 7, 8, 9], [44], []), ([0, 1, 2, 3, 4, 5, 6, 7, 8, 9, 10], [34], []), ([0, 1, 2, 3, 4, 5, 6, 7, 8, 9, 10], [34], [192]), ([0, 1, 2, 3, 4, 5, 6, 7, 8, 9, 10, 11], [2, 45], []), ([0, 1, 2, 3, 4, 5, 6, 7, 8, 9, 10, 11, 12, 13], [46], [])] rfl rfl rfl ?_ | refine dr_go mixed (id := 18) [([], [2], [384]), ([], [3], [320]), ([0], [4, 71], [384]), ([0, 1, 2], [5, 72], [320]), ([0, 1, 2, 3], [], [])] rfl rfl rfl ?_ | (refine call_h [] [] (hc) (by decide) rfl rfl ?_; rintro _ _ ⟨rfl, rfl⟩) | (refine call_h [] [] (hcw) (by decide) rfl rfl ?_; rintro _ _ ⟨rfl, rfl⟩) | refine call_x (hS) rfl ⟨rfl⟩ ?_ | (refine call_hx [] [768,769,770,771] (hT) (by decide) ?_ rfl ?_; (focus (first | rfl | (simp (maxSteps := 1000000) (disch := first | omega | (simp only [LN, numOk, verOk, rfP, rvP, rhP, frP, elOk_en, elOk_nd, nfx_en, nfx_nd] <;> omega) | exact Ck.mk rfl) only [VC, T, Nat.reduceMul, Nat.reduceAdd, Nat.reduceSub, Nat.reduceLT, Nat.reduceEqDiff, Nat.reduceLeDiff, Nat.reduceBEq, reduceCtorEq, Int.reduceToNat, ↓reduceIte, rfP, rvP, rhP, frP, elOk_en, elOk_nd, nfx_en, nfx_nd]; done)))) | refine call_x (hL) rfl ⟨rfl⟩ ?_ | (refine call_hx [] [896] (hH) (by decide) ?_ rfl ?_; (focus (first | rfl | (simp (maxSteps := 1000000) (disch := first | omega | (simp only [LN, numOk, verOk, rfP, rvP, rhP, frP, elOk_en, elOk_nd, nfx_en, nfx_nd] <;> omega) | exact Ck.mk rfl) only [VC, T, Nat.reduceMul, Nat.reduceAdd, Nat.reduceSub, Nat.reduceLT, Nat.reduceEqDiff, Nat.reduceLeDiff, Nat.reduceBEq, reduceCtorEq, Int.reduceToNat, ↓reduceIte, rfP, rvP, rhP, frP, elOk_en, elOk_nd, nfx_en, nfx_nd]; done)))) | (refine call_hx [] [896] (hF) (by decide) ?_ rfl ?_; (focus (first | rfl | (simp (maxSteps := 1000000) (disch := first | omega | (simp only [LN, numOk, verOk, rfP, rvP, rhP, frP, elOk_en, elOk_nd, nfx_en, nfx_nd] <;> omega) | exact Ck.mk rfl) only [VC, T, Nat.reduceMul, Nat.reduceAdd, Nat.reduceSub, Nat.reduceLT, Nat.reduceEqDiff, Nat.reduceLeDiff, Nat.reduceBEq, reduceCtorEq, Int.reduceToNat, ↓reduceIte, rfP, rvP, rhP, frP, elOk_en, elOk_nd, nfx_en, nfx_nd]; done)))) | (refine call_h [] [768,769,770,771] (hA) (by decide) ?_ rfl ?_; (focus (first | rfl | (simp (maxSteps := 1000000) (disch := first | omega | (simp only [LN, numOk, verOk, rfP, rvP, rhP, frP, elOk_en, elOk_nd, nfx_en, nfx_nd] <;> omega) | exact Ck.mk rfl) only [VC, T, Nat.reduceMul, Nat.reduceAdd, Nat.reduceSub, Nat.reduceLT, Nat.reduceEqDiff, Nat.reduceLeDiff, Nat.reduceBEq, reduceCtorEq, Int.reduceToNat, ↓reduceIte, rfP, rvP, rhP, frP, elOk_en, elOk_nd, nfx_en, nfx_nd]; done))); rintro _ _ ⟨rfl, rfl⟩) | (refine call_h [] [2880,2881,2882,2883] (hY) (by decide) ?_ rfl ?_; (focus (first | rfl | (simp (maxSteps := 1000000) (disch := first | omega | (simp only [LN, numOk, verOk, rfP, rvP, rhP, frP, elOk_en, elOk_nd, nfx_en, nfx_nd] <;> omega) | exact Ck.mk rfl) only [VC, T, Nat.reduceMul, Nat.reduceAdd, Nat.reduceSub, Nat.reduceLT, Nat.reduceEqDiff, Nat.reduceLeDiff, Nat.reduceBEq, reduceCtorEq, Int.reduceToNat, ↓reduceIte, rfP, rvP, rhP, frP, elOk_en, elOk_nd, nfx_en, nfx_nd]; done))); rintro _ _ ⟨rfl, rfl⟩))) <;> (try simp (maxSteps := 1000000) (disch := first | omega | (simp only [LN, numOk, verOk, rfP, rvP, rhP, frP, elOk_en, elOk_nd, nfx_en, nfx_nd] <;> omega) | exact Ck.mk rfl) only [ee, VC, T, Nat.reduceMul, Nat.reduceAdd, Nat.reduceSub, Nat.reduceLT, Nat.reduceEqDiff, Nat.reduceLeDiff, Nat.reduceBEq, reduceCtorEq, Int.reduceToNat, ↓reduceIte, rfP, rvP, rhP, frP, elOk_en, elOk_nd, nfx_en, nfx_nd]) <;> (try clear ee))
      exact fin_t [some 3584, some 3585, some 3586, some 3587, some 4416] (⟨rfl, rfl⟩) rfl (by simp [RV, RV2, RVl, RV1, tau, tget, hget, data1, oneOf]) (by simp [RH, RVl, RV1, tau, hget, data1]) (by simp [Taus, hget])
    · cases e2 hg ha
      clear e1 e2 e3 hY
      unfold lrQ
      simp only
      unfold dkP dkR dkH wrP wrR at *
      refine fn_e tok (n := 73) (rs := [.cell 4 35, .cell 5 36, .tmp 6]) Tryz.func7 (by decide) rfl rfl rfl rfl (low_of rfl) ?_
      refine Wr.go ?_
      repeat' ((first | (have ee := True.intro; refine Wr.mk ?_) | ((first | refine br_go ?_ ?_ | refine pick_go ?_ ?_) <;> intro ee f <;> (try simp only [BB] at f) <;> (try simp only [numOk, verOk] at f)) | (have ee := True.intro; first | refine dr_go mixed (id := 8) [([], [2], []), ([], [7], []), ([], [3], []), ([2], [37], []), ([], [3], []), ([4], [39], []), ([], [3], []), ([6], [41], []), ([2, 3, 4, 5, 6, 7], [38, 40, 42], []), ([0, 1, 2, 3, 4, 5, 6, 7, 8], [35, 36, 43], []), ([0, 1, 2, 3, 4, 5, 6, 7, 8, 9], [44], []), ([0, 1, 2, 3, 4, 5, 6, 7, 8, 9, 10], [34], []), ([0, 1, 2, 3, 4, 5, 6, 7, 8, 9, 10], [34], [192]), ([0, 1, 2, 3, 4, 5, 6, 7, 8, 9, 10, 11], [2, 45], []), ([0, 1, 2, 3, 4, 5, 6, 7, 8, 9, 10, 11, 12, 13], [46], [])] rfl rfl rfl ?_ | refine dr_go mixed (id := 11) [([], [2], [384]), ([], [3], [320]), ([0], [4, 50], [384]), ([0, 1, 2], [5, 51], [320]), ([0, 1, 2, 3], [], [])] rfl rfl rfl ?_ | (refine call_h [] [] (hc) (by decide) rfl rfl ?_; rintro _ _ ⟨rfl, rfl⟩) | (refine call_h [] [] (hcw) (by decide) rfl rfl ?_; rintro _ _ ⟨rfl, rfl⟩) | refine call_x (hS) rfl ⟨rfl⟩ ?_ | (refine call_hx [] [768,769,770,771] (hT) (by decide) ?_ rfl ?_; (focus (first | rfl | (simp (maxSteps := 1000000) (disch := first | omega | (simp only [LN, numOk, verOk, rfP, rvP, rhP, frP, elOk_en, elOk_nd, nfx_en, nfx_nd] <;> omega) | exact Ck.mk rfl) only [VC, T, Nat.reduceMul, Nat.reduceAdd, Nat.reduceSub, Nat.reduceLT, Nat.reduceEqDiff, Nat.reduceLeDiff, Nat.reduceBEq, reduceCtorEq, Int.reduceToNat, ↓reduceIte, rfP, rvP, rhP, frP, elOk_en, elOk_nd, nfx_en, nfx_nd]; done)))) | refine call_x (hL) rfl ⟨rfl⟩ ?_ | (refine call_hx [] [896] (hH) (by decide) ?_ rfl ?_; (focus (first | rfl | (simp (maxSteps := 1000000) (disch := first | omega | (simp only [LN, numOk, verOk, rfP, rvP, rhP, frP, elOk_en, elOk_nd, nfx_en, nfx_nd] <;> omega) | exact Ck.mk rfl) only [VC, T, Nat.reduceMul, Nat.reduceAdd, Nat.reduceSub, Nat.reduceLT, Nat.reduceEqDiff, Nat.reduceLeDiff, Nat.reduceBEq, reduceCtorEq, Int.reduceToNat, ↓reduceIte, rfP, rvP, rhP, frP, elOk_en, elOk_nd, nfx_en, nfx_nd]; done)))) | (refine call_hx [] [896] (hF) (by decide) ?_ rfl ?_; (focus (first | rfl | (simp (maxSteps := 1000000) (disch := first | omega | (simp only [LN, numOk, verOk, rfP, rvP, rhP, frP, elOk_en, elOk_nd, nfx_en, nfx_nd] <;> omega) | exact Ck.mk rfl) only [VC, T, Nat.reduceMul, Nat.reduceAdd, Nat.reduceSub, Nat.reduceLT, Nat.reduceEqDiff, Nat.reduceLeDiff, Nat.reduceBEq, reduceCtorEq, Int.reduceToNat, ↓reduceIte, rfP, rvP, rhP, frP, elOk_en, elOk_nd, nfx_en, nfx_nd]; done)))) | (refine call_h [] [768,769,770,771] (hA) (by decide) ?_ rfl ?_; (focus (first | rfl | (simp (maxSteps := 1000000) (disch := first | omega | (simp only [LN, numOk, verOk, rfP, rvP, rhP, frP, elOk_en, elOk_nd, nfx_en, nfx_nd] <;> omega) | exact Ck.mk rfl) only [VC, T, Nat.reduceMul, Nat.reduceAdd, Nat.reduceSub, Nat.reduceLT, Nat.reduceEqDiff, Nat.reduceLeDiff, Nat.reduceBEq, reduceCtorEq, Int.reduceToNat, ↓reduceIte, rfP, rvP, rhP, frP, elOk_en, elOk_nd, nfx_en, nfx_nd]; done))); rintro _ _ ⟨rfl, rfl⟩))) <;> (try simp (maxSteps := 1000000) (disch := first | omega | (simp only [LN, numOk, verOk, rfP, rvP, rhP, frP, elOk_en, elOk_nd, nfx_en, nfx_nd] <;> omega) | exact Ck.mk rfl) only [ee, VC, T, Nat.reduceMul, Nat.reduceAdd, Nat.reduceSub, Nat.reduceLT, Nat.reduceEqDiff, Nat.reduceLeDiff, Nat.reduceBEq, reduceCtorEq, Int.reduceToNat, ↓reduceIte, rfP, rvP, rhP, frP, elOk_en, elOk_nd, nfx_en, nfx_nd]) <;> (try clear ee))
      exact fin_t [some 2880, some 2881, some 2882, some 2883, some 896] (⟨rfl, rfl⟩) rfl (by simp [RV, RV2, RVl, RV1, tau, tget, hget, data1, oneOf]) (by simp [RH, RVl, RV1, tau, hget, data1]) (by simp [Taus, hget])
theorem impl_LogRoll_R (d : Dk) (w : Wt) (h : DkOk d) (hl : w.2.2.2.2.2.1.length ≤ 1048576) (hb : i64 w.2.2.2.1) (ho : ∀ o ∈ w.2.2.2.2.2.1, i64 o) (he : i64 w.2.2.2.2.2.2.1) : FnE Tryz.prog 10 [dkP d, wrP w] [] (lrQ (lrT d w)) := by
  have hc := impl_copyDisk_R d h.w
  have hcw := impl_copyWriter_R w hl
  have hS := impl_SegmentName w.2.2.2.1 hb
  have hT := impl_TextAt d w.2.2.2.1 h hb
  have hL := impl_LinkAfter (textT d w.2.2.2.1) (by have := textT_le h w.2.2.2.1; omega)
  have hH := impl_head w
  have hF := impl_FootText w.1 w.2.1 w.2.2.2.1 w.2.2.2.2.1 w.2.2.2.2.2.1 w.2.2.2.2.2.2.1 (by omega) ho he
  have hfl := foT_le w hl
  have hA := impl_AppendFile_W d (segT w.2.2.2.1) (foT w) h.w (by omega)
  have hY := impl_SyncFile_W (appendT d (segT w.2.2.2.1) (foT w)).1 (segT w.2.2.2.1) (appendT_W h _ _ (by omega))
  have e1 : (w.2.2.2.2.2.2.2.1 = false ∨ w.2.2.2.2.2.2.2.2 ≠ 0) → lrT d w = (d, w, w.2.2.2.2.2.2.2.2) := fun a => if_pos a
  have e2 : ¬ (w.2.2.2.2.2.2.2.1 = false ∨ w.2.2.2.2.2.2.2.2 ≠ 0) → (appendT d (segT w.2.2.2.1) (foT w)).2 ≠ 0 → lrT d w = ((appendT d (segT w.2.2.2.1) (foT w)).1, (w.1, w.2.1, w.2.2.1, w.2.2.2.1, w.2.2.2.2.1, w.2.2.2.2.2.1, w.2.2.2.2.2.2.1, w.2.2.2.2.2.2.2.1, 2), 2) := fun a b => by unfold lrT; rw [if_neg a, if_pos b]
  have e3 : ¬ (w.2.2.2.2.2.2.2.1 = false ∨ w.2.2.2.2.2.2.2.2 ≠ 0) → ¬ (appendT d (segT w.2.2.2.1) (foT w)).2 ≠ 0 → lrT d w = ((syncT (appendT d (segT w.2.2.2.1) (foT w)).1 (segT w.2.2.2.1)).1, (w.1, w.2.1, w.2.2.1, IntKind.i64.wrap (w.2.2.2.1 + w.2.2.2.2.2.1.length), lkT (textT d w.2.2.2.1), [], 0, false, w.2.2.2.2.2.2.2.2), 0) := fun a b => by unfold lrT; rw [if_neg a, if_neg b]
  have hlk : linkAll (scan (textT d w.2.2.2.1)).2.2.2.2.1 (scan (textT d w.2.2.2.1)).2.2.2.2.2.1 = lkT (textT d w.2.2.2.1) := rfl
  have hft : footT w.1 w.2.1 w.2.2.2.1 w.2.2.2.2.1 w.2.2.2.2.2.1 w.2.2.2.2.2.2.1 = foT w := rfl
  rw [hlk] at hL
  rw [hft] at hF
  have hns := h.ns
  have hes := h.es
  have hos := h.os
  have hss := h.ss
  have haW := appendT_W h (segT w.2.2.2.1) (foT w) (by omega)
  have ans := haW.ns
  have aes := haW.es
  have aos := haW.os
  have ass := haW.ss
  generalize lrT d w = Q at *
  generalize foT w = ft at *
  generalize lkT (textT d w.2.2.2.1) = lk at *
  generalize textT d w.2.2.2.1 = tx at *
  obtain ⟨v, s, rl, b, l, L, g, o, cd⟩ := w
  simp only at *
  generalize segT b = nm at *
  generalize syncT (appendT d nm ft).1 nm = Y at *
  generalize appendT d nm ft = A at *
  obtain ⟨A, ac⟩ := A
  obtain ⟨Y, yc⟩ := Y
  simp only at *
  have hy := syncT_W haW nm
  clear hlk hft haW
  by_cases hg : o = false ∨ cd ≠ 0
  · cases e1 hg
    clear e2 e3 hS hT hL hH hF hA hY
    unfold lrQ
    simp only
    unfold dkP dkR dkH wrP wrR at *
    refine fn_e tok (n := 73) (rs := [.cell 4 35, .cell 5 36, .tmp 6]) Tryz.func10 (by decide) rfl rfl rfl rfl (low_of rfl) ?_
    refine Wr.go ?_
    repeat' ((first | (have ee := True.intro; refine Wr.mk ?_) | ((first | refine br_go ?_ ?_ | refine pick_go ?_ ?_) <;> intro ee f <;> (try simp only [BB] at f) <;> (try simp only [numOk, verOk] at f)) | (have ee := True.intro; first | refine dr_go mixed (id := 3) [([], [2], [384]), ([0], [22], [384]), ([], [7], [320]), ([], [3], [320, 384]), ([3], [25], [320, 384]), ([0, 1], [4, 23], [384]), ([0, 1, 2, 5], [5, 24], [320]), ([0, 1, 2, 3, 4, 5, 6], [26], [])] rfl rfl rfl ?_ | (refine call_h [] [] (hcw) (by decide) rfl rfl ?_; rintro _ _ ⟨rfl, rfl⟩) | (refine call_h [] [] (hc) (by decide) rfl rfl ?_; rintro _ _ ⟨rfl, rfl⟩))) <;> (try simp (maxSteps := 1000000) (disch := first | omega | (simp only [LN, numOk, verOk, rfP, rvP, rhP, frP, elOk_en, elOk_nd, nfx_en, nfx_nd] <;> omega) | exact Ck.mk rfl) only [ee, VC, T, Nat.reduceMul, Nat.reduceAdd, Nat.reduceSub, Nat.reduceLT, Nat.reduceEqDiff, Nat.reduceLeDiff, Nat.reduceBEq, reduceCtorEq, Int.reduceToNat, ↓reduceIte, rfP, rvP, rhP, frP, elOk_en, elOk_nd, nfx_en, nfx_nd]) <;> (try clear ee))
    all_goals first
      | (exact fin_t [some 1536, some 1537, some 1538, some 1539, some 896] (⟨rfl, rfl⟩) rfl (by simp [RV, RV2, RVl, RV1, tau, tget, hget, data1, oneOf]) (by simp [RH, RVl, RV1, tau, hget, data1]) (by simp [Taus, hget])
         done)
      | (exfalso; simp_all)
  · have ho1 : o = true := by cases o with
      | true => rfl
      | false => exact absurd (.inl rfl) hg
    have hc0 : cd = 0 := Classical.byContradiction fun k => hg (.inr k)
    subst ho1
    subst hc0
    by_cases ha : ac = 0
    · cases e3 hg (fun k => k ha)
      clear e1 e2 e3
      subst ha
      unfold lrQ
      simp only
      unfold dkP dkR dkH wrP wrR at *
      refine fn_e tok (n := 73) (rs := [.cell 4 35, .cell 5 36, .tmp 6]) Tryz.func10 (by decide) rfl rfl rfl rfl (low_of rfl) ?_
      refine Wr.go ?_
      repeat' ((first | (have ee := True.intro; refine Wr.mk ?_) | ((first | refine br_go ?_ ?_ | refine pick_go ?_ ?_) <;> intro ee f <;> (try simp only [BB] at f) <;> (try simp only [numOk, verOk] at f)) | (have ee := True.intro; first | refine dr_go mixed (id := 6) [([], [2], []), ([], [8], []), ([], [3], []), ([2], [38], []), ([], [3], []), ([4], [40], []), ([], [3], []), ([6], [42], []), ([2, 3, 4, 5, 6, 7], [39, 41, 43], []), ([0, 1, 2, 3, 4, 5, 6, 7, 8], [36, 37, 44], []), ([0, 1, 2, 3, 4, 5, 6, 7, 8, 9], [45], []), ([0, 1, 2, 3, 4, 5, 6, 7, 8, 9, 10], [35], []), ([0, 1, 2, 3, 4, 5, 6, 7, 8, 9, 10], [35], [704]), ([], [], []), ([0, 1, 2, 3, 4, 5, 6, 7, 8, 9, 10, 11, 13], [10, 46], []), ([0, 1, 2, 3, 4, 5, 6, 7, 8, 9, 10, 11, 12, 13, 14], [47], [])] rfl rfl rfl ?_ | refine dr_go mixed (id := 11) [([], [3], [512]), ([0], [59], [512]), ([], [3], [512]), ([2], [61], [512]), ([2, 3], [62], [512]), ([0, 1, 2, 3, 4], [60, 63], [512]), ([], [9], []), ([], [7], []), ([7], [66], []), ([0, 1, 2, 3, 4, 5, 7, 8], [7], []), ([0, 1, 2, 3, 4, 5, 7, 8, 9], [64, 67], []), ([0, 1, 2, 3, 4, 5, 6, 7, 8, 9, 10], [7], []), ([0, 1, 2, 3, 4, 5, 6, 7, 8, 9, 10, 11], [65, 68], []), ([0, 1, 2, 3, 4, 5, 6, 7, 8, 9, 10, 11, 12], [7], []), ([0, 1, 2, 3, 4, 5, 6, 7, 8, 9, 10, 11, 12, 13], [69], []), ([0, 1, 2, 3, 4, 5, 6, 7, 8, 9, 10, 11, 12, 13, 14], [7], []), ([0, 1, 2, 3, 4, 5, 6, 7, 8, 9, 10, 11, 12, 13, 14, 15], [70], [])] rfl rfl rfl ?_ | refine dr_go mixed (id := 12) [([], [10], [384]), ([], [7], [320]), ([0], [4, 71], [384]), ([0, 1, 2], [5, 72], [320]), ([0, 1, 2, 3], [], [])] rfl rfl rfl ?_ | (refine call_h [] [] (hcw) (by decide) rfl rfl ?_; rintro _ _ ⟨rfl, rfl⟩) | refine call_x (hS) rfl ⟨rfl⟩ ?_ | refine call_x (hT) rfl ⟨rfl⟩ ?_ | refine call_x (hL) rfl ⟨rfl⟩ ?_ | refine call_x (hH) rfl ⟨rfl⟩ ?_ | refine call_x (hF) rfl ⟨rfl⟩ ?_ | (refine call_h [] [] (hA) (by decide) rfl rfl ?_; rintro _ _ ⟨rfl, rfl⟩) | (refine call_h [] [2944,2945,2946,2947] (hY) (by decide) ?_ rfl ?_; (focus (first | rfl | (simp (maxSteps := 1000000) (disch := first | omega | (simp only [LN, numOk, verOk, rfP, rvP, rhP, frP, elOk_en, elOk_nd, nfx_en, nfx_nd] <;> omega) | exact Ck.mk rfl) only [VC, T, Nat.reduceMul, Nat.reduceAdd, Nat.reduceSub, Nat.reduceLT, Nat.reduceEqDiff, Nat.reduceLeDiff, Nat.reduceBEq, reduceCtorEq, Int.reduceToNat, ↓reduceIte, rfP, rvP, rhP, frP, elOk_en, elOk_nd, nfx_en, nfx_nd]; done))); rintro _ _ ⟨rfl, rfl⟩))) <;> (try simp (maxSteps := 1000000) (disch := first | omega | (simp only [LN, numOk, verOk, rfP, rvP, rhP, frP, elOk_en, elOk_nd, nfx_en, nfx_nd] <;> omega) | exact Ck.mk rfl) only [ee, VC, T, Nat.reduceMul, Nat.reduceAdd, Nat.reduceSub, Nat.reduceLT, Nat.reduceEqDiff, Nat.reduceLeDiff, Nat.reduceBEq, reduceCtorEq, Int.reduceToNat, ↓reduceIte, rfP, rvP, rhP, frP, elOk_en, elOk_nd, nfx_en, nfx_nd]) <;> (try clear ee))
      trace_state
      exact fin_t [some 3648, some 3649, some 3650, some 3651, none] (⟨rfl, rfl⟩) rfl (by simp [RV, RV2, RVl, RV1, tau, tget, hget, data1, oneOf]) (by simp [RH, RVl, RV1, tau, hget, data1]) (by simp [Taus, hget])
    · cases e2 hg ha
      clear e1 e2 e3 hY
      unfold lrQ
      simp only
      unfold dkP dkR dkH wrP wrR at *
      refine fn_e tok (n := 73) (rs := [.cell 4 35, .cell 5 36, .tmp 6]) Tryz.func10 (by decide) rfl rfl rfl rfl (low_of rfl) ?_
      refine Wr.go ?_
      repeat' ((first | (have ee := True.intro; refine Wr.mk ?_) | ((first | refine br_go ?_ ?_ | refine pick_go ?_ ?_) <;> intro ee f <;> (try simp only [BB] at f) <;> (try simp only [numOk, verOk] at f)) | (have ee := True.intro; first | refine dr_go mixed (id := 6) [([], [2], []), ([], [8], []), ([], [3], []), ([2], [38], []), ([], [3], []), ([4], [40], []), ([], [3], []), ([6], [42], []), ([2, 3, 4, 5, 6, 7], [39, 41, 43], []), ([0, 1, 2, 3, 4, 5, 6, 7, 8], [36, 37, 44], []), ([0, 1, 2, 3, 4, 5, 6, 7, 8, 9], [45], []), ([0, 1, 2, 3, 4, 5, 6, 7, 8, 9, 10], [35], []), ([0, 1, 2, 3, 4, 5, 6, 7, 8, 9, 10], [35], [704]), ([], [], []), ([0, 1, 2, 3, 4, 5, 6, 7, 8, 9, 10, 11, 13], [10, 46], []), ([0, 1, 2, 3, 4, 5, 6, 7, 8, 9, 10, 11, 12, 13, 14], [47], [])] rfl rfl rfl ?_ | refine dr_go mixed (id := 9) [([], [10], [384]), ([], [7], [320]), ([0], [4, 51], [384]), ([0, 1, 2], [5, 52], [320]), ([0, 1, 2, 3], [], [])] rfl rfl rfl ?_ | (refine call_h [] [] (hcw) (by decide) rfl rfl ?_; rintro _ _ ⟨rfl, rfl⟩) | refine call_x (hS) rfl ⟨rfl⟩ ?_ | refine call_x (hT) rfl ⟨rfl⟩ ?_ | refine call_x (hL) rfl ⟨rfl⟩ ?_ | refine call_x (hH) rfl ⟨rfl⟩ ?_ | refine call_x (hF) rfl ⟨rfl⟩ ?_ | (refine call_h [] [] (hA) (by decide) rfl rfl ?_; rintro _ _ ⟨rfl, rfl⟩))) <;> (try simp (maxSteps := 1000000) (disch := first | omega | (simp only [LN, numOk, verOk, rfP, rvP, rhP, frP, elOk_en, elOk_nd, nfx_en, nfx_nd] <;> omega) | exact Ck.mk rfl) only [ee, VC, T, Nat.reduceMul, Nat.reduceAdd, Nat.reduceSub, Nat.reduceLT, Nat.reduceEqDiff, Nat.reduceLeDiff, Nat.reduceBEq, reduceCtorEq, Int.reduceToNat, ↓reduceIte, rfP, rvP, rhP, frP, elOk_en, elOk_nd, nfx_en, nfx_nd]) <;> (try clear ee))
      trace_state
      exact fin_t [some 2944, some 2945, some 2946, some 2947, some 896] (⟨rfl, rfl⟩) rfl (by simp [RV, RV2, RVl, RV1, tau, tget, hget, data1, oneOf]) (by simp [RH, RVl, RV1, tau, hget, data1]) (by simp [Taus, hget])
theorem spec_LogRoll (d : Dk) (w : Wt) (h : DkOk d) (hl : w.2.2.2.2.2.1.length ≤ 1048576) (hb : i64 w.2.2.2.1) (ho : ∀ o ∈ w.2.2.2.2.2.1, i64 o) (he : i64 w.2.2.2.2.2.2.1) : Fn Tryz.prog 7 [dkP d, wrP w] [] (.tup [dkP (lrT d w).1, wrP (lrT d w).2.1, .int .i64 (lrT d w).2.2]) [] := by
  obtain ⟨_, _, ⟨rfl, rfl⟩, k⟩ := spec_LogRoll_R d w h hl hb ho he
  refine k.far ?_
  simp [fz, fz2, fz1, cvtl, elems, dkR, dkH, dkP, wrR, wrP, hget, data1]
theorem impl_LogRoll (d : Dk) (w : Wt) (h : DkOk d) (hl : w.2.2.2.2.2.1.length ≤ 1048576) (hb : i64 w.2.2.2.1) (ho : ∀ o ∈ w.2.2.2.2.2.1, i64 o) (he : i64 w.2.2.2.2.2.2.1) : Fn Tryz.prog 10 [dkP d, wrP w] [] (.tup [dkP (lrT d w).1, wrP (lrT d w).2.1, .int .i64 (lrT d w).2.2]) [] := by
  obtain ⟨_, _, ⟨rfl, rfl⟩, k⟩ := impl_LogRoll_R d w h hl hb ho he
  refine k.far ?_
  simp [fz, fz2, fz1, cvtl, elems, dkR, dkH, dkP, wrR, wrP, hget, data1]
end Go.Pv

/- What functions of the program and of the reference do, in plain values. -/
namespace Go.Pv
open Go.Proofs Go.Mth
set_option linter.unusedSimpArgs false
set_option linter.unusedVariables false
set_option maxHeartbeats 4000000
set_option maxRecDepth 4000

/-! ### the law of LogRoll -/
set_option maxRecDepth 20000 in
theorem law_FnExactLogRoll (d : Dk) (w : Wt) (h : DkIn d) (hw : WtIn w) : Fn Tryz.prog 3 [dkP d, wrP w] [] (.bool true) [] := by
  have hz := sz_disk d h
  have hzw := fun m hm => laws_szWriter w m hm hw.2.2.2.2.2.1.1
  have hS := fun hd hl => spec_LogRoll d w hd hl hw.2.2.2.1 hw.2.2.2.2.2.1.2 hw.2.2.2.2.2.2.1
  have hI := fun hd hl => impl_LogRoll d w hd hl hw.2.2.2.1 hw.2.2.2.2.2.1.2 hw.2.2.2.2.2.2.1
  have hIR := fun hd hl => impl_LogRoll_R d w hd hl hw.2.2.2.1 hw.2.2.2.2.2.1.2 hw.2.2.2.2.2.2.1
  have hDW := fun hd hl => lrT_W (d := d) hd w hl
  have hT := fun hd => laws_toDisk d hd
  have hTR := fun hd => laws_toDisk_R d hd
  have hE := fun hd => laws_eqDisk_W d d hd
  have hM := fun hd => laws_markDisk_W d 1 hd (by decide) 0 0 0 0
  have hV := fun hl => laws_toWriter w hl
  have hVR := fun hl => laws_toWriter_R w hl
  have hEV := fun hl => laws_eqWriter w w hl
  have hMV := fun k hl hk => laws_markWriter w k hl hk 0
  unfold lrQ at hIR
  generalize lrT d w = Q at *
  obtain ⟨D, W, cc⟩ := Q
  simp only at hS hI hIR hDW
  have hE2 := fun hd => laws_eqDisk_W D D hd
  have hM2 := fun hd => laws_markDisk_W D 1 hd (by decide) 0 0 0 0
  have hH2 := fun h1 h2 h3 h4 => laws_heldDisk D.1.length D.2.1.length D.2.2.1.length D.2.2.2.1.length 1 D.2.2.2.2.1 D.2.2.2.2.2 h1 h2 h3 h4 (by decide)
  have hEV2 := fun hl => laws_eqWriter W W hl
  have hMV2 := fun k hl hk => laws_markWriter W k hl hk 0
  have hHV2 := fun k hl hk => laws_heldWriter (W.1, W.2.1, W.2.2.1, W.2.2.2.1, W.2.2.2.2.1, seqL W.2.2.2.2.2.1.length k, W.2.2.2.2.2.2.1, W.2.2.2.2.2.2.2.1, W.2.2.2.2.2.2.2.2) k W.2.2.2.2.2.1.length rfl hl hk
  clear h hw
  obtain ⟨a, b, c, e, l, L, g, o, cd⟩ := w
  obtain ⟨a', b', c', e', l', L', g', o', cd'⟩ := W
  simp only at hz hzw hS hI hIR hV hVR hEV hMV hDW hEV2 hMV2 hHV2
  unfold mkDk at hH2
  unfold dkP dkR dkH wrP wrR at *
  simp only [List.cons_append, List.nil_append] at hIR
  simp only at hHV2
  refine fn_x tok (n := 156) (rs := [.tmp 4]) Tryz.func3 (by decide) rfl rfl rfl rfl ?_
  refine Wr.go ?_
  repeat' ((first | (have ee := True.intro; refine Wr.mk ?_) | ((first | refine br_go ?_ ?_ | refine pick_go ?_ ?_) <;> intro ee f <;> (try simp only [BB] at f) <;> (try simp only [numOk, verOk] at f)) | (have ee := True.intro; first | (refine call_v hz rfl ?_; rintro _ ⟨m, rfl, hm1, hm2, hm3⟩; refine ⟨⟨rfl⟩, ?_⟩))) <;> (try simp (maxSteps := 1000000) (disch := first | omega | (simp only [LN, numOk, verOk, dkP, dkR, dkH, beq_self_eq_true, bkd] <;> omega) | exact Ck.mk rfl) only [ee, VC, T, Nat.reduceMul, Nat.reduceAdd, Nat.reduceSub, Nat.reduceLT, Nat.reduceEqDiff, Nat.reduceLeDiff, Nat.reduceBEq, reduceCtorEq, Int.reduceToNat, ↓reduceIte, dkP, dkR, dkH, beq_self_eq_true, bkd]) <;> (try clear ee))
  have hd := hm1 (by omega)
  have hzw := hzw m (by omega)
  clear hz hm1
  refine Wr.go ?_
  repeat' ((first | (have ee := True.intro; refine Wr.mk ?_) | ((first | refine br_go ?_ ?_ | refine pick_go ?_ ?_) <;> intro ee f <;> (try simp only [BB] at f) <;> (try simp only [numOk, verOk] at f)) | (have ee := True.intro; first | (refine call_v hzw rfl ?_; rintro _ ⟨m2, rfl, hn1, hn2, hn3⟩; refine ⟨⟨rfl⟩, ?_⟩))) <;> (try simp (maxSteps := 1000000) (disch := first | omega | (simp only [LN, numOk, verOk, dkP, dkR, dkH, beq_self_eq_true, bkd] <;> omega) | exact Ck.mk rfl) only [ee, VC, T, Nat.reduceMul, Nat.reduceAdd, Nat.reduceSub, Nat.reduceLT, Nat.reduceEqDiff, Nat.reduceLeDiff, Nat.reduceBEq, reduceCtorEq, Int.reduceToNat, ↓reduceIte, dkP, dkR, dkH, beq_self_eq_true, bkd]) <;> (try clear ee))
  have hl := hn1 (by omega)
  have hT := hT hd
  have hTR := hTR hd
  have hV := hV hl
  have hVR := hVR hl
  have hEV := hEV hl
  have hMV := fun k hk => hMV k hl hk
  have hS := hS hd hl
  have hI := hI hd hl
  have hIR := hIR hd hl
  obtain ⟨hDW, hl2⟩ := hDW hd hl
  have hd := hd.w
  have hE := hE hd
  have hM := hM hd
  have hE2 := hE2 hDW
  have hM2 := hM2 hDW
  have hEV2 := hEV2 hl2
  have hMV2 := fun k hk => hMV2 k hl2 hk
  have hHV2 := fun k hk => hHV2 k hl2 hk
  have b1 := hd.ns
  have b2 := hd.es
  have b3 := hd.os
  have b4 := hd.ss
  have c1 := hDW.ns
  have c2 := hDW.es
  have c3 := hDW.os
  have c4 := hDW.ss
  have hH2 := hH2 c1 c2 c3 c4
  have hHV2 := hHV2 (1 + 3 * D.1.length + 2 * D.2.1.length + 2 * D.2.2.1.length + D.2.2.2.1.length) (by omega)
  clear hn1 hzw hd hDW
  refine Wr.go ?_
  repeat' ((first | (have ee := True.intro; refine Wr.mk ?_) | ((first | refine br_go ?_ ?_ | refine pick_go ?_ ?_) <;> intro ee f <;> (try simp only [BB] at f) <;> (try simp only [numOk, verOk] at f)) | (have ee := True.intro; first | refine dr_go mixed (id := 8) [([], [2], []), ([0], [31], []), ([], [3], []), ([0, 1, 2], [33], []), ([0, 1, 2, 3], [32, 34], []), ([0, 1, 2, 3, 4], [35], []), ([0, 1, 2, 3, 4, 5], [30], []), ([0, 1, 2, 3, 4, 5], [30], []), ([0, 1, 2, 3, 4, 5], [30], []), ([], [], []), ([], [], []), ([0, 1, 2, 3, 4, 5, 6, 9, 10], [6, 36], []), ([0, 1, 2, 3, 4, 5, 6, 7, 9, 10, 11], [7, 37], []), ([0, 1, 2, 3, 4, 5, 6, 7, 8, 9, 10, 11, 12], [38], [])] rfl rfl rfl ?_ | refine dr_go mixed (id := 14) [([], [9], []), ([], [2], []), ([1], [66], []), ([0, 1, 2], [65, 67], []), ([0, 1, 2, 3], [68], [])] rfl rfl rfl ?_ | refine dr_go mixed (id := 16) [([], [10], []), ([], [3], []), ([1], [71], []), ([0, 1, 2], [70, 72], []), ([0, 1, 2, 3], [73], [])] rfl rfl rfl ?_ | refine dr_go mixed (id := 35) [([], [2], []), ([0], [120], []), ([], [3], []), ([0, 1, 2], [122], []), ([0, 1, 2, 3], [121, 123], []), ([0, 1, 2, 3, 4], [124], []), ([0, 1, 2, 3, 4, 5], [119], []), ([0, 1, 2, 3, 4, 5], [119], []), ([0, 1, 2, 3, 4, 5], [119], []), ([], [], []), ([], [], []), ([0, 1, 2, 3, 4, 5, 6, 9, 10], [17, 125], []), ([0, 1, 2, 3, 4, 5, 6, 7, 9, 10, 11], [18, 126], []), ([0, 1, 2, 3, 4, 5, 6, 7, 8, 9, 10, 11, 12], [127], [])] rfl rfl rfl ?_ | (refine call_h (key := 2624) [] [] (hTR) (by decide) rfl rfl ?_; rintro _ _ ⟨rfl, rfl⟩) | (refine call_h (key := 2752) [] [] (hVR) (by decide) rfl rfl ?_; rintro _ _ ⟨rfl, rfl⟩) | refine call_x (hT) rfl ⟨rfl⟩ ?_ | refine call_x (hV) rfl ⟨rfl⟩ ?_ | refine call_x (hS) rfl ⟨rfl⟩ ?_ | refine call_x (hI) rfl ⟨rfl⟩ ?_ | refine call_x (hE2) rfl ⟨rfl⟩ ?_ | refine call_x (hEV2) rfl ⟨rfl⟩ ?_ | (refine call_h [] [2624,2625,2626,2627,2752] (hIR) (by decide) ?_ rfl ?_; (focus (first | rfl | (simp (maxSteps := 1000000) (disch := first | omega | (simp only [LN, numOk, verOk, dkP, dkR, dkH, beq_self_eq_true, bkd, seqL_length, List.length_map, nfx_en, nfx_nd, elOk_en, elOk_nd] <;> omega) | exact Ck.mk rfl) only [VC, T, Nat.reduceMul, Nat.reduceAdd, Nat.reduceSub, Nat.reduceLT, Nat.reduceEqDiff, Nat.reduceLeDiff, Nat.reduceBEq, reduceCtorEq, Int.reduceToNat, ↓reduceIte, dkP, dkR, dkH, beq_self_eq_true, bkd, seqL_length, List.length_map, nfx_en, nfx_nd, elOk_en, elOk_nd]; done))); rintro _ _ ⟨rfl, rfl⟩) | (refine call_hx [] [3008,3009,3010,3011] (hE2) (by decide) ?_ rfl ?_; (focus (first | rfl | (simp (maxSteps := 1000000) (disch := first | omega | (simp only [LN, numOk, verOk, dkP, dkR, dkH, beq_self_eq_true, bkd, seqL_length, List.length_map, nfx_en, nfx_nd, elOk_en, elOk_nd] <;> omega) | exact Ck.mk rfl) only [VC, T, Nat.reduceMul, Nat.reduceAdd, Nat.reduceSub, Nat.reduceLT, Nat.reduceEqDiff, Nat.reduceLeDiff, Nat.reduceBEq, reduceCtorEq, Int.reduceToNat, ↓reduceIte, dkP, dkR, dkH, beq_self_eq_true, bkd, seqL_length, List.length_map, nfx_en, nfx_nd, elOk_en, elOk_nd]; done)))) | (refine call_hx [] [3012] (hEV2) (by decide) ?_ rfl ?_; (focus (first | rfl | (simp (maxSteps := 1000000) (disch := first | omega | (simp only [LN, numOk, verOk, dkP, dkR, dkH, beq_self_eq_true, bkd, seqL_length, List.length_map, nfx_en, nfx_nd, elOk_en, elOk_nd] <;> omega) | exact Ck.mk rfl) only [VC, T, Nat.reduceMul, Nat.reduceAdd, Nat.reduceSub, Nat.reduceLT, Nat.reduceEqDiff, Nat.reduceLeDiff, Nat.reduceBEq, reduceCtorEq, Int.reduceToNat, ↓reduceIte, dkP, dkR, dkH, beq_self_eq_true, bkd, seqL_length, List.length_map, nfx_en, nfx_nd, elOk_en, elOk_nd]; done)))) | (refine call_hx [] [2624,2625,2626,2627] (hE) (by decide) ?_ rfl ?_; (focus (first | rfl | (simp (maxSteps := 1000000) (disch := first | omega | (simp only [LN, numOk, verOk, dkP, dkR, dkH, beq_self_eq_true, bkd, seqL_length, List.length_map, nfx_en, nfx_nd, elOk_en, elOk_nd] <;> omega) | exact Ck.mk rfl) only [VC, T, Nat.reduceMul, Nat.reduceAdd, Nat.reduceSub, Nat.reduceLT, Nat.reduceEqDiff, Nat.reduceLeDiff, Nat.reduceBEq, reduceCtorEq, Int.reduceToNat, ↓reduceIte, dkP, dkR, dkH, beq_self_eq_true, bkd, seqL_length, List.length_map, nfx_en, nfx_nd, elOk_en, elOk_nd]; done)))) | (refine call_hx [] [2752] (hEV) (by decide) ?_ rfl ?_; (focus (first | rfl | (simp (maxSteps := 1000000) (disch := first | omega | (simp only [LN, numOk, verOk, dkP, dkR, dkH, beq_self_eq_true, bkd, seqL_length, List.length_map, nfx_en, nfx_nd, elOk_en, elOk_nd] <;> omega) | exact Ck.mk rfl) only [VC, T, Nat.reduceMul, Nat.reduceAdd, Nat.reduceSub, Nat.reduceLT, Nat.reduceEqDiff, Nat.reduceLeDiff, Nat.reduceBEq, reduceCtorEq, Int.reduceToNat, ↓reduceIte, dkP, dkR, dkH, beq_self_eq_true, bkd, seqL_length, List.length_map, nfx_en, nfx_nd, elOk_en, elOk_nd]; done)))) | (refine call_h [2624,2625,2626,2627] [] (hM) (by decide) rfl rfl ?_; rintro _ _ ⟨rfl, rfl⟩) | (refine call_h [2752] [] (hMV _ (by omega)) (by decide) rfl rfl ?_; rintro _ _ ⟨rfl, rfl⟩) | (refine call_h [3008,3009,3010,3011] [] (hM2) (by decide) rfl rfl ?_; rintro _ _ ⟨rfl, rfl⟩) | (refine call_h [3012] [] (hMV2 _ (by omega)) (by decide) rfl rfl ?_; rintro _ _ ⟨rfl, rfl⟩) | (refine call_hx [] [3008,3009,3010,3011] (hH2) (by decide) ?_ rfl ?_; (focus (first | rfl | (simp (maxSteps := 1000000) (disch := first | omega | (simp only [LN, numOk, verOk, dkP, dkR, dkH, beq_self_eq_true, bkd, seqL_length, List.length_map, nfx_en, nfx_nd, elOk_en, elOk_nd] <;> omega) | exact Ck.mk rfl) only [VC, T, Nat.reduceMul, Nat.reduceAdd, Nat.reduceSub, Nat.reduceLT, Nat.reduceEqDiff, Nat.reduceLeDiff, Nat.reduceBEq, reduceCtorEq, Int.reduceToNat, ↓reduceIte, dkP, dkR, dkH, beq_self_eq_true, bkd, seqL_length, List.length_map, nfx_en, nfx_nd, elOk_en, elOk_nd]; done)))) | (refine call_hx [] [3012] (hHV2) (by decide) ?_ rfl ?_; (focus (first | rfl | (simp (maxSteps := 1000000) (disch := first | omega | (simp only [LN, numOk, verOk, dkP, dkR, dkH, beq_self_eq_true, bkd, seqL_length, List.length_map, nfx_en, nfx_nd, elOk_en, elOk_nd] <;> omega) | exact Ck.mk rfl) only [VC, T, Nat.reduceMul, Nat.reduceAdd, Nat.reduceSub, Nat.reduceLT, Nat.reduceEqDiff, Nat.reduceLeDiff, Nat.reduceBEq, reduceCtorEq, Int.reduceToNat, ↓reduceIte, dkP, dkR, dkH, beq_self_eq_true, bkd, seqL_length, List.length_map, nfx_en, nfx_nd, elOk_en, elOk_nd]; done)))))) <;> (try simp (maxSteps := 1000000) (disch := first | omega | (simp only [LN, numOk, verOk, dkP, dkR, dkH, beq_self_eq_true, bkd, seqL_length, List.length_map, nfx_en, nfx_nd, elOk_en, elOk_nd] <;> omega) | exact Ck.mk rfl) only [ee, VC, T, Nat.reduceMul, Nat.reduceAdd, Nat.reduceSub, Nat.reduceLT, Nat.reduceEqDiff, Nat.reduceLeDiff, Nat.reduceBEq, reduceCtorEq, Int.reduceToNat, ↓reduceIte, dkP, dkR, dkH, beq_self_eq_true, bkd, seqL_length, List.length_map, nfx_en, nfx_nd, elOk_en, elOk_nd]) <;> (try clear ee))
end Go.Pv

/- What a law's contract in plain values says of its walk. -/
namespace Go.Pv

variable {P : Program}
theorem kp_below {Γ : Nat → Value} {w w' : World} (h : Kp (Ow Γ []) w w') : Go.RowKit.Below w.heap.size w w' :=
  ⟨h.os, h.tape, h.output, h.size, fun k hk => h.block k hk fun ⟨_, l, _⟩ => l.elim⟩
/-- Nothing is handed over. -/
def No : Bl := fun _ => False
def Ga : Nat → Value := fun _ => .bool false
/-- The arguments of a law. -/
def Lay (w : World) (args : List PV) (vs : List Value) : Prop := vs.length = args.length ∧ ∀ (i : Nat) (x : PV) (v : Value), args[i]? = some x → vs[i]? = some v → DR w No x v
theorem lay_nil {w : World} : Lay w [] [] := ⟨rfl, fun _ _ _ h => by simp at h⟩
theorem lay_cons {w : World} {x : PV} {v : Value} {xs : List PV} {vs : List Value} (h : DR w No x v) (k : Lay w xs vs) : Lay w (x :: xs) (v :: vs) :=
  ⟨congrArg (· + 1) k.1, fun i y u h1 h2 => by
    cases i with
    | zero => simp at h1 h2; obtain rfl := h1; obtain rfl := h2; exact h
    | succ i => exact k.2 i y u (by simpa using h1) (by simpa using h2)⟩
theorem Fn.law {f : FuncId} {args : List PV} {vs : List Value} {w : World} {b : Bool} (h : Fn P f args [] (.bool b) []) (hg : Glo w No No) (hl : Lay w args vs) :
    Calls P f vs.toArray w fun e w' => e = .returned (.bool b) ∧ Go.RowKit.Below w.heap.size w w' := by
  have no : ∀ b, ¬ Av No Ga [] b := fun b hb => hb.elim id fun ⟨_, l, _⟩ => l
  refine (h.run w No Ga vs.toArray ⟨fun _ h => h.elim, fun g cs e => ⟨(hg g cs e).1, fun ⟨_, l, _⟩ => l, (hg g cs e).2.2⟩⟩ (by simpa using hl.1) (fun i x hx => ?_) (fun _ => trivial) fun _ _ _ l => l.elim).mono ?_
  · have hi : i < vs.length := by
      rw [hl.1]
      exact (List.getElem?_eq_some_iff.1 hx).1
    have e := hl.2 i x vs[i] hx (List.getElem?_eq_getElem hi)
    have g : vs.toArray.getD i undef = vs[i] := by simp [Array.getD, hi]
    rw [g]
    exact .data (e.step (fun _ _ _ => rfl) fun b _ hb => (no b hb).elim)
  · rintro e w' ⟨v, Γ', rfl, h1, h2, _⟩
    refine ⟨?_, kp_below h1⟩
    cases h2 with
    | data h => cases h; rfl
end Go.Pv

/- A law's arguments, opened: whole numbers, texts, slices and structs of them. -/
namespace Go.Pv
open Go.RowKit Go.WideShapes

section
variable {H : Type} {enc : TypeId × Value → H} {P : Program} {w : World} {α β : Type}

/-- What is read at type t, out of k cells, is 'f a', for an a of which R holds. -/
def Opn (enc : TypeId × Value → H) (P : Program) (w : World) (t : TypeId) (k : Nat) (f : α → PV) (R : α → Prop) : Prop :=
  ∀ (fuel : Nat) (cs : List Value) (d : DataW H × List MemPlace), DataW.trod enc P w 0 (fun _ => true) true fuel t cs = some d →
    cs.length = k ∧ ∃ a, R a ∧ (flat (f a)).length = k ∧ ∀ (j : Nat) (y : PV), (flat (f a))[j]? = some y → DR w No y (cs.getD j undef)
theorem one_dr {x : PV} {v : Value} (hx : flat x = [x]) (h : DR w No x v) : (flat x).length = 1 ∧ ∀ (j : Nat) (y : PV), (flat x)[j]? = some y → DR w No y ([v].getD j undef) := by
  rw [hx]
  refine ⟨rfl, fun j y hy => ?_⟩
  cases j with
  | zero => cases hy; exact h
  | succ j => simp at hy
theorem opn_int {t : TypeId} {k : IntKind} (ht : P.underlying t = some (.int k)) : Opn enc P w t 1 (PV.int k) (fun n => (Lit.int k n).wf = true) := fun fuel cs d h => by
  obtain ⟨n, rfl, _, hw⟩ := DataW.trod_int ht h
  exact ⟨rfl, n, hw, one_dr rfl (.int k n)⟩
theorem int_wf {n : Int} (h : (Lit.int .i64 n).wf = true) : -9223372036854775808 ≤ n ∧ n ≤ 9223372036854775807 := by
  simp only [Lit.wf, Bool.and_eq_true, decide_eq_true_eq] at h
  exact h
theorem opn_i64 {t : TypeId} (ht : P.underlying t = some (.int .i64)) : Opn enc P w t 1 (PV.int .i64) (fun n => -9223372036854775808 ≤ n ∧ n ≤ 9223372036854775807) := fun fuel cs d h => by
  obtain ⟨h1, a, h2, h3⟩ := opn_int ht fuel cs d h
  exact ⟨h1, a, int_wf h2, h3⟩
theorem opn_bool {t : TypeId} (ht : P.underlying t = some .bool) : Opn enc P w t 1 PV.bool (fun _ => True) := fun fuel cs d h => by
  obtain ⟨n, rfl, _⟩ := DataW.trod_bool ht h
  exact ⟨rfl, n, trivial, one_dr rfl (.bool n)⟩
theorem opn_str {t : TypeId} (ht : P.underlying t = some .string) : Opn enc P w t 1 PV.str (fun s => s.size ≤ 9223372036854775807) := fun fuel cs d h => by
  obtain ⟨s, rfl, _, hs⟩ := DataW.trod_string ht h
  exact ⟨rfl, s, hs, one_dr rfl (.str s)⟩
theorem all_list {Q : Nat → α → Prop} : ∀ (n : Nat), (∀ i, i < n → ∃ a, Q i a) → ∃ l : List α, l.length = n ∧ ∀ i a, l[i]? = some a → Q i a
  | 0, _ => ⟨[], rfl, fun i a h => by simp at h⟩
  | n + 1, h => by
    obtain ⟨l, h1, h2⟩ := all_list n fun i hi => h i (by omega)
    obtain ⟨a, ha⟩ := h n (by omega)
    refine ⟨l ++ [a], by simp [h1], fun i x hx => ?_⟩
    by_cases hi : i < l.length
    · rw [List.getElem?_append_left hi] at hx; exact h2 i x hx
    · rw [List.getElem?_append_right (by omega)] at hx
      by_cases e : i = l.length
      · subst e; rw [Nat.sub_self] at hx; cases hx; rw [h1]; exact ha
      · rw [show i - l.length = (i - l.length - 1) + 1 by omega] at hx; simp at hx
theorem opn_slice {t e : TypeId} {k : Nat} {f : α → PV} {R : α → Prop} (ht : P.underlying t = some (.slice e)) (hk : P.cellsOf e = k) (h0 : 0 < k) (he : Opn enc P w e k f R) :
    Opn enc P w t 1 (fun l : List α => .far (l.map f)) (fun l => l.length ≤ 9223372036854775807 ∧ ∀ a ∈ l, R a) := fun fuel cs d h => by
  rcases DataW.trod_slice ht h with ⟨rfl, _⟩ | ⟨a, len, cap, elems, rest, n, _, rfl, _, _, hl, hm, hlen, hel, _, _⟩
  · exact ⟨rfl, [], ⟨by simp, by simp⟩, one_dr rfl (.far0 _ _)⟩
  · refine ⟨rfl, ?_⟩
    rw [hk] at hel
    have each : ∀ i, i < len → ∃ x, R x ∧ (flat (f x)).length = k ∧ ∀ (j : Nat) (y : PV), (flat (f x))[j]? = some y → ∃ v, w.cell? ((a.add (i * k)).add j) = some v ∧ DR w No y v := fun i hi => by
      have h1 := hel i hi
      rw [List.getElem?_eq_getElem (by omega), Option.bind_eq_some_iff] at h1
      obtain ⟨cs, h2, h3⟩ := h1
      obtain ⟨h4, x, h5, h6, h7⟩ := he _ _ _ h3
      refine ⟨x, h5, h6, fun j y hy => ?_⟩
      have hj : j < k := by rw [← h6]; exact (List.getElem?_eq_some_iff.1 hy).1
      unfold World.cells? at h2
      rw [if_pos (Nat.zero_le _)] at h2
      have h8 := mapM_some_get h2 j j (by simp [hj])
      rw [List.getElem?_eq_getElem (by omega)] at h8
      refine ⟨_, h8, ?_⟩
      have := h7 j y hy
      rw [List.getD_eq_getElem?_getD, List.getElem?_eq_getElem (by omega)] at this
      exact this
    obtain ⟨l, h1, h2⟩ := all_list len each
    refine ⟨l, ⟨by rw [h1]; exact Nat.le_trans hl hm, fun x hx => ?_⟩, one_dr rfl ?_⟩
    · obtain ⟨i, hi⟩ := List.getElem?_of_mem hx
      exact (h2 i x hi).1
    · by_cases hz : len = 0
      · obtain rfl : l = [] := List.eq_nil_of_length_eq_zero (by omega)
        subst hz
        exact .far0 _ _
      · obtain ⟨β, o, spot⟩ := a
        have cell : ∀ (i : Nat) (x : α) (j : Nat) (y : PV), l[i]? = some x → (flat (f x))[j]? = some y → ∃ v, w.cell? ⟨β, o + i * k + j, if i * k = 0 ∧ j = 0 then spot else none⟩ = some v ∧ DR w No y v := fun i x j y hx hy => by
          obtain ⟨v, q1, q2⟩ := (h2 i x hx).2.2 j y hy
          refine ⟨v, ?_, q2⟩
          rw [← q1]
          unfold Addr.add
          by_cases e1 : i * k = 0 <;> by_cases e2 : j = 0 <;> simp [e1, e2]
        obtain ⟨x0, hx0⟩ : ∃ x, l[0]? = some x := ⟨l[0]'(by omega), List.getElem?_eq_getElem (by omega)⟩
        have hfl := (h2 0 x0 hx0).2.1
        obtain ⟨v, q1, _⟩ := cell 0 x0 0 ((flat (f x0))[0]'(by omega)) hx0 (List.getElem?_eq_getElem (by omega))
        simp only [Nat.zero_mul, true_and, and_self, if_true] at q1
        obtain ⟨c, t', fr, hw, hs⟩ : ∃ c t' fr, w.heap[β]? = some (.cells c t' fr) ∧ spot = none := by
          unfold World.cell? at q1
          split at q1
          · rename_i c t' fr hw
            refine ⟨c, t', fr, hw, ?_⟩
            cases spot with
            | none => rfl
            | some s => simp at q1
          · cases q1
        subst hs
        simp only [ite_self] at cell
        have cc : ∀ (i : Nat) (x : α) (j : Nat) (y : PV), l[i]? = some x → (flat (f x))[j]? = some y → o + i * k + j < c.size ∧ DR w No y (c.getD (o + i * k + j) undef) := fun i x j y hx hy => by
          obtain ⟨v, q1, q2⟩ := cell i x j y hx hy
          unfold World.cell? at q1
          simp only [hw] at q1
          have q3 := (Array.getElem?_eq_some_iff.1 (by simpa using q1 : c[o + i * k + j]? = some v)).1
          refine ⟨q3, ?_⟩
          have q4 : c[o + i * k + j]? = some v := by simpa using q1
          rw [Array.getD_eq_getD_getElem?, q4]
          exact q2
        have pick : ∀ (i : Nat) (x : PV), (l.map f)[i]? = some x → ∃ a, l[i]? = some a ∧ x = f a := fun i x hx => by
          rw [List.getElem?_map, Option.map_eq_some_iff] at hx
          obtain ⟨a, ha, rfl⟩ := hx
          exact ⟨a, ha, rfl⟩
        have key := DR.far (w := w) (A := No) (l.map f) β o cap k c t' fr (fun h => h) hw (by simpa [h1] using hl)
          (fun i x hx => by obtain ⟨a, ha, rfl⟩ := pick i x hx; exact (h2 i a ha).2.1)
          (fun i x j y hx hy => by obtain ⟨a, ha, rfl⟩ := pick i x hx; exact (cc i a j y ha hy).1)
          (fun i x j y hx hy => by obtain ⟨a, ha, rfl⟩ := pick i x hx; exact (cc i a j y ha hy).2)
        rw [List.length_map, h1] at key
        exact key
/-- The fields of a struct, from cell 'off' on, each of one cell. -/
def OpnF (enc : TypeId × Value → H) (P : Program) (w : World) (fs : List Field) (off : Nat) (f : α → List PV) (R : α → Prop) : Prop :=
  ∀ (n : Nat) (cs : List Value), (∀ (i : Nat) (fl : Field), fs[i]? = some fl → ∃ d, DataW.trod enc P w 0 (fun _ => true) true n fl.type ((cs.drop fl.offset).take (P.cellsOf fl.type)) = some d) →
    ∃ a, R a ∧ (f a).length = fs.length ∧ ∀ (j : Nat) (y : PV), (f a)[j]? = some y → DR w No y (cs.getD (off + j) undef)
theorem opnf_fld {fl : Field} {off : Nat} {f1 : α → PV} {R1 : α → Prop} (hk : P.cellsOf fl.type = 1) (ho : fl.offset = off) (hf : ∀ a, flat (f1 a) = [f1 a]) (h1 : Opn enc P w fl.type 1 f1 R1) {n : Nat} {cs : List Value} {d : DataW H × List MemPlace}
    (h : DataW.trod enc P w 0 (fun _ => true) true n fl.type ((cs.drop fl.offset).take (P.cellsOf fl.type)) = some d) : ∃ a, R1 a ∧ DR w No (f1 a) (cs.getD off undef) := by
  rw [hk, ho] at h
  obtain ⟨e, a, q1, q2, q3⟩ := h1 _ _ _ h
  refine ⟨a, q1, ?_⟩
  rw [hf] at q3
  have q4 := q3 0 _ rfl
  have e2 : ((cs.drop off).take 1).getD 0 undef = cs.getD off undef := by
    rw [List.getD_eq_getElem?_getD, List.getD_eq_getElem?_getD, List.getElem?_take_of_lt (by decide), List.getElem?_drop, Nat.add_zero]
  rw [e2] at q4
  exact q4
theorem opnf_one {fl : Field} {off : Nat} {f1 : α → PV} {R1 : α → Prop} (hk : P.cellsOf fl.type = 1) (ho : fl.offset = off) (hf : ∀ a, flat (f1 a) = [f1 a]) (h1 : Opn enc P w fl.type 1 f1 R1) : OpnF enc P w [fl] off (fun a => [f1 a]) R1 := fun n cs h => by
  obtain ⟨d, hd⟩ := h 0 fl rfl
  obtain ⟨a, q1, q2⟩ := opnf_fld hk ho hf h1 hd
  refine ⟨a, q1, rfl, fun j y hy => ?_⟩
  cases j with
  | zero => cases hy; exact q2
  | succ j => simp at hy
theorem opnf_cons {fl : Field} {fs : List Field} {off : Nat} {f1 : α → PV} {R1 : α → Prop} {f2 : β → List PV} {R2 : β → Prop} (hk : P.cellsOf fl.type = 1) (ho : fl.offset = off) (hf : ∀ a, flat (f1 a) = [f1 a]) (h1 : Opn enc P w fl.type 1 f1 R1) (h2 : OpnF enc P w fs (off + 1) f2 R2) :
    OpnF enc P w (fl :: fs) off (fun p : α × β => f1 p.1 :: f2 p.2) (fun p => R1 p.1 ∧ R2 p.2) := fun n cs h => by
  obtain ⟨d, hd⟩ := h 0 fl rfl
  obtain ⟨a, q1, q2⟩ := opnf_fld hk ho hf h1 hd
  obtain ⟨b, q3, q4, q5⟩ := h2 n cs fun i g hg => h (i + 1) g (by simpa using hg)
  refine ⟨(a, b), ⟨q1, q3⟩, by simp [q4], fun j y hy => ?_⟩
  cases j with
  | zero => cases hy; exact q2
  | succ j =>
    have := q5 j y (by simpa using hy)
    rwa [show off + 1 + j = off + (j + 1) by omega] at this
theorem opn_struct {t : TypeId} {fs : Array Field} {fl : List Field} {n : Nat} {f : α → List PV} {R : α → Prop} (ht : P.underlying t = some (.struct fs)) (hfs : fs.toList = fl) (hc : P.cellsOf t = n) (hn : fl.length = n) (h : OpnF enc P w fl 0 f R) : Opn enc P w t n (fun a => .agg (f a)) R := fun fuel cs d hd => by
  obtain ⟨xs, m, _, _, h1, h2, h3⟩ := DataW.trod_struct ht hd
  subst hfs
  obtain ⟨a, q1, q2, q3⟩ := h m cs fun i g hg => by
    have hi : i < fs.size := by simpa using (List.getElem?_eq_some_iff.1 hg).1
    rw [h3 i g (by simpa using hg), List.getElem?_eq_getElem (by omega)]
    exact ⟨_, rfl⟩
  refine ⟨h1.trans hc, a, q1, q2.trans hn, fun j y hy => ?_⟩
  have := q3 j y hy
  rwa [Nat.zero_add] at this
/-- A struct, and a slice, as an argument. -/
theorem arg_struct {t : TypeId} {n : Nat} {fs : Array Field} {f : α → List PV} {R : α → Prop} {base : Nat} {v : Value} {d : DataW H} {ps : List MemPlace} (ht : P.underlying t = some (.struct fs)) (h : Opn enc P w t n (fun a => .agg (f a)) R) (hval : Value.okWide P w .any base t v)
    (hd : DataW.Trod enc P w 0 (fun _ => true) true t v d ps) : ∃ a, R a ∧ DR w No (.agg (f a)) v := by
  obtain ⟨cs, rfl, _⟩ := okWide_struct ht hval
  obtain ⟨fuel, hf⟩ := hd
  obtain ⟨h1, a, h2, h3, h4⟩ := h _ _ _ hf
  refine ⟨a, h2, .agg _ _ ?_ fun i x hx => ?_⟩
  · have : (flat (.agg (f a))).length = (f a).length := rfl
    simp only [Value.cells] at h1
    rw [← this, h3, ← h1, Array.length_toList]
  · have := h4 i x hx
    simp only [Value.cells] at this
    rwa [List.getD_eq_getElem?_getD, Array.getElem?_toList, ← Array.getD_eq_getD_getElem?] at this
end
end Go.Pv
