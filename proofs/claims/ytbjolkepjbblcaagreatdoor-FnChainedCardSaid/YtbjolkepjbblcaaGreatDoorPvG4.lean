/- The texts of this claim, part 4: a small logic of plain values for the model's runs, what it says of the functions, in plain values. -/
import Derived.Below
import Derived.ChangeArms
import Derived.ChangeShapes
import Derived.WideShapes
import Derived.Test.YtbjolkepjbblcaaGreatDoorPvG0
import Derived.Test.YtbjolkepjbblcaaGreatDoorPvG1
import Derived.Test.YtbjolkepjbblcaaGreatDoorPvG2
import Derived.Test.YtbjolkepjbblcaaGreatDoorPvG3
/- What functions of the program and of the reference do, in plain values. -/
namespace Go.Pv
open Go.Proofs Go.Mth
set_option linter.unusedSimpArgs false
set_option linter.unusedVariables false
set_option maxHeartbeats 4000000
set_option maxRecDepth 4000

/-! ### the reference's deeds on disks -/
theorem spec_RemoveFile_R (d : Dk) (n : ByteArray) (h : DkB 1048575 1048576 d) (hn : n.size ≤ 1048575) : FnE Tryz.prog 218 [dkP d, .str n] [] (fun r m => r = .tup [dkR 64 (removeT d n).1, .int .i64 (removeT d n).2] ∧ m = dkH (removeT d n).1) := by
  have ok := h.ok (by decide) (by decide)
  have hes := h.es
  have hc := spec_l05Copy_R d ok
  have hO := spec_DiskOk d ok
  have hH : Fn Tryz.prog 95 [.far (d.2.1.map enP), .str n] [] (.bool (decide (hasT d.2.1 n))) [] := spec_l06Has d.2.1 n (by omega)
  have hD := spec_l06Drop_R d.2.1 n (by omega)
  have e1 : ¬ diskOk d → removeT d n = (d, 3) := fun a => if_pos (.inl a)
  have e2 : ¬ hasT d.2.1 n → removeT d n = (d, 3) := fun a => if_pos (.inr a)
  have e3 : diskOk d → hasT d.2.1 n → removeT d n = (cleanT (d.1, dropT d.2.1 n, d.2.2.1, d.2.2.2.1 ++ [strOf [45] ++ n], d.2.2.2.2), 0) := fun a b => if_neg (by simp [a, b])
  have hcl := spec_l06Clean_R (d.1, dropT d.2.1 n, d.2.2.1, d.2.2.2.1 ++ [strOf [45] ++ n], d.2.2.2.2) ⟨ok.ns, Nat.le_trans (dropT_len _ _) ok.es, ok.os, by rw [List.length_append, List.length_singleton]; have := h.ss; omega, ok.nt, dropT_mem ok.et, ok.ot, mem_snoc ok.st (by simp only [ByteArray.size_append, strOf_size, List.length_singleton]; omega)⟩
  have hs0 : strOf [45] = ⟨#[45]⟩ := rfl
  rw [hs0] at hcl e3
  have hcc : ∀ x, (cleanT (d.1, x)) = ((cleanT (d.1, x)).1, x) := fun x => rfl
  have hss := h.ss
  have hns := h.ns
  have hos := h.os
  rw [hcc] at e3
  generalize (cleanT (d.1, dropT d.2.1 n, d.2.2.1, d.2.2.2.1 ++ [⟨#[45]⟩ ++ n], d.2.2.2.2)).1 = C at *
  have hq2 := hn
  generalize removeT d n = q at *
  have hdl := dropT_len d.2.1 n
  unfold dkP dkR dkH at *
  simp only [List.length_append, List.length_singleton] at hcl
  refine fn_e tok (n := 33) (rs := [.cell 4 32, .tmp 5]) Tryz.func218 (by decide) rfl rfl rfl rfl (low_of rfl) ?_
  refine Wr.go ?_
  repeat' ((first | (have ee := True.intro; refine Wr.mk ?_) | ((first | refine br_go ?_ ?_ | refine pick_go ?_ ?_) <;> intro ee f <;> (try simp only [BB] at f) <;> (try simp only [numOk, verOk] at f)) | (have ee := True.intro; first | (refine call_h [] [] (hc) (by decide) rfl rfl ?_; rintro _ _ ⟨rfl, rfl⟩) | (refine call_hx [] [512,513,514,515] (hO) (by decide) ?_ rfl ?_; (focus (first | rfl | (simp (maxSteps := 1000000) (disch := first | omega | (simp only [LN, numOk, verOk, rfP, rvP, rhP, frP, elOk_en, elOk_nd, nfx_en, nfx_nd] <;> omega) | exact Ck.mk rfl) only [VC, T, Nat.reduceMul, Nat.reduceAdd, Nat.reduceSub, Nat.reduceLT, Nat.reduceEqDiff, Nat.reduceLeDiff, Nat.reduceBEq, reduceCtorEq, Int.reduceToNat, ↓reduceIte, rfP, rvP, rhP, frP, elOk_en, elOk_nd, nfx_en, nfx_nd]; done)))) | (refine call_hx [] [513] (hH) (by decide) ?_ rfl ?_; (focus (first | rfl | (simp (maxSteps := 1000000) (disch := first | omega | (simp only [LN, numOk, verOk, rfP, rvP, rhP, frP, elOk_en, elOk_nd, nfx_en, nfx_nd] <;> omega) | exact Ck.mk rfl) only [VC, T, Nat.reduceMul, Nat.reduceAdd, Nat.reduceSub, Nat.reduceLT, Nat.reduceEqDiff, Nat.reduceLeDiff, Nat.reduceBEq, reduceCtorEq, Int.reduceToNat, ↓reduceIte, rfP, rvP, rhP, frP, elOk_en, elOk_nd, nfx_en, nfx_nd]; done)))) | (refine call_h [] [513] (hD) (by decide) ?_ rfl ?_; (focus (first | rfl | (simp (maxSteps := 1000000) (disch := first | omega | (simp only [LN, numOk, verOk, rfP, rvP, rhP, frP, elOk_en, elOk_nd, nfx_en, nfx_nd] <;> omega) | exact Ck.mk rfl) only [VC, T, Nat.reduceMul, Nat.reduceAdd, Nat.reduceSub, Nat.reduceLT, Nat.reduceEqDiff, Nat.reduceLeDiff, Nat.reduceBEq, reduceCtorEq, Int.reduceToNat, ↓reduceIte, rfP, rvP, rhP, frP, elOk_en, elOk_nd, nfx_en, nfx_nd]; done))); rintro _ _ ⟨rfl, rfl⟩) | (refine call_h [512,1472,514,515] [] (hcl) (by decide) rfl rfl ?_; rintro _ _ ⟨rfl, rfl⟩))) <;> (try simp (maxSteps := 1000000) (disch := first | omega | (simp only [LN, numOk, verOk, rfP, rvP, rhP, frP, elOk_en, elOk_nd, nfx_en, nfx_nd] <;> omega) | exact Ck.mk rfl) only [ee, VC, T, Nat.reduceMul, Nat.reduceAdd, Nat.reduceSub, Nat.reduceLT, Nat.reduceEqDiff, Nat.reduceLeDiff, Nat.reduceBEq, reduceCtorEq, Int.reduceToNat, ↓reduceIte, rfP, rvP, rhP, frP, elOk_en, elOk_nd, nfx_en, nfx_nd]) <;> (try clear ee))
  · cases e3 (by assumption) f
    exact fin_t [some 2112, some 1472, some 514, some 515] (⟨rfl, rfl⟩) rfl (by simp [RV, RV2, RVl, RV1, tau, tget, hget, data1, oneOf, List.length_append]) (by simp [RH, RVl, RV1, tau, hget, data1, List.length_append]) (by simp [Taus, hget, List.length_append])
  · cases e2 f
    exact fin_t [some 512, some 513, some 514, some 515] (⟨rfl, rfl⟩) rfl (by simp [RV, RV2, RVl, RV1, tau, tget, hget, data1, oneOf]) (by simp [RH, RVl, RV1, tau, hget, data1]) (by simp [Taus, hget])
  · cases e1 f
    exact fin_t [some 512, some 513, some 514, some 515] (⟨rfl, rfl⟩) rfl (by simp [RV, RV2, RVl, RV1, tau, tget, hget, data1, oneOf]) (by simp [RH, RVl, RV1, tau, hget, data1]) (by simp [Taus, hget])
theorem spec_RemoveFile (d : Dk) (n : ByteArray) (h : DkB 1048575 1048576 d) (hn : n.size ≤ 1048575) : Fn Tryz.prog 218 [dkP d, .str n] [] (.tup [dkP (removeT d n).1, .int .i64 (removeT d n).2]) [] := by
  obtain ⟨_, _, ⟨rfl, rfl⟩, k⟩ := spec_RemoveFile_R d n h hn
  refine k.far ?_
  simp [fz, fz2, fz1, cvtl, elems, dkR, dkH, dkP, hget, data1]
theorem spec_DiskNew_N (n : Int) : FnE Tryz.prog 37 [.int .i64 n] [] (fun r m => r = .agg [.nils, .nils, .nils, .nils, .int .i64 (if n < 0 then 0 else n), .int .i64 1] ∧ m = []) := by
  refine fn_e tok (n := 7) (rs := [.cell 2 32]) Tryz.func37 (by decide) rfl rfl rfl rfl (low_of rfl) ?_
  refine Wr.go ?_
  repeat' ((first | (have ee := True.intro; refine Wr.mk ?_) | ((first | refine br_go ?_ ?_ | refine pick_go ?_ ?_) <;> intro ee f <;> (try simp only [BB] at f) <;> (try simp only [numOk, verOk] at f))) <;> (try simp (maxSteps := 1000000) (disch := first | omega | (simp only [LN, numOk, verOk, rfP, rvP, rhP, frP, elOk_en, elOk_nd, nfx_en, nfx_nd] <;> omega) | exact Ck.mk rfl) only [ee, VC, T, Nat.reduceMul, Nat.reduceAdd, Nat.reduceSub, Nat.reduceLT, Nat.reduceEqDiff, Nat.reduceLeDiff, Nat.reduceBEq, reduceCtorEq, Int.reduceToNat, ↓reduceIte, rfP, rvP, rhP, frP, elOk_en, elOk_nd, nfx_en, nfx_nd]) <;> (try clear ee))
  · rw [if_pos f]
    exact fin_t [] (⟨rfl, rfl⟩) rfl (by simp [RV, RV2, RVl, RV1, tau, tget, hget, data1, oneOf]) (by simp [RH, RVl, RV1, tau, hget, data1]) (by simp [Taus, hget])
  · rw [if_neg (by omega)]
    exact fin_t [] (⟨rfl, rfl⟩) rfl (by simp [RV, RV2, RVl, RV1, tau, tget, hget, data1, oneOf]) (by simp [RH, RVl, RV1, tau, hget, data1]) (by simp [Taus, hget])
theorem spec_DiskNew (n : Int) : Fn Tryz.prog 37 [.int .i64 n] [] (dkP (newT n)) [] := by
  unfold newT dkP
  refine fn_x tok (n := 7) (rs := [.cell 2 32]) Tryz.func37 (by decide) rfl rfl rfl rfl ?_
  refine Wr.go ?_
  repeat' ((first | (have ee := True.intro; refine Wr.mk ?_) | ((first | refine br_go ?_ ?_ | refine pick_go ?_ ?_) <;> intro ee f <;> (try simp only [BB] at f) <;> (try simp only [numOk, verOk] at f))) <;> (try simp (maxSteps := 1000000) (disch := first | omega | (simp only [LN, numOk, verOk, rfP, rvP, rhP, frP, elOk_en, elOk_nd, nfx_en, nfx_nd] <;> omega) | exact Ck.mk rfl) only [ee, VC, T, Nat.reduceMul, Nat.reduceAdd, Nat.reduceSub, Nat.reduceLT, Nat.reduceEqDiff, Nat.reduceLeDiff, Nat.reduceBEq, reduceCtorEq, Int.reduceToNat, ↓reduceIte, rfP, rvP, rhP, frP, elOk_en, elOk_nd, nfx_en, nfx_nd]) <;> (try clear ee))
  · rw [if_pos f]
  · rw [if_neg (by omega)]
theorem usedT_nn (d : Dk) : 0 ≤ usedT d := by
  unfold usedT
  induction d.1 with
  | nil => exact Int.le_refl _
  | cons x r ih =>
    rw [List.map_cons, List.sum_cons]
    omega
theorem spec_CreateFile_R (d : Dk) (n : ByteArray) (h : DkB 1048575 1048576 d) (hn : n.size ≤ 1048576) : FnE Tryz.prog 36 [dkP d, .str n] [] (fun r m => r = .tup [dkR 64 (createT d n).1, .int .i64 (createT d n).2] ∧ m = dkH (createT d n).1) := by
  have ok := h.ok (by decide) (by decide)
  have hes := h.es
  have hss := h.ss
  have hns := h.ns
  have hos := h.os
  have hc := spec_l05Copy_R d ok
  have hO := spec_DiskOk d ok
  have hH : Fn Tryz.prog 95 [.far (d.2.1.map enP), .str n] [] (.bool (decide (hasT d.2.1 n))) [] := spec_l06Has d.2.1 n (by omega)
  have hN := spec_NameOk n (by omega)
  have hP : FnE Tryz.prog 96 [.far (d.2.1.map enP), .agg [.str n, .int .i64 d.2.2.2.2.2]] [] (fun r m => r = .row 64 (putT d.2.1 (n, d.2.2.2.2.2)).length ∧ m = [(64, .row ⟨2, 0⟩ ((putT d.2.1 (n, d.2.2.2.2.2)).map enP))]) := spec_l06Put_R d.2.1 (n, d.2.2.2.2.2) (by omega)
  have hpl := putT_len d.2.1 (n, d.2.2.2.2.2)
  have e1 : ¬ diskOk d → createT d n = (d, 3) := fun a => if_pos a
  have e2 : diskOk d → ¬ nmOk n → createT d n = (d, 1) := fun a b => by unfold createT; rw [if_neg (fun k => k a), if_pos b]
  have e3 : diskOk d → nmOk n → hasT d.2.1 n → createT d n = (d, 2) := fun a b c => by unfold createT; rw [if_neg (fun k => k a), if_neg (fun k => k b), if_pos c]
  have e4 : diskOk d → nmOk n → ¬ hasT d.2.1 n → (16 ≤ d.2.1.length ∨ 64 ≤ d.1.length ∨ 1000000000 ≤ d.2.2.2.2.2) → createT d n = (d, 4) := fun a b c e => by unfold createT; rw [if_neg (fun k => k a), if_neg (fun k => k b), if_neg c, if_pos e]
  have e5 : diskOk d → nmOk n → ¬ hasT d.2.1 n → ¬ (16 ≤ d.2.1.length ∨ 64 ≤ d.1.length ∨ 1000000000 ≤ d.2.2.2.2.2) → createT d n = (cleanT (d.1 ++ [(d.2.2.2.2.2, ⟨#[]⟩, 0)], putT d.2.1 (n, d.2.2.2.2.2), d.2.2.1, d.2.2.2.1 ++ [strOf [43] ++ n ++ strOf [58] ++ decT d.2.2.2.2.2], d.2.2.2.2.1, d.2.2.2.2.2 + 1), 0) := fun a b c e => by unfold createT; rw [if_neg (fun k => k a), if_neg (fun k => k b), if_neg c, if_neg e]
  have hrg : diskOk d → 1 ≤ d.2.2.2.2.2 ∧ d.2.2.2.2.2 ≤ 1000000000 := fun k => k.1.2.2.1
  have hcl : nmOk n → FnE Tryz.prog 98 _ _ _ := fun hnm => spec_l06Clean_R (d.1 ++ [(d.2.2.2.2.2, ⟨#[]⟩, 0)], putT d.2.1 (n, d.2.2.2.2.2), d.2.2.1, d.2.2.2.1 ++ [strOf [43] ++ n ++ strOf [58] ++ decT d.2.2.2.2.2], d.2.2.2.2.1, d.2.2.2.2.2 + 1) ⟨by simp only [List.length_append, List.length_singleton]; omega, by simp only; omega, ok.os, by simp only [List.length_append, List.length_singleton]; omega, mem_snoc ok.nt (Nat.zero_le _), putT_mem ok.et hn, ok.ot, mem_snoc ok.st (by have := decT_le d.2.2.2.2.2; have := hnm.2.2; simp only [ByteArray.size_append, strOf_size, List.length_singleton]; omega)⟩
  have hs0 : strOf [43] = ⟨#[43]⟩ := rfl
  have hs1 : strOf [58] = ⟨#[58]⟩ := rfl
  have hm1 : (d.1 ++ [((d.2.2.2.2.2, ⟨#[]⟩, 0) : Nd)]).map ndP = d.1.map ndP ++ [.agg [.int .i64 d.2.2.2.2.2, .str ByteArray.empty, .int .i64 0]] := by rw [List.map_append]; rfl
  rw [hs0, hs1] at hcl e5
  have hcc : ∀ x y, (cleanT (y, x)) = ((cleanT (y, x)).1, x) := fun x y => rfl
  rw [hcc] at e5
  generalize (cleanT (d.1 ++ [(d.2.2.2.2.2, ⟨#[]⟩, 0)], putT d.2.1 (n, d.2.2.2.2.2), d.2.2.1, d.2.2.2.1 ++ [⟨#[43]⟩ ++ n ++ ⟨#[58]⟩ ++ decT d.2.2.2.2.2], d.2.2.2.2.1, d.2.2.2.2.2 + 1)).1 = C at *
  generalize createT d n = q at *
  by_cases a1 : diskOk d
  · have hrg := hrg a1
    have e2 := e2 a1
    have e3 := e3 a1
    have e4 := e4 a1
    have e5 := e5 a1
    have hDc := spec_Decimal d.2.2.2.2.2 (by omega)
    rw [decide_eq_true a1] at hO
    by_cases a2 : nmOk n
    · have hcl := hcl a2
      have e3 := e3 a2
      have e4 := e4 a2
      have e5 := e5 a2
      have hn20 := a2.2.2
      rw [decide_eq_true a2] at hN
      unfold dkP dkR dkH at *
      simp only [hm1, List.length_append, List.length_singleton] at hcl
      have hDz := decT_le d.2.2.2.2.2
      generalize decT d.2.2.2.2.2 = D at *
      refine fn_e tok (n := 71) (rs := [.cell 4 32, .tmp 5]) Tryz.func36 (by decide) rfl rfl rfl rfl (low_of rfl) ?_
      refine Wr.go ?_
      repeat' ((first | (have ee := True.intro; refine Wr.mk ?_) | ((first | refine br_go ?_ ?_ | refine pick_go ?_ ?_) <;> intro ee f <;> (try simp only [BB] at f) <;> (try simp only [numOk, verOk] at f)) | (have ee := True.intro; first | refine dr_go mixed (id := 12) [([], [2], []), ([0], [53], []), ([], [1], []), ([2], [55], []), ([2, 3], [56], []), ([], [2], []), ([5], [58], []), ([5, 6], [59], []), ([2, 3, 4, 5, 6, 7], [57, 60], []), ([2, 3, 4, 5, 6, 7, 8], [61], []), ([0, 1, 2, 3, 4, 5, 6, 7, 8, 9], [54, 62], []), ([0, 1, 2, 3, 4, 5, 6, 7, 8, 9, 10], [2], []), ([0, 1, 2, 3, 4, 5, 6, 7, 8, 9, 10, 11], [63, 64], [])] rfl rfl rfl ?_ | (refine call_h [] [] (hc) (by decide) rfl rfl ?_; rintro _ _ ⟨rfl, rfl⟩) | (refine call_hx [] [512,513,514,515] (hO) (by decide) ?_ rfl ?_; (focus (first | rfl | (simp (maxSteps := 1000000) (disch := first | omega | (simp only [LN, numOk, verOk, rfP, rvP, rhP, frP, elOk_en, elOk_nd, nfx_en, nfx_nd] <;> omega) | exact Ck.mk rfl) only [VC, T, Nat.reduceMul, Nat.reduceAdd, Nat.reduceSub, Nat.reduceLT, Nat.reduceEqDiff, Nat.reduceLeDiff, Nat.reduceBEq, reduceCtorEq, Int.reduceToNat, ↓reduceIte, rfP, rvP, rhP, frP, elOk_en, elOk_nd, nfx_en, nfx_nd]; done)))) | refine call_x (hN) rfl ⟨rfl⟩ ?_ | (refine call_hx [] [513] (hH) (by decide) ?_ rfl ?_; (focus (first | rfl | (simp (maxSteps := 1000000) (disch := first | omega | (simp only [LN, numOk, verOk, rfP, rvP, rhP, frP, elOk_en, elOk_nd, nfx_en, nfx_nd] <;> omega) | exact Ck.mk rfl) only [VC, T, Nat.reduceMul, Nat.reduceAdd, Nat.reduceSub, Nat.reduceLT, Nat.reduceEqDiff, Nat.reduceLeDiff, Nat.reduceBEq, reduceCtorEq, Int.reduceToNat, ↓reduceIte, rfP, rvP, rhP, frP, elOk_en, elOk_nd, nfx_en, nfx_nd]; done)))) | (refine call_h [] [513] (hP) (by decide) ?_ rfl ?_; (focus (first | rfl | (simp (maxSteps := 1000000) (disch := first | omega | (simp only [LN, numOk, verOk, rfP, rvP, rhP, frP, elOk_en, elOk_nd, nfx_en, nfx_nd] <;> omega) | exact Ck.mk rfl) only [VC, T, Nat.reduceMul, Nat.reduceAdd, Nat.reduceSub, Nat.reduceLT, Nat.reduceEqDiff, Nat.reduceLeDiff, Nat.reduceBEq, reduceCtorEq, Int.reduceToNat, ↓reduceIte, rfP, rvP, rhP, frP, elOk_en, elOk_nd, nfx_en, nfx_nd]; done))); rintro _ _ ⟨rfl, rfl⟩) | refine call_x (hDc) rfl ⟨rfl⟩ ?_ | (refine call_h [512,3328,514,515] [] (hcl) (by decide) rfl rfl ?_; rintro _ _ ⟨rfl, rfl⟩))) <;> (try simp (maxSteps := 1000000) (disch := first | omega | (simp only [LN, numOk, verOk, rfP, rvP, rhP, frP, elOk_en, elOk_nd, nfx_en, nfx_nd] <;> omega) | exact Ck.mk rfl) only [ee, VC, T, Nat.reduceMul, Nat.reduceAdd, Nat.reduceSub, Nat.reduceLT, Nat.reduceEqDiff, Nat.reduceLeDiff, Nat.reduceBEq, reduceCtorEq, Int.reduceToNat, ↓reduceIte, rfP, rvP, rhP, frP, elOk_en, elOk_nd, nfx_en, nfx_nd]) <;> (try clear ee))
      · cases e3 f
        exact fin_t [some 512, some 513, some 514, some 515] (⟨rfl, rfl⟩) rfl (by simp [RV, RV2, RVl, RV1, tau, tget, hget, data1, oneOf]) (by simp [RH, RVl, RV1, tau, hget, data1]) (by simp [Taus, hget])
      · cases e4 (by assumption) (by omega)
        exact fin_t [some 512, some 513, some 514, some 515] (⟨rfl, rfl⟩) rfl (by simp [RV, RV2, RVl, RV1, tau, tget, hget, data1, oneOf]) (by simp [RH, RVl, RV1, tau, hget, data1]) (by simp [Taus, hget])
      · cases e4 (by assumption) (by omega)
        exact fin_t [some 512, some 513, some 514, some 515] (⟨rfl, rfl⟩) rfl (by simp [RV, RV2, RVl, RV1, tau, tget, hget, data1, oneOf]) (by simp [RH, RVl, RV1, tau, hget, data1]) (by simp [Taus, hget])
      · cases e4 (by assumption) (by omega)
        exact fin_t [some 512, some 513, some 514, some 515] (⟨rfl, rfl⟩) rfl (by simp [RV, RV2, RVl, RV1, tau, tget, hget, data1, oneOf]) (by simp [RH, RVl, RV1, tau, hget, data1]) (by simp [Taus, hget])
      · cases e5 (by assumption) (by omega)
        exact fin_t [some 4544, some 3328, some 514, some 515] (⟨rfl, rfl⟩) rfl (by simp [RV, RV2, RVl, RV1, tau, tget, hget, data1, oneOf, List.length_append]) (by simp [RH, RVl, RV1, tau, hget, data1, List.length_append]) (by simp [Taus, hget, List.length_append])
    · rw [decide_eq_false a2] at hN
      cases e2 a2
      unfold dkP dkR dkH at *
      refine fn_e tok (n := 71) (rs := [.cell 4 32, .tmp 5]) Tryz.func36 (by decide) rfl rfl rfl rfl (low_of rfl) ?_
      refine Wr.go ?_
      repeat' ((first | (have ee := True.intro; refine Wr.mk ?_) | ((first | refine br_go ?_ ?_ | refine pick_go ?_ ?_) <;> intro ee f <;> (try simp only [BB] at f) <;> (try simp only [numOk, verOk] at f)) | (have ee := True.intro; first | (refine call_h [] [] (hc) (by decide) rfl rfl ?_; rintro _ _ ⟨rfl, rfl⟩) | (refine call_hx [] [512,513,514,515] (hO) (by decide) ?_ rfl ?_; (focus (first | rfl | (simp (maxSteps := 1000000) (disch := first | omega | (simp only [LN, numOk, verOk, rfP, rvP, rhP, frP, elOk_en, elOk_nd, nfx_en, nfx_nd] <;> omega) | exact Ck.mk rfl) only [VC, T, Nat.reduceMul, Nat.reduceAdd, Nat.reduceSub, Nat.reduceLT, Nat.reduceEqDiff, Nat.reduceLeDiff, Nat.reduceBEq, reduceCtorEq, Int.reduceToNat, ↓reduceIte, rfP, rvP, rhP, frP, elOk_en, elOk_nd, nfx_en, nfx_nd]; done)))) | refine call_x (hN) rfl ⟨rfl⟩ ?_)) <;> (try simp (maxSteps := 1000000) (disch := first | omega | (simp only [LN, numOk, verOk, rfP, rvP, rhP, frP, elOk_en, elOk_nd, nfx_en, nfx_nd] <;> omega) | exact Ck.mk rfl) only [ee, VC, T, Nat.reduceMul, Nat.reduceAdd, Nat.reduceSub, Nat.reduceLT, Nat.reduceEqDiff, Nat.reduceLeDiff, Nat.reduceBEq, reduceCtorEq, Int.reduceToNat, ↓reduceIte, rfP, rvP, rhP, frP, elOk_en, elOk_nd, nfx_en, nfx_nd]) <;> (try clear ee))
      exact fin_t [some 512, some 513, some 514, some 515] (⟨rfl, rfl⟩) rfl (by simp [RV, RV2, RVl, RV1, tau, tget, hget, data1, oneOf]) (by simp [RH, RVl, RV1, tau, hget, data1]) (by simp [Taus, hget])
  · rw [decide_eq_false a1] at hO
    cases e1 a1
    unfold dkP dkR dkH at *
    refine fn_e tok (n := 71) (rs := [.cell 4 32, .tmp 5]) Tryz.func36 (by decide) rfl rfl rfl rfl (low_of rfl) ?_
    refine Wr.go ?_
    repeat' ((first | (have ee := True.intro; refine Wr.mk ?_) | ((first | refine br_go ?_ ?_ | refine pick_go ?_ ?_) <;> intro ee f <;> (try simp only [BB] at f) <;> (try simp only [numOk, verOk] at f)) | (have ee := True.intro; first | (refine call_h [] [] (hc) (by decide) rfl rfl ?_; rintro _ _ ⟨rfl, rfl⟩) | (refine call_hx [] [512,513,514,515] (hO) (by decide) ?_ rfl ?_; (focus (first | rfl | (simp (maxSteps := 1000000) (disch := first | omega | (simp only [LN, numOk, verOk, rfP, rvP, rhP, frP, elOk_en, elOk_nd, nfx_en, nfx_nd] <;> omega) | exact Ck.mk rfl) only [VC, T, Nat.reduceMul, Nat.reduceAdd, Nat.reduceSub, Nat.reduceLT, Nat.reduceEqDiff, Nat.reduceLeDiff, Nat.reduceBEq, reduceCtorEq, Int.reduceToNat, ↓reduceIte, rfP, rvP, rhP, frP, elOk_en, elOk_nd, nfx_en, nfx_nd]; done)))))) <;> (try simp (maxSteps := 1000000) (disch := first | omega | (simp only [LN, numOk, verOk, rfP, rvP, rhP, frP, elOk_en, elOk_nd, nfx_en, nfx_nd] <;> omega) | exact Ck.mk rfl) only [ee, VC, T, Nat.reduceMul, Nat.reduceAdd, Nat.reduceSub, Nat.reduceLT, Nat.reduceEqDiff, Nat.reduceLeDiff, Nat.reduceBEq, reduceCtorEq, Int.reduceToNat, ↓reduceIte, rfP, rvP, rhP, frP, elOk_en, elOk_nd, nfx_en, nfx_nd]) <;> (try clear ee))
    exact fin_t [some 512, some 513, some 514, some 515] (⟨rfl, rfl⟩) rfl (by simp [RV, RV2, RVl, RV1, tau, tget, hget, data1, oneOf]) (by simp [RH, RVl, RV1, tau, hget, data1]) (by simp [Taus, hget])
theorem spec_SyncNames_R (d : Dk) (h : DkB 1048575 1048576 d) : FnE Tryz.prog 219 [dkP d] [] (fun r m => r = dkR 64 (syncNamesT d) ∧ m = dkH (syncNamesT d)) := by
  have ok := h.ok (by decide) (by decide)
  have hes := h.es
  have hss := h.ss
  have hns := h.ns
  have hos := h.os
  have hc := spec_l05Copy_R d ok
  have hO := spec_DiskOk d ok
  have e1 : ¬ diskOk d → syncNamesT d = d := fun a => if_pos a
  have e2 : diskOk d → syncNamesT d = cleanT (d.1, d.2.1, d.2.1, [], d.2.2.2.2) := fun a => if_neg fun k => k a
  have hcl := spec_l06Clean_R (d.1, d.2.1, d.2.1, [], d.2.2.2.2) ⟨ok.ns, ok.es, ok.es, Nat.zero_le _, ok.nt, ok.et, ok.et, fun x hx => absurd hx (by simp)⟩
  have hcc : ∀ x y, (cleanT (y, x)) = ((cleanT (y, x)).1, x) := fun x y => rfl
  rw [hcc] at e2
  generalize (cleanT (d.1, d.2.1, d.2.1, [], d.2.2.2.2)).1 = C at *
  generalize syncNamesT d = q at *
  unfold dkP dkR dkH at *
  simp only [List.map_nil, List.length_nil] at hcl
  refine fn_e tok (n := 18) (rs := [.cell 2 32]) Tryz.func219 (by decide) rfl rfl rfl rfl (low_of rfl) ?_
  refine Wr.go ?_
  repeat' ((first | (have ee := True.intro; refine Wr.mk ?_) | ((first | refine br_go ?_ ?_ | refine pick_go ?_ ?_) <;> intro ee f <;> (try simp only [BB] at f) <;> (try simp only [numOk, verOk] at f)) | (have ee := True.intro; first | (refine call_h [] [] (hc) (by decide) rfl rfl ?_; rintro _ _ ⟨rfl, rfl⟩) | (refine call_hx [] [320,321,322,323] (hO) (by decide) ?_ rfl ?_; (focus (first | rfl | (simp (maxSteps := 1000000) (disch := first | omega | (simp only [LN, numOk, verOk, rfP, rvP, rhP, frP, elOk_en, elOk_nd, nfx_en, nfx_nd] <;> omega) | exact Ck.mk rfl) only [VC, T, Nat.reduceMul, Nat.reduceAdd, Nat.reduceSub, Nat.reduceLT, Nat.reduceEqDiff, Nat.reduceLeDiff, Nat.reduceBEq, reduceCtorEq, Int.reduceToNat, ↓reduceIte, rfP, rvP, rhP, frP, elOk_en, elOk_nd, nfx_en, nfx_nd]; done)))) | (refine call_h [320,321,640,960] [] (hcl) (by decide) rfl rfl ?_; rintro _ _ ⟨rfl, rfl⟩))) <;> (try simp (maxSteps := 1000000) (disch := first | omega | (simp only [LN, numOk, verOk, rfP, rvP, rhP, frP, elOk_en, elOk_nd, nfx_en, nfx_nd] <;> omega) | exact Ck.mk rfl) only [ee, VC, T, Nat.reduceMul, Nat.reduceAdd, Nat.reduceSub, Nat.reduceLT, Nat.reduceEqDiff, Nat.reduceLeDiff, Nat.reduceBEq, reduceCtorEq, Int.reduceToNat, ↓reduceIte, rfP, rvP, rhP, frP, elOk_en, elOk_nd, nfx_en, nfx_nd]) <;> (try clear ee))
  · cases e2 f
    exact fin_t [some 1152, some 321, some 640, some 960] (⟨rfl, rfl⟩) rfl (by simp [RV, RV2, RVl, RV1, tau, tget, hget, data1, oneOf]) (by simp [RH, RVl, RV1, tau, hget, data1]) (by simp [Taus, hget])
  · cases e1 f
    exact fin_t [some 320, some 321, some 322, some 323] (⟨rfl, rfl⟩) rfl (by simp [RV, RV2, RVl, RV1, tau, tget, hget, data1, oneOf]) (by simp [RH, RVl, RV1, tau, hget, data1]) (by simp [Taus, hget])
theorem spec_SyncNames (d : Dk) (h : DkB 1048575 1048576 d) : Fn Tryz.prog 219 [dkP d] [] (dkP (syncNamesT d)) [] := by
  obtain ⟨_, _, ⟨rfl, rfl⟩, k⟩ := spec_SyncNames_R d h
  refine k.far ?_
  simp [fz, fz2, fz1, cvtl, elems, dkR, dkH, dkP, hget, data1]
theorem spec_CreateFile (d : Dk) (n : ByteArray) (h : DkB 1048575 1048576 d) (hn : n.size ≤ 1048576) : Fn Tryz.prog 36 [dkP d, .str n] [] (.tup [dkP (createT d n).1, .int .i64 (createT d n).2]) [] := by
  obtain ⟨_, _, ⟨rfl, rfl⟩, k⟩ := spec_CreateFile_R d n h hn
  refine k.far ?_
  simp [fz, fz2, fz1, cvtl, elems, dkR, dkH, dkP, hget, data1]
theorem spec_SyncFile_R (d : Dk) (n : ByteArray) (h : DkB 1048575 1048576 d) : FnE Tryz.prog 220 [dkP d, .str n] [] (fun r m => r = .tup [dkR 64 (syncT d n).1, .int .i64 (syncT d n).2] ∧ m = dkH (syncT d n).1) := by
  have ok := h.ok (by decide) (by decide)
  have hes := h.es
  have hss := h.ss
  have hns := h.ns
  have hos := h.os
  have hc := spec_l05Copy_R d ok
  have hO := spec_DiskOk d ok
  have hH : Fn Tryz.prog 95 [.far (d.2.1.map enP), .str n] [] (.bool (decide (hasT d.2.1 n))) [] := spec_l06Has d.2.1 n (by omega)
  have hE := spec_EntryAt d.2.1 n (by omega)
  have hNd := spec_l05Node d (entT d.2.1 n) (by omega)
  have e1 : ¬ diskOk d → syncT d n = (d, 3) := fun a => if_pos (.inl a)
  have e2 : ¬ hasT d.2.1 n → syncT d n = (d, 3) := fun a => if_pos (.inr a)
  by_cases a1 : diskOk d
  · rw [decide_eq_true a1] at hO
    by_cases a2 : hasT d.2.1 n
    · rw [decide_eq_true a2] at hH
      obtain ⟨t1, t2⟩ := node_there a1 a2
      have e3 : syncT d n = (setNd d (nodeI d.1 (entT d.2.1 n)).toNat ((d.1.getD (nodeI d.1 (entT d.2.1 n)).toNat default).1, (d.1.getD (nodeI d.1 (entT d.2.1 n)).toNat default).2.1, (d.1.getD (nodeI d.1 (entT d.2.1 n)).toNat default).2.1.size), 0) := if_neg (by simp [a1, a2])
      obtain ⟨k, hk⟩ : ∃ k : Nat, nodeI d.1 (entT d.2.1 n) = k := ⟨_, (Int.toNat_of_nonneg t1).symm⟩
      rw [hk] at t1 t2 e3 hNd
      rw [Int.toNat_natCast] at e3
      have hg : (d.1.map ndP).getD k .junk = .agg [.int .i64 (d.1.getD k default).1, .str (d.1.getD k default).2.1, .int .i64 (d.1.getD k default).2.2] := by
        rw [List.getD_eq_getElem?_getD, List.getElem?_map, List.getElem?_eq_getElem (by omega), List.getD_eq_getElem?_getD, List.getElem?_eq_getElem (by omega)]; rfl
      have hu : ∀ a b c z : PV, upd (.agg [a, b, c]) 2 [z] = .agg [a, b, z] := fun _ _ _ _ => rfl
      have hset : (d.1.map ndP).set k (.agg [.int .i64 (d.1.getD k default).1, .str (d.1.getD k default).2.1, .int .i64 (d.1.getD k default).2.1.size]) = (d.1.set k ((d.1.getD k default).1, (d.1.getD k default).2.1, (d.1.getD k default).2.1.size)).map ndP := by rw [List.map_set]; rfl
      have hz := nd_le h k
      rw [e3]
      unfold setNd dkP dkR dkH at *
      generalize entT d.2.1 n = en at *
      refine fn_e tok (n := 39) (rs := [.cell 4 32, .tmp 5]) Tryz.func220 (by decide) rfl rfl rfl rfl (low_of rfl) ?_
      refine Wr.go ?_
      repeat' ((first | (have ee := True.intro; refine Wr.mk ?_) | ((first | refine br_go ?_ ?_ | refine pick_go ?_ ?_) <;> intro ee f <;> (try simp only [BB] at f) <;> (try simp only [numOk, verOk] at f)) | (have ee := True.intro; first | refine dr_go mixed (id := 4) [([], [2], []), ([], [2], []), ([1], [21], []), ([], [1], []), ([1, 2, 3], [22, 23], []), ([0, 1, 2, 3, 4], [20, 24], []), ([0, 1, 2, 3, 4, 5], [25], [])] rfl rfl rfl ?_ | refine dr_go mixed (id := 5) [([], [2], []), ([0], [26], []), ([], [6], []), ([], [2], []), ([3], [29], []), ([], [6], []), ([3, 4, 5], [30, 31], []), ([3, 4, 5, 6], [32], []), ([3, 4, 5, 6, 7], [33], []), ([3, 4, 5, 6, 7, 8], [34], []), ([0, 1, 2, 3, 4, 5, 6, 7, 8, 9], [27, 28], []), ([0, 1, 2, 3, 4, 5, 6, 7, 8, 9, 10], [36], []), ([0, 1, 2, 3, 4, 5, 6, 7, 8, 9, 10, 11], [35, 37], [])] rfl rfl rfl ?_ | (refine call_h [] [] (hc) (by decide) rfl rfl ?_; rintro _ _ ⟨rfl, rfl⟩) | (refine call_hx [] [576,577,578,579] (hO) (by decide) ?_ rfl ?_; (focus (first | rfl | (simp (maxSteps := 1000000) (disch := first | omega | (simp only [LN, numOk, verOk, rfP, rvP, rhP, frP, elOk_en, elOk_nd, nfx_en, nfx_nd, hg, hu, hset] <;> omega) | exact Ck.mk rfl) only [VC, T, Nat.reduceMul, Nat.reduceAdd, Nat.reduceSub, Nat.reduceLT, Nat.reduceEqDiff, Nat.reduceLeDiff, Nat.reduceBEq, reduceCtorEq, Int.reduceToNat, ↓reduceIte, rfP, rvP, rhP, frP, elOk_en, elOk_nd, nfx_en, nfx_nd, hg, hu, hset]; done)))) | (refine call_hx [] [577] (hH) (by decide) ?_ rfl ?_; (focus (first | rfl | (simp (maxSteps := 1000000) (disch := first | omega | (simp only [LN, numOk, verOk, rfP, rvP, rhP, frP, elOk_en, elOk_nd, nfx_en, nfx_nd, hg, hu, hset] <;> omega) | exact Ck.mk rfl) only [VC, T, Nat.reduceMul, Nat.reduceAdd, Nat.reduceSub, Nat.reduceLT, Nat.reduceEqDiff, Nat.reduceLeDiff, Nat.reduceBEq, reduceCtorEq, Int.reduceToNat, ↓reduceIte, rfP, rvP, rhP, frP, elOk_en, elOk_nd, nfx_en, nfx_nd, hg, hu, hset]; done)))) | (refine call_hx [] [577] (hE) (by decide) ?_ rfl ?_; (focus (first | rfl | (simp (maxSteps := 1000000) (disch := first | omega | (simp only [LN, numOk, verOk, rfP, rvP, rhP, frP, elOk_en, elOk_nd, nfx_en, nfx_nd, hg, hu, hset] <;> omega) | exact Ck.mk rfl) only [VC, T, Nat.reduceMul, Nat.reduceAdd, Nat.reduceSub, Nat.reduceLT, Nat.reduceEqDiff, Nat.reduceLeDiff, Nat.reduceBEq, reduceCtorEq, Int.reduceToNat, ↓reduceIte, rfP, rvP, rhP, frP, elOk_en, elOk_nd, nfx_en, nfx_nd, hg, hu, hset]; done)))) | (refine call_hx [] [576,577,578,579] (hNd) (by decide) ?_ rfl ?_; (focus (first | rfl | (simp (maxSteps := 1000000) (disch := first | omega | (simp only [LN, numOk, verOk, rfP, rvP, rhP, frP, elOk_en, elOk_nd, nfx_en, nfx_nd, hg, hu, hset] <;> omega) | exact Ck.mk rfl) only [VC, T, Nat.reduceMul, Nat.reduceAdd, Nat.reduceSub, Nat.reduceLT, Nat.reduceEqDiff, Nat.reduceLeDiff, Nat.reduceBEq, reduceCtorEq, Int.reduceToNat, ↓reduceIte, rfP, rvP, rhP, frP, elOk_en, elOk_nd, nfx_en, nfx_nd, hg, hu, hset]; done)))))) <;> (try simp (maxSteps := 1000000) (disch := first | omega | (simp only [LN, numOk, verOk, rfP, rvP, rhP, frP, elOk_en, elOk_nd, nfx_en, nfx_nd, hg, hu, hset] <;> omega) | exact Ck.mk rfl) only [ee, VC, T, Nat.reduceMul, Nat.reduceAdd, Nat.reduceSub, Nat.reduceLT, Nat.reduceEqDiff, Nat.reduceLeDiff, Nat.reduceBEq, reduceCtorEq, Int.reduceToNat, ↓reduceIte, rfP, rvP, rhP, frP, elOk_en, elOk_nd, nfx_en, nfx_nd, hg, hu, hset]) <;> (try clear ee))
      exact fin_t [some 576, some 577, some 578, some 579] (⟨rfl, rfl⟩) rfl (by simp [RV, RV2, RVl, RV1, tau, tget, hget, data1, oneOf, List.length_set]) (by simp [RH, RVl, RV1, tau, hget, data1, List.length_set]) (by simp [Taus, hget, List.length_set])
    · rw [decide_eq_false a2] at hH
      rw [e2 a2]
      unfold dkP dkR dkH at *
      refine fn_e tok (n := 39) (rs := [.cell 4 32, .tmp 5]) Tryz.func220 (by decide) rfl rfl rfl rfl (low_of rfl) ?_
      refine Wr.go ?_
      repeat' ((first | (have ee := True.intro; refine Wr.mk ?_) | ((first | refine br_go ?_ ?_ | refine pick_go ?_ ?_) <;> intro ee f <;> (try simp only [BB] at f) <;> (try simp only [numOk, verOk] at f)) | (have ee := True.intro; first | (refine call_h [] [] (hc) (by decide) rfl rfl ?_; rintro _ _ ⟨rfl, rfl⟩) | (refine call_hx [] [576,577,578,579] (hO) (by decide) ?_ rfl ?_; (focus (first | rfl | (simp (maxSteps := 1000000) (disch := first | omega | (simp only [LN, numOk, verOk, rfP, rvP, rhP, frP, elOk_en, elOk_nd, nfx_en, nfx_nd] <;> omega) | exact Ck.mk rfl) only [VC, T, Nat.reduceMul, Nat.reduceAdd, Nat.reduceSub, Nat.reduceLT, Nat.reduceEqDiff, Nat.reduceLeDiff, Nat.reduceBEq, reduceCtorEq, Int.reduceToNat, ↓reduceIte, rfP, rvP, rhP, frP, elOk_en, elOk_nd, nfx_en, nfx_nd]; done)))) | (refine call_hx [] [577] (hH) (by decide) ?_ rfl ?_; (focus (first | rfl | (simp (maxSteps := 1000000) (disch := first | omega | (simp only [LN, numOk, verOk, rfP, rvP, rhP, frP, elOk_en, elOk_nd, nfx_en, nfx_nd] <;> omega) | exact Ck.mk rfl) only [VC, T, Nat.reduceMul, Nat.reduceAdd, Nat.reduceSub, Nat.reduceLT, Nat.reduceEqDiff, Nat.reduceLeDiff, Nat.reduceBEq, reduceCtorEq, Int.reduceToNat, ↓reduceIte, rfP, rvP, rhP, frP, elOk_en, elOk_nd, nfx_en, nfx_nd]; done)))))) <;> (try simp (maxSteps := 1000000) (disch := first | omega | (simp only [LN, numOk, verOk, rfP, rvP, rhP, frP, elOk_en, elOk_nd, nfx_en, nfx_nd] <;> omega) | exact Ck.mk rfl) only [ee, VC, T, Nat.reduceMul, Nat.reduceAdd, Nat.reduceSub, Nat.reduceLT, Nat.reduceEqDiff, Nat.reduceLeDiff, Nat.reduceBEq, reduceCtorEq, Int.reduceToNat, ↓reduceIte, rfP, rvP, rhP, frP, elOk_en, elOk_nd, nfx_en, nfx_nd]) <;> (try clear ee))
      exact fin_t [some 576, some 577, some 578, some 579] (⟨rfl, rfl⟩) rfl (by simp [RV, RV2, RVl, RV1, tau, tget, hget, data1, oneOf]) (by simp [RH, RVl, RV1, tau, hget, data1]) (by simp [Taus, hget])
  · rw [decide_eq_false a1] at hO
    rw [e1 a1]
    unfold dkP dkR dkH at *
    refine fn_e tok (n := 39) (rs := [.cell 4 32, .tmp 5]) Tryz.func220 (by decide) rfl rfl rfl rfl (low_of rfl) ?_
    refine Wr.go ?_
    repeat' ((first | (have ee := True.intro; refine Wr.mk ?_) | ((first | refine br_go ?_ ?_ | refine pick_go ?_ ?_) <;> intro ee f <;> (try simp only [BB] at f) <;> (try simp only [numOk, verOk] at f)) | (have ee := True.intro; first | (refine call_h [] [] (hc) (by decide) rfl rfl ?_; rintro _ _ ⟨rfl, rfl⟩) | (refine call_hx [] [576,577,578,579] (hO) (by decide) ?_ rfl ?_; (focus (first | rfl | (simp (maxSteps := 1000000) (disch := first | omega | (simp only [LN, numOk, verOk, rfP, rvP, rhP, frP, elOk_en, elOk_nd, nfx_en, nfx_nd] <;> omega) | exact Ck.mk rfl) only [VC, T, Nat.reduceMul, Nat.reduceAdd, Nat.reduceSub, Nat.reduceLT, Nat.reduceEqDiff, Nat.reduceLeDiff, Nat.reduceBEq, reduceCtorEq, Int.reduceToNat, ↓reduceIte, rfP, rvP, rhP, frP, elOk_en, elOk_nd, nfx_en, nfx_nd]; done)))))) <;> (try simp (maxSteps := 1000000) (disch := first | omega | (simp only [LN, numOk, verOk, rfP, rvP, rhP, frP, elOk_en, elOk_nd, nfx_en, nfx_nd] <;> omega) | exact Ck.mk rfl) only [ee, VC, T, Nat.reduceMul, Nat.reduceAdd, Nat.reduceSub, Nat.reduceLT, Nat.reduceEqDiff, Nat.reduceLeDiff, Nat.reduceBEq, reduceCtorEq, Int.reduceToNat, ↓reduceIte, rfP, rvP, rhP, frP, elOk_en, elOk_nd, nfx_en, nfx_nd]) <;> (try clear ee))
    exact fin_t [some 576, some 577, some 578, some 579] (⟨rfl, rfl⟩) rfl (by simp [RV, RV2, RVl, RV1, tau, tget, hget, data1, oneOf]) (by simp [RH, RVl, RV1, tau, hget, data1]) (by simp [Taus, hget])
theorem spec_SyncFile (d : Dk) (n : ByteArray) (h : DkB 1048575 1048576 d) : Fn Tryz.prog 220 [dkP d, .str n] [] (.tup [dkP (syncT d n).1, .int .i64 (syncT d n).2]) [] := by
  obtain ⟨_, _, ⟨rfl, rfl⟩, k⟩ := spec_SyncFile_R d n h
  refine k.far ?_
  simp [fz, fz2, fz1, cvtl, elems, dkR, dkH, dkP, hget, data1]
theorem spec_AppendFile_R (d : Dk) (n t : ByteArray) (h : DkB 1048575 1048576 d) (ht : t.size ≤ 1048576) : FnE Tryz.prog 38 [dkP d, .str n, .str t] [] (fun r m => r = .tup [dkR 64 (appendT d n t).1, .int .i64 (appendT d n t).2] ∧ m = dkH (appendT d n t).1) := by
  have ok := h.ok (by decide) (by decide)
  have hes := h.es
  have hss := h.ss
  have hns := h.ns
  have hos := h.os
  have hc := spec_l05Copy_R d ok
  have hO := spec_DiskOk d ok
  have hH : Fn Tryz.prog 95 [.far (d.2.1.map enP), .str n] [] (.bool (decide (hasT d.2.1 n))) [] := spec_l06Has d.2.1 n (by omega)
  have hE := spec_EntryAt d.2.1 n (by omega)
  have hNd := spec_l05Node d (entT d.2.1 n) (by omega)
  have hU := spec_UsedOn d ok
  have hu0 := usedT_nn d
  have e1 : ¬ diskOk d → appendT d n t = (d, 3) := fun a => if_pos (.inl a)
  have e2 : ¬ hasT d.2.1 n → appendT d n t = (d, 3) := fun a => if_pos (.inr a)
  by_cases a1 : diskOk d
  · rw [decide_eq_true a1] at hO
    by_cases a2 : hasT d.2.1 n
    · rw [decide_eq_true a2] at hH
      obtain ⟨t1, t2⟩ := node_there a1 a2
      obtain ⟨_, hr1, _, hr2⟩ := a1.1
      obtain ⟨k, hk⟩ : ∃ k : Nat, nodeI d.1 (entT d.2.1 n) = k := ⟨_, (Int.toNat_of_nonneg t1).symm⟩
      have e3 : (t.size : Int) > d.2.2.2.2.1 - usedT d → appendT d n t = (setNd d k ((d.1.getD k default).1, (d.1.getD k default).2.1 ++ t.extract 0 (d.2.2.2.2.1 - usedT d).toNat, (d.1.getD k default).2.2), 5) := fun q => by
        unfold appendT
        rw [if_neg (by simp [a1, a2]), if_pos q, hk, Int.toNat_natCast]
      have e4 : ¬ (t.size : Int) > d.2.2.2.2.1 - usedT d → appendT d n t = (setNd d k ((d.1.getD k default).1, (d.1.getD k default).2.1 ++ t, (d.1.getD k default).2.2), 0) := fun q => by
        unfold appendT
        rw [if_neg (by simp [a1, a2]), if_neg q, hk, Int.toNat_natCast]
      rw [hk] at t1 t2 hNd
      have hg : (d.1.map ndP).getD k .junk = .agg [.int .i64 (d.1.getD k default).1, .str (d.1.getD k default).2.1, .int .i64 (d.1.getD k default).2.2] := by
        rw [List.getD_eq_getElem?_getD, List.getElem?_map, List.getElem?_eq_getElem (by omega), List.getD_eq_getElem?_getD, List.getElem?_eq_getElem (by omega)]; rfl
      have hu : ∀ a b c z : PV, upd (.agg [a, b, c]) 1 [z] = .agg [a, z, c] := fun _ _ _ _ => rfl
      have hset : ∀ s, (d.1.map ndP).set k (.agg [.int .i64 (d.1.getD k default).1, .str s, .int .i64 (d.1.getD k default).2.2]) = (d.1.set k ((d.1.getD k default).1, s, (d.1.getD k default).2.2)).map ndP := fun s => by rw [List.map_set]; rfl
      have hz := nd_le h k
      have hex := ex_le t 0 (d.2.2.2.2.1 - usedT d).toNat
      generalize appendT d n t = q at *
      unfold setNd at *
      unfold dkP dkR dkH at *
      generalize entT d.2.1 n = en at *
      generalize usedT d = u at *
      refine fn_e tok (n := 68) (rs := [.cell 6 32, .tmp 7]) Tryz.func38 (by decide) rfl rfl rfl rfl (low_of rfl) ?_
      refine Wr.go ?_
      repeat' ((first | (have ee := True.intro; refine Wr.mk ?_) | ((first | refine br_go ?_ ?_ | refine pick_go ?_ ?_) <;> intro ee f <;> (try simp only [BB] at f) <;> (try simp only [numOk, verOk] at f)) | (have ee := True.intro; first | refine dr_go mixed (id := 4) [([], [3], []), ([], [3], []), ([1], [24], []), ([], [1], []), ([1, 2, 3], [25, 26], []), ([0, 1, 2, 3, 4], [23, 27], []), ([0, 1, 2, 3, 4, 5], [28], [])] rfl rfl rfl ?_ | refine dr_go mixed (id := 5) [([], [3], []), ([0], [29], []), ([], [3], []), ([2], [31], []), ([0, 1, 2, 3], [30, 32], []), ([0, 1, 2, 3, 4], [33], [])] rfl rfl rfl ?_ | refine dr_go mixed (id := 7) [([], [3], []), ([0], [38], []), ([], [8], []), ([], [3], []), ([3], [41], []), ([], [8], []), ([3, 4, 5], [42, 43], []), ([3, 4, 5, 6], [44], []), ([3, 4, 5, 6, 7], [45], []), ([], [2], []), ([], [9], []), ([9, 10], [47, 48], []), ([3, 4, 5, 6, 7, 8, 9, 10, 11], [46, 49], []), ([0, 1, 2, 3, 4, 5, 6, 7, 8, 9, 10, 11, 12], [39, 40], []), ([0, 1, 2, 3, 4, 5, 6, 7, 8, 9, 10, 11, 12, 13], [51], []), ([0, 1, 2, 3, 4, 5, 6, 7, 8, 9, 10, 11, 12, 13, 14], [50, 52], [])] rfl rfl rfl ?_ | refine dr_go mixed (id := 9) [([], [3], []), ([0], [54], []), ([], [8], []), ([], [3], []), ([3], [57], []), ([], [8], []), ([3, 4, 5], [58, 59], []), ([3, 4, 5, 6], [60], []), ([3, 4, 5, 6, 7], [61], []), ([], [2], []), ([3, 4, 5, 6, 7, 8, 9], [62, 63], []), ([0, 1, 2, 3, 4, 5, 6, 7, 8, 9, 10], [55, 56], []), ([0, 1, 2, 3, 4, 5, 6, 7, 8, 9, 10, 11], [65], []), ([0, 1, 2, 3, 4, 5, 6, 7, 8, 9, 10, 11, 12], [64, 66], [])] rfl rfl rfl ?_ | (refine call_h [] [] (hc) (by decide) rfl rfl ?_; rintro _ _ ⟨rfl, rfl⟩) | (refine call_hx [] [768,769,770,771] (hO) (by decide) ?_ rfl ?_; (focus (first | rfl | (simp (maxSteps := 1000000) (disch := first | omega | (simp only [LN, numOk, verOk, rfP, rvP, rhP, frP, elOk_en, elOk_nd, nfx_en, nfx_nd, hg, hu, hset] <;> omega) | exact Ck.mk rfl) only [VC, T, Nat.reduceMul, Nat.reduceAdd, Nat.reduceSub, Nat.reduceLT, Nat.reduceEqDiff, Nat.reduceLeDiff, Nat.reduceBEq, reduceCtorEq, Int.reduceToNat, ↓reduceIte, rfP, rvP, rhP, frP, elOk_en, elOk_nd, nfx_en, nfx_nd, hg, hu, hset]; done)))) | (refine call_hx [] [769] (hH) (by decide) ?_ rfl ?_; (focus (first | rfl | (simp (maxSteps := 1000000) (disch := first | omega | (simp only [LN, numOk, verOk, rfP, rvP, rhP, frP, elOk_en, elOk_nd, nfx_en, nfx_nd, hg, hu, hset] <;> omega) | exact Ck.mk rfl) only [VC, T, Nat.reduceMul, Nat.reduceAdd, Nat.reduceSub, Nat.reduceLT, Nat.reduceEqDiff, Nat.reduceLeDiff, Nat.reduceBEq, reduceCtorEq, Int.reduceToNat, ↓reduceIte, rfP, rvP, rhP, frP, elOk_en, elOk_nd, nfx_en, nfx_nd, hg, hu, hset]; done)))) | (refine call_hx [] [769] (hE) (by decide) ?_ rfl ?_; (focus (first | rfl | (simp (maxSteps := 1000000) (disch := first | omega | (simp only [LN, numOk, verOk, rfP, rvP, rhP, frP, elOk_en, elOk_nd, nfx_en, nfx_nd, hg, hu, hset] <;> omega) | exact Ck.mk rfl) only [VC, T, Nat.reduceMul, Nat.reduceAdd, Nat.reduceSub, Nat.reduceLT, Nat.reduceEqDiff, Nat.reduceLeDiff, Nat.reduceBEq, reduceCtorEq, Int.reduceToNat, ↓reduceIte, rfP, rvP, rhP, frP, elOk_en, elOk_nd, nfx_en, nfx_nd, hg, hu, hset]; done)))) | (refine call_hx [] [768,769,770,771] (hNd) (by decide) ?_ rfl ?_; (focus (first | rfl | (simp (maxSteps := 1000000) (disch := first | omega | (simp only [LN, numOk, verOk, rfP, rvP, rhP, frP, elOk_en, elOk_nd, nfx_en, nfx_nd, hg, hu, hset] <;> omega) | exact Ck.mk rfl) only [VC, T, Nat.reduceMul, Nat.reduceAdd, Nat.reduceSub, Nat.reduceLT, Nat.reduceEqDiff, Nat.reduceLeDiff, Nat.reduceBEq, reduceCtorEq, Int.reduceToNat, ↓reduceIte, rfP, rvP, rhP, frP, elOk_en, elOk_nd, nfx_en, nfx_nd, hg, hu, hset]; done)))) | (refine call_hx [] [768,769,770,771] (hU) (by decide) ?_ rfl ?_; (focus (first | rfl | (simp (maxSteps := 1000000) (disch := first | omega | (simp only [LN, numOk, verOk, rfP, rvP, rhP, frP, elOk_en, elOk_nd, nfx_en, nfx_nd, hg, hu, hset] <;> omega) | exact Ck.mk rfl) only [VC, T, Nat.reduceMul, Nat.reduceAdd, Nat.reduceSub, Nat.reduceLT, Nat.reduceEqDiff, Nat.reduceLeDiff, Nat.reduceBEq, reduceCtorEq, Int.reduceToNat, ↓reduceIte, rfP, rvP, rhP, frP, elOk_en, elOk_nd, nfx_en, nfx_nd, hg, hu, hset]; done)))))) <;> (try simp (maxSteps := 1000000) (disch := first | omega | (simp only [LN, numOk, verOk, rfP, rvP, rhP, frP, elOk_en, elOk_nd, nfx_en, nfx_nd, hg, hu, hset] <;> omega) | exact Ck.mk rfl) only [ee, VC, T, Nat.reduceMul, Nat.reduceAdd, Nat.reduceSub, Nat.reduceLT, Nat.reduceEqDiff, Nat.reduceLeDiff, Nat.reduceBEq, reduceCtorEq, Int.reduceToNat, ↓reduceIte, rfP, rvP, rhP, frP, elOk_en, elOk_nd, nfx_en, nfx_nd, hg, hu, hset]) <;> (try clear ee))
      · cases e3 (by omega)
        exact fin_t [some 768, some 769, some 770, some 771] (⟨rfl, rfl⟩) rfl (by simp [RV, RV2, RVl, RV1, tau, tget, hget, data1, oneOf, List.length_set]) (by simp [RH, RVl, RV1, tau, hget, data1, List.length_set]) (by simp [Taus, hget, List.length_set])
      · cases e4 (by omega)
        exact fin_t [some 768, some 769, some 770, some 771] (⟨rfl, rfl⟩) rfl (by simp [RV, RV2, RVl, RV1, tau, tget, hget, data1, oneOf, List.length_set]) (by simp [RH, RVl, RV1, tau, hget, data1, List.length_set]) (by simp [Taus, hget, List.length_set])
    · rw [decide_eq_false a2] at hH
      rw [e2 a2]
      unfold dkP dkR dkH at *
      refine fn_e tok (n := 68) (rs := [.cell 6 32, .tmp 7]) Tryz.func38 (by decide) rfl rfl rfl rfl (low_of rfl) ?_
      refine Wr.go ?_
      repeat' ((first | (have ee := True.intro; refine Wr.mk ?_) | ((first | refine br_go ?_ ?_ | refine pick_go ?_ ?_) <;> intro ee f <;> (try simp only [BB] at f) <;> (try simp only [numOk, verOk] at f)) | (have ee := True.intro; first | (refine call_h [] [] (hc) (by decide) rfl rfl ?_; rintro _ _ ⟨rfl, rfl⟩) | (refine call_hx [] [768,769,770,771] (hO) (by decide) ?_ rfl ?_; (focus (first | rfl | (simp (maxSteps := 1000000) (disch := first | omega | (simp only [LN, numOk, verOk, rfP, rvP, rhP, frP, elOk_en, elOk_nd, nfx_en, nfx_nd] <;> omega) | exact Ck.mk rfl) only [VC, T, Nat.reduceMul, Nat.reduceAdd, Nat.reduceSub, Nat.reduceLT, Nat.reduceEqDiff, Nat.reduceLeDiff, Nat.reduceBEq, reduceCtorEq, Int.reduceToNat, ↓reduceIte, rfP, rvP, rhP, frP, elOk_en, elOk_nd, nfx_en, nfx_nd]; done)))) | (refine call_hx [] [769] (hH) (by decide) ?_ rfl ?_; (focus (first | rfl | (simp (maxSteps := 1000000) (disch := first | omega | (simp only [LN, numOk, verOk, rfP, rvP, rhP, frP, elOk_en, elOk_nd, nfx_en, nfx_nd] <;> omega) | exact Ck.mk rfl) only [VC, T, Nat.reduceMul, Nat.reduceAdd, Nat.reduceSub, Nat.reduceLT, Nat.reduceEqDiff, Nat.reduceLeDiff, Nat.reduceBEq, reduceCtorEq, Int.reduceToNat, ↓reduceIte, rfP, rvP, rhP, frP, elOk_en, elOk_nd, nfx_en, nfx_nd]; done)))))) <;> (try simp (maxSteps := 1000000) (disch := first | omega | (simp only [LN, numOk, verOk, rfP, rvP, rhP, frP, elOk_en, elOk_nd, nfx_en, nfx_nd] <;> omega) | exact Ck.mk rfl) only [ee, VC, T, Nat.reduceMul, Nat.reduceAdd, Nat.reduceSub, Nat.reduceLT, Nat.reduceEqDiff, Nat.reduceLeDiff, Nat.reduceBEq, reduceCtorEq, Int.reduceToNat, ↓reduceIte, rfP, rvP, rhP, frP, elOk_en, elOk_nd, nfx_en, nfx_nd]) <;> (try clear ee))
      exact fin_t [some 768, some 769, some 770, some 771] (⟨rfl, rfl⟩) rfl (by simp [RV, RV2, RVl, RV1, tau, tget, hget, data1, oneOf]) (by simp [RH, RVl, RV1, tau, hget, data1]) (by simp [Taus, hget])
  · rw [decide_eq_false a1] at hO
    rw [e1 a1]
    unfold dkP dkR dkH at *
    refine fn_e tok (n := 68) (rs := [.cell 6 32, .tmp 7]) Tryz.func38 (by decide) rfl rfl rfl rfl (low_of rfl) ?_
    refine Wr.go ?_
    repeat' ((first | (have ee := True.intro; refine Wr.mk ?_) | ((first | refine br_go ?_ ?_ | refine pick_go ?_ ?_) <;> intro ee f <;> (try simp only [BB] at f) <;> (try simp only [numOk, verOk] at f)) | (have ee := True.intro; first | (refine call_h [] [] (hc) (by decide) rfl rfl ?_; rintro _ _ ⟨rfl, rfl⟩) | (refine call_hx [] [768,769,770,771] (hO) (by decide) ?_ rfl ?_; (focus (first | rfl | (simp (maxSteps := 1000000) (disch := first | omega | (simp only [LN, numOk, verOk, rfP, rvP, rhP, frP, elOk_en, elOk_nd, nfx_en, nfx_nd] <;> omega) | exact Ck.mk rfl) only [VC, T, Nat.reduceMul, Nat.reduceAdd, Nat.reduceSub, Nat.reduceLT, Nat.reduceEqDiff, Nat.reduceLeDiff, Nat.reduceBEq, reduceCtorEq, Int.reduceToNat, ↓reduceIte, rfP, rvP, rhP, frP, elOk_en, elOk_nd, nfx_en, nfx_nd]; done)))))) <;> (try simp (maxSteps := 1000000) (disch := first | omega | (simp only [LN, numOk, verOk, rfP, rvP, rhP, frP, elOk_en, elOk_nd, nfx_en, nfx_nd] <;> omega) | exact Ck.mk rfl) only [ee, VC, T, Nat.reduceMul, Nat.reduceAdd, Nat.reduceSub, Nat.reduceLT, Nat.reduceEqDiff, Nat.reduceLeDiff, Nat.reduceBEq, reduceCtorEq, Int.reduceToNat, ↓reduceIte, rfP, rvP, rhP, frP, elOk_en, elOk_nd, nfx_en, nfx_nd]) <;> (try clear ee))
    exact fin_t [some 768, some 769, some 770, some 771] (⟨rfl, rfl⟩) rfl (by simp [RV, RV2, RVl, RV1, tau, tget, hget, data1, oneOf]) (by simp [RH, RVl, RV1, tau, hget, data1]) (by simp [Taus, hget])
theorem spec_AppendFile (d : Dk) (n t : ByteArray) (h : DkB 1048575 1048576 d) (ht : t.size ≤ 1048576) : Fn Tryz.prog 38 [dkP d, .str n, .str t] [] (.tup [dkP (appendT d n t).1, .int .i64 (appendT d n t).2]) [] := by
  obtain ⟨_, _, ⟨rfl, rfl⟩, k⟩ := spec_AppendFile_R d n t h ht
  refine k.far ?_
  simp [fz, fz2, fz1, cvtl, elems, dkR, dkH, dkP, hget, data1]
theorem spec_RenameFile_R (d : Dk) (n to : ByteArray) (h : DkB 1048575 1048576 d) (hn : n.size + to.size + 2 ≤ 1048576) : FnE Tryz.prog 221 [dkP d, .str n, .str to] [] (fun r m => r = .tup [dkR 64 (renameT d n to).1, .int .i64 (renameT d n to).2] ∧ m = dkH (renameT d n to).1) := by
  have ok := h.ok (by decide) (by decide)
  have hes := h.es
  have hss := h.ss
  have hns := h.ns
  have hos := h.os
  have hc := spec_l05Copy_R d ok
  have hO := spec_DiskOk d ok
  have hH : Fn Tryz.prog 95 [.far (d.2.1.map enP), .str n] [] (.bool (decide (hasT d.2.1 n))) [] := spec_l06Has d.2.1 n (by omega)
  have hN := spec_NameOk to (by omega)
  have hE := spec_EntryAt d.2.1 n (by omega)
  have hD := spec_l06Drop_R d.2.1 n (by omega)
  have hdl := dropT_len d.2.1 n
  have hpl := putT_len (dropT d.2.1 n) (to, entT d.2.1 n)
  have hP : FnE Tryz.prog 96 [.far ((dropT d.2.1 n).map enP), .agg [.str to, .int .i64 (entT d.2.1 n)]] [] (fun r m => r = .row 64 (putT (dropT d.2.1 n) (to, entT d.2.1 n)).length ∧ m = [(64, .row ⟨2, 0⟩ ((putT (dropT d.2.1 n) (to, entT d.2.1 n)).map enP))]) := spec_l06Put_R (dropT d.2.1 n) (to, entT d.2.1 n) (by omega)
  have e1 : ¬ diskOk d → renameT d n to = (d, 3) := fun a => if_pos (.inl a)
  have e2 : ¬ hasT d.2.1 n → renameT d n to = (d, 3) := fun a => if_pos (.inr a)
  have e3 : diskOk d → hasT d.2.1 n → (¬ nmOk to ∨ n = to) → renameT d n to = (d, 1) := fun a b c => by unfold renameT; rw [if_neg (by simp [a, b]), if_pos c]
  have e4 : diskOk d → hasT d.2.1 n → ¬ (¬ nmOk to ∨ n = to) → renameT d n to = (cleanT (d.1, putT (dropT d.2.1 n) (to, entT d.2.1 n), d.2.2.1, d.2.2.2.1 ++ [strOf [62] ++ n ++ strOf [58] ++ to], d.2.2.2.2), 0) := fun a b c => by unfold renameT; rw [if_neg (by simp [a, b]), if_neg c]
  have hcl := spec_l06Clean_R (d.1, putT (dropT d.2.1 n) (to, entT d.2.1 n), d.2.2.1, d.2.2.2.1 ++ [strOf [62] ++ n ++ strOf [58] ++ to], d.2.2.2.2) ⟨ok.ns, by simp only; omega, ok.os, by simp only [List.length_append, List.length_singleton]; omega, ok.nt, putT_mem (dropT_mem ok.et) (by simp only; omega), ok.ot, mem_snoc ok.st (by simp only [ByteArray.size_append, strOf_size, List.length_singleton]; omega)⟩
  have hs0 : strOf [62] = ⟨#[62]⟩ := rfl
  have hs1 : strOf [58] = ⟨#[58]⟩ := rfl
  rw [hs0, hs1] at hcl e4
  have hcc : ∀ x y, (cleanT (y, x)) = ((cleanT (y, x)).1, x) := fun x y => rfl
  rw [hcc] at e4
  generalize (cleanT (d.1, putT (dropT d.2.1 n) (to, entT d.2.1 n), d.2.2.1, d.2.2.2.1 ++ [⟨#[62]⟩ ++ n ++ ⟨#[58]⟩ ++ to], d.2.2.2.2)).1 = C at *
  generalize renameT d n to = q at *
  generalize entT d.2.1 n = en at *
  unfold dkP dkR dkH at *
  simp only [List.length_append, List.length_singleton] at hcl
  refine fn_e tok (n := 56) (rs := [.cell 6 32, .tmp 7]) Tryz.func221 (by decide) rfl rfl rfl rfl (low_of rfl) ?_
  refine Wr.go ?_
  repeat' ((first | (have ee := True.intro; refine Wr.mk ?_) | ((first | refine br_go ?_ ?_ | refine pick_go ?_ ?_) <;> intro ee f <;> (try simp only [BB] at f) <;> (try simp only [numOk, verOk] at f)) | (have ee := True.intro; first | (refine call_h [] [] (hc) (by decide) rfl rfl ?_; rintro _ _ ⟨rfl, rfl⟩) | (refine call_hx [] [704,705,706,707] (hO) (by decide) ?_ rfl ?_; (focus (first | rfl | (simp (maxSteps := 1000000) (disch := first | omega | (simp only [LN, numOk, verOk, rfP, rvP, rhP, frP, elOk_en, elOk_nd, nfx_en, nfx_nd] <;> omega) | exact Ck.mk rfl) only [VC, T, Nat.reduceMul, Nat.reduceAdd, Nat.reduceSub, Nat.reduceLT, Nat.reduceEqDiff, Nat.reduceLeDiff, Nat.reduceBEq, reduceCtorEq, Int.reduceToNat, ↓reduceIte, rfP, rvP, rhP, frP, elOk_en, elOk_nd, nfx_en, nfx_nd]; done)))) | (refine call_hx [] [705] (hH) (by decide) ?_ rfl ?_; (focus (first | rfl | (simp (maxSteps := 1000000) (disch := first | omega | (simp only [LN, numOk, verOk, rfP, rvP, rhP, frP, elOk_en, elOk_nd, nfx_en, nfx_nd] <;> omega) | exact Ck.mk rfl) only [VC, T, Nat.reduceMul, Nat.reduceAdd, Nat.reduceSub, Nat.reduceLT, Nat.reduceEqDiff, Nat.reduceLeDiff, Nat.reduceBEq, reduceCtorEq, Int.reduceToNat, ↓reduceIte, rfP, rvP, rhP, frP, elOk_en, elOk_nd, nfx_en, nfx_nd]; done)))) | refine call_x (hN) rfl ⟨rfl⟩ ?_ | (refine call_hx [] [705] (hE) (by decide) ?_ rfl ?_; (focus (first | rfl | (simp (maxSteps := 1000000) (disch := first | omega | (simp only [LN, numOk, verOk, rfP, rvP, rhP, frP, elOk_en, elOk_nd, nfx_en, nfx_nd] <;> omega) | exact Ck.mk rfl) only [VC, T, Nat.reduceMul, Nat.reduceAdd, Nat.reduceSub, Nat.reduceLT, Nat.reduceEqDiff, Nat.reduceLeDiff, Nat.reduceBEq, reduceCtorEq, Int.reduceToNat, ↓reduceIte, rfP, rvP, rhP, frP, elOk_en, elOk_nd, nfx_en, nfx_nd]; done)))) | (refine call_h [] [705] (hD) (by decide) ?_ rfl ?_; (focus (first | rfl | (simp (maxSteps := 1000000) (disch := first | omega | (simp only [LN, numOk, verOk, rfP, rvP, rhP, frP, elOk_en, elOk_nd, nfx_en, nfx_nd] <;> omega) | exact Ck.mk rfl) only [VC, T, Nat.reduceMul, Nat.reduceAdd, Nat.reduceSub, Nat.reduceLT, Nat.reduceEqDiff, Nat.reduceLeDiff, Nat.reduceBEq, reduceCtorEq, Int.reduceToNat, ↓reduceIte, rfP, rvP, rhP, frP, elOk_en, elOk_nd, nfx_en, nfx_nd]; done))); rintro _ _ ⟨rfl, rfl⟩) | (refine call_h [] [2496] (hP) (by decide) ?_ rfl ?_; (focus (first | rfl | (simp (maxSteps := 1000000) (disch := first | omega | (simp only [LN, numOk, verOk, rfP, rvP, rhP, frP, elOk_en, elOk_nd, nfx_en, nfx_nd] <;> omega) | exact Ck.mk rfl) only [VC, T, Nat.reduceMul, Nat.reduceAdd, Nat.reduceSub, Nat.reduceLT, Nat.reduceEqDiff, Nat.reduceLeDiff, Nat.reduceBEq, reduceCtorEq, Int.reduceToNat, ↓reduceIte, rfP, rvP, rhP, frP, elOk_en, elOk_nd, nfx_en, nfx_nd]; done))); rintro _ _ ⟨rfl, rfl⟩) | (refine call_h [704,2752,706,707] [] (hcl) (by decide) rfl rfl ?_; rintro _ _ ⟨rfl, rfl⟩))) <;> (try simp (maxSteps := 1000000) (disch := first | omega | (simp only [LN, numOk, verOk, rfP, rvP, rhP, frP, elOk_en, elOk_nd, nfx_en, nfx_nd] <;> omega) | exact Ck.mk rfl) only [ee, VC, T, Nat.reduceMul, Nat.reduceAdd, Nat.reduceSub, Nat.reduceLT, Nat.reduceEqDiff, Nat.reduceLeDiff, Nat.reduceBEq, reduceCtorEq, Int.reduceToNat, ↓reduceIte, rfP, rvP, rhP, frP, elOk_en, elOk_nd, nfx_en, nfx_nd]) <;> (try clear ee))
  · cases e3 (by assumption) (by assumption) (.inr f)
    exact fin_t [some 704, some 705, some 706, some 707] (⟨rfl, rfl⟩) rfl (by simp [RV, RV2, RVl, RV1, tau, tget, hget, data1, oneOf]) (by simp [RH, RVl, RV1, tau, hget, data1]) (by simp [Taus, hget])
  · cases e4 (by assumption) (by assumption) (fun k => k.elim (fun q => q (by assumption)) f)
    exact fin_t [some 3584, some 2752, some 706, some 707] (⟨rfl, rfl⟩) rfl (by simp [RV, RV2, RVl, RV1, tau, tget, hget, data1, oneOf, List.length_append]) (by simp [RH, RVl, RV1, tau, hget, data1, List.length_append]) (by simp [Taus, hget, List.length_append])
  · cases e3 (by assumption) (by assumption) (.inl f)
    exact fin_t [some 704, some 705, some 706, some 707] (⟨rfl, rfl⟩) rfl (by simp [RV, RV2, RVl, RV1, tau, tget, hget, data1, oneOf]) (by simp [RH, RVl, RV1, tau, hget, data1]) (by simp [Taus, hget])
  · cases e2 f
    exact fin_t [some 704, some 705, some 706, some 707] (⟨rfl, rfl⟩) rfl (by simp [RV, RV2, RVl, RV1, tau, tget, hget, data1, oneOf]) (by simp [RH, RVl, RV1, tau, hget, data1]) (by simp [Taus, hget])
  · cases e1 f
    exact fin_t [some 704, some 705, some 706, some 707] (⟨rfl, rfl⟩) rfl (by simp [RV, RV2, RVl, RV1, tau, tget, hget, data1, oneOf]) (by simp [RH, RVl, RV1, tau, hget, data1]) (by simp [Taus, hget])
end Go.Pv

/- What functions of the program and of the reference do, in plain values. -/
namespace Go.Pv
open Go.Proofs Go.Mth
set_option linter.unusedSimpArgs false
set_option linter.unusedVariables false
set_option maxHeartbeats 4000000
set_option maxRecDepth 4000

/-! ### draws of disks -/
def isDk (a b : Nat) (r : PV) : Prop := ∃ d, r = dkP d ∧ DkB a b d
theorem l14Put (code : List Int) (hb : Bytes code) (a b : Nat) (d : Dk) (hd : DkB a b d) (n t : ByteArray) (hn : n.size + 24 ≤ b) (hz : b + t.size ≤ 1048576) (ha : a + 2 ≤ 1048575) (i h : Int) (hc : CurOk code i h) : FnE Tryz.prog 187 [.ref 0 0, dkP d, .str n, .str t] [(0, curB code i h)] (CQ code (isDk (a + 2) (b + t.size))) := by
  have k1 := spec_RemoveFile d n (hd.mono (by omega) (by omega)) (by omega)
  have h1 := removeT_B hd n (by omega)
  generalize removeT d n = p1 at *
  obtain ⟨d1, c1⟩ := p1
  simp only at h1
  have k2 := spec_CreateFile d1 n (h1.mono (by omega) (by omega)) (by omega)
  have h2 := createT_B h1 n hn
  generalize createT d1 n = p2 at *
  obtain ⟨d2, c2⟩ := p2
  simp only at h2
  have k3 := spec_AppendFile d2 n t (h2.mono (by omega) (by omega)) (by omega)
  have h3 := appendT_B h2 n t
  generalize appendT d2 n t = p3 at *
  obtain ⟨d3, c3⟩ := p3
  simp only at h3
  have k4 := spec_SyncFile d3 n (h3.mono (by omega) (by omega))
  have h4 := syncT_B h3 n
  generalize syncT d3 n = p4 at *
  obtain ⟨d4, c4⟩ := p4
  simp only at h4
  have k5 := spec_SyncNames d3 (h3.mono (by omega) (by omega))
  have k6 := spec_SyncNames d4 (h4.mono (by omega) (by omega))
  have h5 := syncNamesT_B h3
  have h6 := syncNamesT_B h4
  generalize syncNamesT d3 = d5 at *
  generalize syncNamesT d4 = d6 at *
  unfold dkP at *
  refine fn_e tok (n := 43) (rs := [.cell 8 32]) Tryz.func187 (by decide) rfl rfl rfl rfl (low_of rfl) ?_
  refine Wr.go ?_
  repeat' ((first | (have ee := True.intro; refine Wr.mk ?_) | ((first | refine br_go ?_ ?_ | refine pick_go ?_ ?_) <;> intro ee f <;> (try simp only [BB] at f) <;> (try simp only [numOk, verOk] at f)) | (have ee := True.intro; first | refine call_x (k1) rfl ⟨rfl⟩ ?_ | refine call_x (k2) rfl ⟨rfl⟩ ?_ | refine call_x (k3) rfl ⟨rfl⟩ ?_ | refine call_x (k4) rfl ⟨rfl⟩ ?_ | refine call_x (k5) rfl ⟨rfl⟩ ?_ | refine call_x (k6) rfl ⟨rfl⟩ ?_ | (refine call_h [0] [] (l01Once code hb 4 (by decide) _ _ (by assumption)) (by decide) rfl rfl ?_; rintro _ _ ⟨⟨x, rfl⟩, i', h', rfl, hc'⟩))) <;> (try simp (maxSteps := 1000000) (disch := first | omega | (simp only [LN, numOk, verOk, rfP, rvP, rhP, frP, curB, bkd, elOk_en, elOk_nd, nfx_en, nfx_nd] <;> omega) | exact Ck.mk rfl) only [ee, VC, T, Nat.reduceMul, Nat.reduceAdd, Nat.reduceSub, Nat.reduceLT, Nat.reduceEqDiff, Nat.reduceLeDiff, Nat.reduceBEq, reduceCtorEq, Int.reduceToNat, ↓reduceIte, rfP, rvP, rhP, frP, curB, bkd, elOk_en, elOk_nd, nfx_en, nfx_nd]) <;> (try clear ee))
  all_goals
    refine fin_c rfl (by first | rfl | (simp (maxSteps := 1000000) (disch := first | omega | (simp only [LN, numOk, verOk, rfP, rvP, rhP, frP, curB, bkd, elOk_en, elOk_nd, nfx_en, nfx_nd] <;> omega) | exact Ck.mk rfl) only [VC, T, Nat.reduceMul, Nat.reduceAdd, Nat.reduceSub, Nat.reduceLT, Nat.reduceEqDiff, Nat.reduceLeDiff, Nat.reduceBEq, reduceCtorEq, Int.reduceToNat, ↓reduceIte, rfP, rvP, rhP, frP, curB, bkd, elOk_en, elOk_nd, nfx_en, nfx_nd]; done)) rfl rfl ?_
    first
      | exact ⟨⟨d3, rfl, h3⟩, _, _, rfl, by assumption⟩
      | exact ⟨⟨d4, rfl, h4⟩, _, _, rfl, by assumption⟩
      | exact ⟨⟨d5, rfl, h5⟩, _, _, rfl, by assumption⟩
      | exact ⟨⟨d6, rfl, h6⟩, _, _, rfl, by assumption⟩
def isDkR (code : List Int) (a b : Nat) (r : PV) (m : Hp) : Prop := ∃ (d : Dk) (i h : Int), r = dkR 64 d ∧ m = (0, curB code i h) :: dkH d ∧ DkB a b d ∧ CurOk code i h
theorem names_le (t : ByteArray) (h : MemT [⟨#[97]⟩, ⟨#[98]⟩, ⟨#[115, 48, 48, 48, 48, 48, 48, 48, 48, 46, 115, 101, 103]⟩, ⟨#[115, 48, 48, 48, 48, 48, 48, 48, 51, 46, 115, 101, 103]⟩, ⟨#[115, 48, 48, 48, 48, 48, 48, 48, 48, 46, 115, 101, 103, 46, 116, 109, 112]⟩, ⟨#[99]⟩] t) : t.size ≤ 17 := by
  simp only [MemT, List.mem_cons, List.not_mem_nil, or_false] at h
  rcases h with rfl | rfl | rfl | rfl | rfl | rfl <;> decide
theorem tos_le (t : ByteArray) (h : MemT [⟨#[98]⟩, ⟨#[120]⟩, ⟨#[115, 48, 48, 48, 48, 48, 48, 48, 51, 46, 115, 101, 103]⟩] t) : t.size ≤ 13 := by
  simp only [MemT, List.mem_cons, List.not_mem_nil, or_false] at h
  rcases h with rfl | rfl | rfl <;> decide
set_option maxRecDepth 20000 in
theorem l05Disk_R (code : List Int) (hb : Bytes code) (i h : Int) (hc : CurOk code i h) : FnE Tryz.prog 181 [.ref 0 0] [(0, curB code i h)] (isDkR code 16 160) := by
  refine fn_e tok (n := 78) (rs := [.cell 2 32]) Tryz.func181 (by decide) rfl rfl rfl rfl (low_of rfl) ?_
  refine Wr.go ?_
  repeat' ((first | (have ee := True.intro; refine Wr.mk ?_) | ((first | refine br_go ?_ ?_ | refine pick_go ?_ ?_) <;> intro ee f <;> (try simp only [BB] at f) <;> (try simp only [numOk, verOk] at f)) | (have ee := True.intro; first | (refine call_hd [0] [512] (l01PickInt code hb [4000, 4000, 4000, 300, 100] (by simp) (by simp) _ _ (by assumption)) (by decide) ?_ rfl ?_; (focus (first | rfl | (simp (maxSteps := 1000000) (disch := first | omega | (simp only [LN, numOk, verOk, rfP, rvP, rhP, frP, curB, bkd, elOk_en, elOk_nd, nfx_en, nfx_nd] <;> omega) | exact Ck.mk rfl) only [VC, T, Nat.reduceMul, Nat.reduceAdd, Nat.reduceSub, Nat.reduceLT, Nat.reduceEqDiff, Nat.reduceLeDiff, Nat.reduceBEq, reduceCtorEq, Int.reduceToNat, ↓reduceIte, rfP, rvP, rhP, frP, curB, bkd, elOk_en, elOk_nd, nfx_en, nfx_nd]; done))); rintro _ _ ⟨⟨y, rfl, hy⟩, i', h', rfl, hc'⟩) | (refine call_h [] [] (spec_DiskNew_N _) (by decide) rfl rfl ?_; rintro _ _ ⟨rfl, rfl⟩))) <;> (try simp (maxSteps := 1000000) (disch := first | omega | (simp only [LN, numOk, verOk, rfP, rvP, rhP, frP, curB, bkd, elOk_en, elOk_nd, nfx_en, nfx_nd] <;> omega) | exact Ck.mk rfl) only [ee, VC, T, Nat.reduceMul, Nat.reduceAdd, Nat.reduceSub, Nat.reduceLT, Nat.reduceEqDiff, Nat.reduceLeDiff, Nat.reduceBEq, reduceCtorEq, Int.reduceToNat, ↓reduceIte, rfP, rvP, rhP, frP, curB, bkd, elOk_en, elOk_nd, nfx_en, nfx_nd]) <;> (try clear ee))
  refine lp_im (fun x : Nat × Dk × Int × Int => ⟨78, [(0, .ref 0 0), (2, .ref 192 0), (3, .ref 256 0), (4, .int .i64 x.1)], [(0, curB code x.2.2.1 x.2.2.2), (192, .box 32 [.nils, .nils, .nils, .nils, .int .i64 0, .int .i64 0]), (256, .box 32 [.row 9000 x.2.1.1.length, .row 9001 x.2.1.2.1.length, .row 9002 x.2.1.2.2.1.length, .row 9003 x.2.1.2.2.2.1.length, .int .i64 x.2.1.2.2.2.2.1, .int .i64 x.2.1.2.2.2.2.2]), (9000, .row ⟨3, 0⟩ (x.2.1.1.map ndP)), (9001, .row ⟨2, 0⟩ (x.2.1.2.1.map enP)), (9002, .row ⟨2, 0⟩ (x.2.1.2.2.1.map enP)), (9003, .row ⟨1, 0⟩ (x.2.1.2.2.2.1.map .str))]⟩) (fun x => x.1 ≤ 8 ∧ DkB (2 * x.1) (64 + 12 * x.1) x.2.1 ∧ CurOk code x.2.2.1 x.2.2.2) (fun x => 8 - x.1) (0, newT y, i', h') ?_ ⟨Nat.zero_le _, newT_B _ _ _, hc'⟩ ?_
  · refine Im.trans ?_ (Im.nilB 256 9000 ⟨3, 0⟩ 0 (by decide) rfl rfl rfl)
    refine Im.trans ?_ (Im.nilB 256 9001 ⟨2, 0⟩ 1 (by decide) rfl rfl rfl)
    refine Im.trans ?_ (Im.nilB 256 9002 ⟨2, 0⟩ 2 (by decide) rfl rfl rfl)
    refine Im.trans ?_ (Im.nilB 256 9003 ⟨1, 0⟩ 3 (by decide) rfl rfl rfl)
    refine Im.sub ?_
    unfold newT
    (simp (disch := first | omega | (simp only [LN, numOk, verOk, curB] <;> omega) | exact Ck.mk rfl) only [SB, EQ, Nat.reduceMul, Nat.reduceAdd, Nat.reduceSub, Nat.reduceLT, Nat.reduceEqDiff, Nat.reduceLeDiff, Nat.reduceBEq, reduceCtorEq, Int.reduceToNat, ↓reduceIte, curB]; try omega)
    rfl
  · rintro ⟨k, d, i, h⟩ ⟨hk, hd, hc⟩ N hN
    simp only at hk hd hc hN ⊢
    refine Wr.go ?_
    repeat' ((first | (have ee := True.intro; refine Wr.mk ?_) | ((first | refine br_go ?_ ?_ | refine pick_go ?_ ?_) <;> intro ee f <;> (try simp only [BB] at f) <;> (try simp only [numOk, verOk] at f)) | (have ee := True.intro; first | refine dr_go mixed (id := 16) [([], [3], [0, 4096]), ([], [5], []), ([], [0], []), ([], [], []), ([2, 3], [62, 63], []), ([0, 1, 2, 3, 4], [60, 61, 64], []), ([0, 1, 2, 3, 4, 5], [65], []), ([0, 1, 2, 3, 4, 5, 6], [59], []), ([0, 1, 2, 3, 4, 5, 6], [59], [256]), ([0, 1, 2, 3, 4, 5, 6, 7], [3, 66], [])] rfl rfl rfl ?_ | refine dr_go mixed (id := 8) [([], [3], [0]), ([], [5], []), ([], [0], []), ([], [0], []), ([3], [31], []), ([2, 3, 4], [30, 32], []), ([0, 1, 2, 3, 4, 5], [28, 29, 33], []), ([0, 1, 2, 3, 4, 5, 6], [34], []), ([0, 1, 2, 3, 4, 5, 6, 7], [27], []), ([0, 1, 2, 3, 4, 5, 6, 7], [27], [256]), ([0, 1, 2, 3, 4, 5, 6, 7, 8], [3, 35], [])] rfl rfl rfl ?_ | (refine call_h [0] [] (l01Below code hb _ (by omega) _ _ (by assumption)) (by decide) rfl rfl ?_; rintro _ _ ⟨⟨x, rfl, hx1, hx2⟩, i', h', rfl, hc'⟩) | (refine call_hd [0] [1152] (l01Pick code hb [⟨#[97]⟩, ⟨#[98]⟩, ⟨#[115, 48, 48, 48, 48, 48, 48, 48, 48, 46, 115, 101, 103]⟩, ⟨#[115, 48, 48, 48, 48, 48, 48, 48, 51, 46, 115, 101, 103]⟩, ⟨#[115, 48, 48, 48, 48, 48, 48, 48, 48, 46, 115, 101, 103, 46, 116, 109, 112]⟩, ⟨#[99]⟩] (by simp) (by simp) _ _ (by assumption)) (by decide) ?_ rfl ?_; (focus (first | rfl | (simp (maxSteps := 1000000) (disch := first | omega | (simp only [LN, numOk, verOk, rfP, rvP, rhP, frP, curB, bkd, elOk_en, elOk_nd, nfx_en, nfx_nd, dkP, dkR, dkH] <;> omega) | exact Ck.mk rfl) only [VC, T, Nat.reduceMul, Nat.reduceAdd, Nat.reduceSub, Nat.reduceLT, Nat.reduceEqDiff, Nat.reduceLeDiff, Nat.reduceBEq, reduceCtorEq, Int.reduceToNat, ↓reduceIte, rfP, rvP, rhP, frP, curB, bkd, elOk_en, elOk_nd, nfx_en, nfx_nd, dkP, dkR, dkH]; done))); rintro _ _ ⟨⟨t, rfl, ht⟩, i', h', rfl, hc'⟩) | (refine call_hd [0] [4096] (l01Pick code hb [⟨#[98]⟩, ⟨#[120]⟩, ⟨#[115, 48, 48, 48, 48, 48, 48, 48, 51, 46, 115, 101, 103]⟩] (by simp) (by simp) _ _ (by assumption)) (by decide) ?_ rfl ?_; (focus (first | rfl | (simp (maxSteps := 1000000) (disch := first | omega | (simp only [LN, numOk, verOk, rfP, rvP, rhP, frP, curB, bkd, elOk_en, elOk_nd, nfx_en, nfx_nd, dkP, dkR, dkH] <;> omega) | exact Ck.mk rfl) only [VC, T, Nat.reduceMul, Nat.reduceAdd, Nat.reduceSub, Nat.reduceLT, Nat.reduceEqDiff, Nat.reduceLeDiff, Nat.reduceBEq, reduceCtorEq, Int.reduceToNat, ↓reduceIte, rfP, rvP, rhP, frP, curB, bkd, elOk_en, elOk_nd, nfx_en, nfx_nd, dkP, dkR, dkH]; done))); rintro _ _ ⟨⟨t2, rfl, ht2⟩, i', h', rfl, hc'⟩) | (refine call_h [0] [] (l01Text code hb _ (by omega) _ _ (by assumption)) (by decide) rfl rfl ?_; rintro _ _ ⟨⟨u, rfl, hu⟩, i', h', rfl, hc'⟩) | (refine call_h [] [9000,9001,9002,9003] (spec_RemoveFile_R d t (hd.mono (by omega) (by omega)) (by have := names_le t ht; omega)) (by decide) ?_ rfl ?_; (focus (first | rfl | (simp (maxSteps := 1000000) (disch := first | omega | (simp only [LN, numOk, verOk, rfP, rvP, rhP, frP, curB, bkd, elOk_en, elOk_nd, nfx_en, nfx_nd, dkP, dkR, dkH] <;> omega) | exact Ck.mk rfl) only [VC, T, Nat.reduceMul, Nat.reduceAdd, Nat.reduceSub, Nat.reduceLT, Nat.reduceEqDiff, Nat.reduceLeDiff, Nat.reduceBEq, reduceCtorEq, Int.reduceToNat, ↓reduceIte, rfP, rvP, rhP, frP, curB, bkd, elOk_en, elOk_nd, nfx_en, nfx_nd, dkP, dkR, dkH]; done))); rintro _ _ ⟨rfl, rfl⟩) | (refine call_h [] [9000,9001,9002,9003] (spec_SyncNames_R d (hd.mono (by omega) (by omega))) (by decide) ?_ rfl ?_; (focus (first | rfl | (simp (maxSteps := 1000000) (disch := first | omega | (simp only [LN, numOk, verOk, rfP, rvP, rhP, frP, curB, bkd, elOk_en, elOk_nd, nfx_en, nfx_nd, dkP, dkR, dkH] <;> omega) | exact Ck.mk rfl) only [VC, T, Nat.reduceMul, Nat.reduceAdd, Nat.reduceSub, Nat.reduceLT, Nat.reduceEqDiff, Nat.reduceLeDiff, Nat.reduceBEq, reduceCtorEq, Int.reduceToNat, ↓reduceIte, rfP, rvP, rhP, frP, curB, bkd, elOk_en, elOk_nd, nfx_en, nfx_nd, dkP, dkR, dkH]; done))); rintro _ _ ⟨rfl, rfl⟩) | (refine call_h [] [9000,9001,9002,9003] (spec_SyncFile_R d t (hd.mono (by omega) (by omega))) (by decide) ?_ rfl ?_; (focus (first | rfl | (simp (maxSteps := 1000000) (disch := first | omega | (simp only [LN, numOk, verOk, rfP, rvP, rhP, frP, curB, bkd, elOk_en, elOk_nd, nfx_en, nfx_nd, dkP, dkR, dkH] <;> omega) | exact Ck.mk rfl) only [VC, T, Nat.reduceMul, Nat.reduceAdd, Nat.reduceSub, Nat.reduceLT, Nat.reduceEqDiff, Nat.reduceLeDiff, Nat.reduceBEq, reduceCtorEq, Int.reduceToNat, ↓reduceIte, rfP, rvP, rhP, frP, curB, bkd, elOk_en, elOk_nd, nfx_en, nfx_nd, dkP, dkR, dkH]; done))); rintro _ _ ⟨rfl, rfl⟩) | (refine call_h [] [9000,9001,9002,9003] (spec_RenameFile_R d t t2 (hd.mono (by omega) (by omega)) (by have := names_le t ht; have := tos_le t2 ht2; omega)) (by decide) ?_ rfl ?_; (focus (first | rfl | (simp (maxSteps := 1000000) (disch := first | omega | (simp only [LN, numOk, verOk, rfP, rvP, rhP, frP, curB, bkd, elOk_en, elOk_nd, nfx_en, nfx_nd, dkP, dkR, dkH] <;> omega) | exact Ck.mk rfl) only [VC, T, Nat.reduceMul, Nat.reduceAdd, Nat.reduceSub, Nat.reduceLT, Nat.reduceEqDiff, Nat.reduceLeDiff, Nat.reduceBEq, reduceCtorEq, Int.reduceToNat, ↓reduceIte, rfP, rvP, rhP, frP, curB, bkd, elOk_en, elOk_nd, nfx_en, nfx_nd, dkP, dkR, dkH]; done))); rintro _ _ ⟨rfl, rfl⟩) | (refine call_h [] [9000,9001,9002,9003] (spec_CreateFile_R d t (hd.mono (by omega) (by omega)) (by have := names_le t ht; omega)) (by decide) ?_ rfl ?_; (focus (first | rfl | (simp (maxSteps := 1000000) (disch := first | omega | (simp only [LN, numOk, verOk, rfP, rvP, rhP, frP, curB, bkd, elOk_en, elOk_nd, nfx_en, nfx_nd, dkP, dkR, dkH] <;> omega) | exact Ck.mk rfl) only [VC, T, Nat.reduceMul, Nat.reduceAdd, Nat.reduceSub, Nat.reduceLT, Nat.reduceEqDiff, Nat.reduceLeDiff, Nat.reduceBEq, reduceCtorEq, Int.reduceToNat, ↓reduceIte, rfP, rvP, rhP, frP, curB, bkd, elOk_en, elOk_nd, nfx_en, nfx_nd, dkP, dkR, dkH]; done))); rintro _ _ ⟨rfl, rfl⟩) | (refine call_h [] [1600,1601,1602,1603] (spec_AppendFile_R (createT d t).1 t u ((createT_B hd t (by have := names_le t ht; omega)).mono (by omega) (by omega)) (by unfold SzIn at hu; omega)) (by decide) ?_ rfl ?_; (focus (first | rfl | (simp (maxSteps := 1000000) (disch := first | omega | (simp only [LN, numOk, verOk, rfP, rvP, rhP, frP, curB, bkd, elOk_en, elOk_nd, nfx_en, nfx_nd, dkP, dkR, dkH] <;> omega) | exact Ck.mk rfl) only [VC, T, Nat.reduceMul, Nat.reduceAdd, Nat.reduceSub, Nat.reduceLT, Nat.reduceEqDiff, Nat.reduceLeDiff, Nat.reduceBEq, reduceCtorEq, Int.reduceToNat, ↓reduceIte, rfP, rvP, rhP, frP, curB, bkd, elOk_en, elOk_nd, nfx_en, nfx_nd, dkP, dkR, dkH]; done))); rintro _ _ ⟨rfl, rfl⟩))) <;> (try simp (maxSteps := 1000000) (disch := first | omega | (simp only [LN, numOk, verOk, rfP, rvP, rhP, frP, curB, bkd, elOk_en, elOk_nd, nfx_en, nfx_nd, dkP, dkR, dkH] <;> omega) | exact Ck.mk rfl) only [ee, VC, T, Nat.reduceMul, Nat.reduceAdd, Nat.reduceSub, Nat.reduceLT, Nat.reduceEqDiff, Nat.reduceLeDiff, Nat.reduceBEq, reduceCtorEq, Int.reduceToNat, ↓reduceIte, rfP, rvP, rhP, frP, curB, bkd, elOk_en, elOk_nd, nfx_en, nfx_nd, dkP, dkR, dkH]) <;> (try clear ee))
    · refine hN (k + 1, (removeT d t).1, i', h') _ ⟨by simp only; omega, (removeT_B hd t (by have := names_le t ht; omega)).mono (by simp only; omega) (by simp only; omega), by assumption⟩ (by simp only; omega) (Im.trans (Im.sub ?_) (Im.trans (Im.renB 256 2755 9003 (by rfl) (by rfl) (by rfl) (by decide)) (Im.trans (Im.renB 256 2754 9002 (by rfl) (by rfl) (by rfl) (by decide)) (Im.trans (Im.renB 256 2753 9001 (by rfl) (by rfl) (by rfl) (by decide)) (Im.trans (Im.renB 256 2752 9000 (by rfl) (by rfl) (by rfl) (by decide)) (Im.sub (s' := ⟨78, [(0, .ref 0 0), (2, .ref 192 0), (3, .ref 256 0), (4, .int .i64 ((k : Int) + 1))], [(0, curB code i' h'), (192, .box 32 [.nils, .nils, .nils, .nils, .int .i64 0, .int .i64 0]), (256, .box 32 [.row 2752 (removeT d t).1.1.length, .row 2753 (removeT d t).1.2.1.length, .row 2754 (removeT d t).1.2.2.1.length, .row 2755 (removeT d t).1.2.2.2.1.length, .int .i64 (removeT d t).1.2.2.2.2.1, .int .i64 (removeT d t).1.2.2.2.2.2]), (2752, .row ⟨3, 0⟩ ((removeT d t).1.1.map ndP)), (2753, .row ⟨2, 0⟩ ((removeT d t).1.2.1.map enP)), (2754, .row ⟨2, 0⟩ ((removeT d t).1.2.2.1.map enP)), (2755, .row ⟨1, 0⟩ ((removeT d t).1.2.2.2.1.map .str))]⟩) ?_))))))
      · (simp (disch := first | omega | (simp only [LN, numOk, verOk, mvH, rn1, curB] <;> omega) | exact Ck.mk rfl) only [SB, EQ, Nat.reduceMul, Nat.reduceAdd, Nat.reduceSub, Nat.reduceLT, Nat.reduceEqDiff, Nat.reduceLeDiff, Nat.reduceBEq, reduceCtorEq, Int.reduceToNat, ↓reduceIte, mvH, rn1, curB]; try omega)
        rfl
      · (simp (disch := first | omega | (simp only [LN, numOk, verOk, curB] <;> omega) | exact Ck.mk rfl) only [SB, EQ, Nat.reduceMul, Nat.reduceAdd, Nat.reduceSub, Nat.reduceLT, Nat.reduceEqDiff, Nat.reduceLeDiff, Nat.reduceBEq, reduceCtorEq, Int.reduceToNat, ↓reduceIte, curB]; try omega)
    · refine hN (k + 1, (syncNamesT d), i', h') _ ⟨by simp only; omega, (syncNamesT_B hd).mono (by simp only; omega) (by simp only; omega), by assumption⟩ (by simp only; omega) (Im.trans (Im.sub ?_) (Im.trans (Im.renB 256 3139 9003 (by rfl) (by rfl) (by rfl) (by decide)) (Im.trans (Im.renB 256 3138 9002 (by rfl) (by rfl) (by rfl) (by decide)) (Im.trans (Im.renB 256 3137 9001 (by rfl) (by rfl) (by rfl) (by decide)) (Im.trans (Im.renB 256 3136 9000 (by rfl) (by rfl) (by rfl) (by decide)) (Im.sub (s' := ⟨78, [(0, .ref 0 0), (2, .ref 192 0), (3, .ref 256 0), (4, .int .i64 ((k : Int) + 1))], [(0, curB code i' h'), (192, .box 32 [.nils, .nils, .nils, .nils, .int .i64 0, .int .i64 0]), (256, .box 32 [.row 3136 (syncNamesT d).1.length, .row 3137 (syncNamesT d).2.1.length, .row 3138 (syncNamesT d).2.2.1.length, .row 3139 (syncNamesT d).2.2.2.1.length, .int .i64 (syncNamesT d).2.2.2.2.1, .int .i64 (syncNamesT d).2.2.2.2.2]), (3136, .row ⟨3, 0⟩ ((syncNamesT d).1.map ndP)), (3137, .row ⟨2, 0⟩ ((syncNamesT d).2.1.map enP)), (3138, .row ⟨2, 0⟩ ((syncNamesT d).2.2.1.map enP)), (3139, .row ⟨1, 0⟩ ((syncNamesT d).2.2.2.1.map .str))]⟩) ?_))))))
      · (simp (disch := first | omega | (simp only [LN, numOk, verOk, mvH, rn1, curB] <;> omega) | exact Ck.mk rfl) only [SB, EQ, Nat.reduceMul, Nat.reduceAdd, Nat.reduceSub, Nat.reduceLT, Nat.reduceEqDiff, Nat.reduceLeDiff, Nat.reduceBEq, reduceCtorEq, Int.reduceToNat, ↓reduceIte, mvH, rn1, curB]; try omega)
        rfl
      · (simp (disch := first | omega | (simp only [LN, numOk, verOk, curB] <;> omega) | exact Ck.mk rfl) only [SB, EQ, Nat.reduceMul, Nat.reduceAdd, Nat.reduceSub, Nat.reduceLT, Nat.reduceEqDiff, Nat.reduceLeDiff, Nat.reduceBEq, reduceCtorEq, Int.reduceToNat, ↓reduceIte, curB]; try omega)
    · refine hN (k + 1, (syncT d t).1, i', h') _ ⟨by simp only; omega, (syncT_B hd t).mono (by simp only; omega) (by simp only; omega), by assumption⟩ (by simp only; omega) (Im.trans (Im.sub ?_) (Im.trans (Im.renB 256 3523 9003 (by rfl) (by rfl) (by rfl) (by decide)) (Im.trans (Im.renB 256 3522 9002 (by rfl) (by rfl) (by rfl) (by decide)) (Im.trans (Im.renB 256 3521 9001 (by rfl) (by rfl) (by rfl) (by decide)) (Im.trans (Im.renB 256 3520 9000 (by rfl) (by rfl) (by rfl) (by decide)) (Im.sub (s' := ⟨78, [(0, .ref 0 0), (2, .ref 192 0), (3, .ref 256 0), (4, .int .i64 ((k : Int) + 1))], [(0, curB code i' h'), (192, .box 32 [.nils, .nils, .nils, .nils, .int .i64 0, .int .i64 0]), (256, .box 32 [.row 3520 (syncT d t).1.1.length, .row 3521 (syncT d t).1.2.1.length, .row 3522 (syncT d t).1.2.2.1.length, .row 3523 (syncT d t).1.2.2.2.1.length, .int .i64 (syncT d t).1.2.2.2.2.1, .int .i64 (syncT d t).1.2.2.2.2.2]), (3520, .row ⟨3, 0⟩ ((syncT d t).1.1.map ndP)), (3521, .row ⟨2, 0⟩ ((syncT d t).1.2.1.map enP)), (3522, .row ⟨2, 0⟩ ((syncT d t).1.2.2.1.map enP)), (3523, .row ⟨1, 0⟩ ((syncT d t).1.2.2.2.1.map .str))]⟩) ?_))))))
      · (simp (disch := first | omega | (simp only [LN, numOk, verOk, mvH, rn1, curB] <;> omega) | exact Ck.mk rfl) only [SB, EQ, Nat.reduceMul, Nat.reduceAdd, Nat.reduceSub, Nat.reduceLT, Nat.reduceEqDiff, Nat.reduceLeDiff, Nat.reduceBEq, reduceCtorEq, Int.reduceToNat, ↓reduceIte, mvH, rn1, curB]; try omega)
        rfl
      · (simp (disch := first | omega | (simp only [LN, numOk, verOk, curB] <;> omega) | exact Ck.mk rfl) only [SB, EQ, Nat.reduceMul, Nat.reduceAdd, Nat.reduceSub, Nat.reduceLT, Nat.reduceEqDiff, Nat.reduceLeDiff, Nat.reduceBEq, reduceCtorEq, Int.reduceToNat, ↓reduceIte, curB]; try omega)
    · refine hN (k + 1, (renameT d t t2).1, i', h') _ ⟨by simp only; omega, (renameT_B hd t t2 (by have := names_le t ht; have := tos_le t2 ht2; omega)).mono (by simp only; omega) (by simp only; omega), by assumption⟩ (by simp only; omega) (Im.trans (Im.sub ?_) (Im.trans (Im.renB 256 4227 9003 (by rfl) (by rfl) (by rfl) (by decide)) (Im.trans (Im.renB 256 4226 9002 (by rfl) (by rfl) (by rfl) (by decide)) (Im.trans (Im.renB 256 4225 9001 (by rfl) (by rfl) (by rfl) (by decide)) (Im.trans (Im.renB 256 4224 9000 (by rfl) (by rfl) (by rfl) (by decide)) (Im.sub (s' := ⟨78, [(0, .ref 0 0), (2, .ref 192 0), (3, .ref 256 0), (4, .int .i64 ((k : Int) + 1))], [(0, curB code i' h'), (192, .box 32 [.nils, .nils, .nils, .nils, .int .i64 0, .int .i64 0]), (256, .box 32 [.row 4224 (renameT d t t2).1.1.length, .row 4225 (renameT d t t2).1.2.1.length, .row 4226 (renameT d t t2).1.2.2.1.length, .row 4227 (renameT d t t2).1.2.2.2.1.length, .int .i64 (renameT d t t2).1.2.2.2.2.1, .int .i64 (renameT d t t2).1.2.2.2.2.2]), (4224, .row ⟨3, 0⟩ ((renameT d t t2).1.1.map ndP)), (4225, .row ⟨2, 0⟩ ((renameT d t t2).1.2.1.map enP)), (4226, .row ⟨2, 0⟩ ((renameT d t t2).1.2.2.1.map enP)), (4227, .row ⟨1, 0⟩ ((renameT d t t2).1.2.2.2.1.map .str))]⟩) ?_))))))
      · (simp (disch := first | omega | (simp only [LN, numOk, verOk, mvH, rn1, curB] <;> omega) | exact Ck.mk rfl) only [SB, EQ, Nat.reduceMul, Nat.reduceAdd, Nat.reduceSub, Nat.reduceLT, Nat.reduceEqDiff, Nat.reduceLeDiff, Nat.reduceBEq, reduceCtorEq, Int.reduceToNat, ↓reduceIte, mvH, rn1, curB]; try omega)
        rfl
      · (simp (disch := first | omega | (simp only [LN, numOk, verOk, curB] <;> omega) | exact Ck.mk rfl) only [SB, EQ, Nat.reduceMul, Nat.reduceAdd, Nat.reduceSub, Nat.reduceLT, Nat.reduceEqDiff, Nat.reduceLeDiff, Nat.reduceBEq, reduceCtorEq, Int.reduceToNat, ↓reduceIte, curB]; try omega)
    · refine hN (k + 1, (createT d t).1, i', h') _ ⟨by simp only; omega, (createT_B hd t (by have := names_le t ht; omega)).mono (by simp only; omega) (by simp only; omega), by assumption⟩ (by simp only; omega) (Im.trans (Im.sub ?_) (Im.trans (Im.renB 256 4803 9003 (by rfl) (by rfl) (by rfl) (by decide)) (Im.trans (Im.renB 256 4802 9002 (by rfl) (by rfl) (by rfl) (by decide)) (Im.trans (Im.renB 256 4801 9001 (by rfl) (by rfl) (by rfl) (by decide)) (Im.trans (Im.renB 256 4800 9000 (by rfl) (by rfl) (by rfl) (by decide)) (Im.sub (s' := ⟨78, [(0, .ref 0 0), (2, .ref 192 0), (3, .ref 256 0), (4, .int .i64 ((k : Int) + 1))], [(0, curB code i' h'), (192, .box 32 [.nils, .nils, .nils, .nils, .int .i64 0, .int .i64 0]), (256, .box 32 [.row 4800 (createT d t).1.1.length, .row 4801 (createT d t).1.2.1.length, .row 4802 (createT d t).1.2.2.1.length, .row 4803 (createT d t).1.2.2.2.1.length, .int .i64 (createT d t).1.2.2.2.2.1, .int .i64 (createT d t).1.2.2.2.2.2]), (4800, .row ⟨3, 0⟩ ((createT d t).1.1.map ndP)), (4801, .row ⟨2, 0⟩ ((createT d t).1.2.1.map enP)), (4802, .row ⟨2, 0⟩ ((createT d t).1.2.2.1.map enP)), (4803, .row ⟨1, 0⟩ ((createT d t).1.2.2.2.1.map .str))]⟩) ?_))))))
      · (simp (disch := first | omega | (simp only [LN, numOk, verOk, mvH, rn1, curB] <;> omega) | exact Ck.mk rfl) only [SB, EQ, Nat.reduceMul, Nat.reduceAdd, Nat.reduceSub, Nat.reduceLT, Nat.reduceEqDiff, Nat.reduceLeDiff, Nat.reduceBEq, reduceCtorEq, Int.reduceToNat, ↓reduceIte, mvH, rn1, curB]; try omega)
        rfl
      · (simp (disch := first | omega | (simp only [LN, numOk, verOk, curB] <;> omega) | exact Ck.mk rfl) only [SB, EQ, Nat.reduceMul, Nat.reduceAdd, Nat.reduceSub, Nat.reduceLT, Nat.reduceEqDiff, Nat.reduceLeDiff, Nat.reduceBEq, reduceCtorEq, Int.reduceToNat, ↓reduceIte, curB]; try omega)
    · refine hN (k + 1, (createT d t).1, i', h') _ ⟨by simp only; omega, (createT_B hd t (by have := names_le t ht; omega)).mono (by simp only; omega) (by simp only; omega), by assumption⟩ (by simp only; omega) (Im.trans (Im.sub ?_) (Im.trans (Im.renB 256 4803 9003 (by rfl) (by rfl) (by rfl) (by decide)) (Im.trans (Im.renB 256 4802 9002 (by rfl) (by rfl) (by rfl) (by decide)) (Im.trans (Im.renB 256 4801 9001 (by rfl) (by rfl) (by rfl) (by decide)) (Im.trans (Im.renB 256 4800 9000 (by rfl) (by rfl) (by rfl) (by decide)) (Im.sub (s' := ⟨78, [(0, .ref 0 0), (2, .ref 192 0), (3, .ref 256 0), (4, .int .i64 ((k : Int) + 1))], [(0, curB code i' h'), (192, .box 32 [.nils, .nils, .nils, .nils, .int .i64 0, .int .i64 0]), (256, .box 32 [.row 4800 (createT d t).1.1.length, .row 4801 (createT d t).1.2.1.length, .row 4802 (createT d t).1.2.2.1.length, .row 4803 (createT d t).1.2.2.2.1.length, .int .i64 (createT d t).1.2.2.2.2.1, .int .i64 (createT d t).1.2.2.2.2.2]), (4800, .row ⟨3, 0⟩ ((createT d t).1.1.map ndP)), (4801, .row ⟨2, 0⟩ ((createT d t).1.2.1.map enP)), (4802, .row ⟨2, 0⟩ ((createT d t).1.2.2.1.map enP)), (4803, .row ⟨1, 0⟩ ((createT d t).1.2.2.2.1.map .str))]⟩) ?_))))))
      · (simp (disch := first | omega | (simp only [LN, numOk, verOk, mvH, rn1, curB] <;> omega) | exact Ck.mk rfl) only [SB, EQ, Nat.reduceMul, Nat.reduceAdd, Nat.reduceSub, Nat.reduceLT, Nat.reduceEqDiff, Nat.reduceLeDiff, Nat.reduceBEq, reduceCtorEq, Int.reduceToNat, ↓reduceIte, mvH, rn1, curB]; try omega)
        rfl
      · (simp (disch := first | omega | (simp only [LN, numOk, verOk, curB] <;> omega) | exact Ck.mk rfl) only [SB, EQ, Nat.reduceMul, Nat.reduceAdd, Nat.reduceSub, Nat.reduceLT, Nat.reduceEqDiff, Nat.reduceLeDiff, Nat.reduceBEq, reduceCtorEq, Int.reduceToNat, ↓reduceIte, curB]; try omega)
    · refine hN (k + 1, (appendT (createT d t).1 t u).1, i', h') _ ⟨by simp only; omega, (appendT_B (createT_B hd t (by have := names_le t ht; omega)) t u).mono (by simp only; omega) (by unfold SzIn at hu; simp only; omega), by assumption⟩ (by simp only; omega) (Im.trans (Im.sub ?_) (Im.trans (Im.renB 256 2243 9003 (by rfl) (by rfl) (by rfl) (by decide)) (Im.trans (Im.renB 256 2242 9002 (by rfl) (by rfl) (by rfl) (by decide)) (Im.trans (Im.renB 256 2241 9001 (by rfl) (by rfl) (by rfl) (by decide)) (Im.trans (Im.renB 256 2240 9000 (by rfl) (by rfl) (by rfl) (by decide)) (Im.sub (s' := ⟨78, [(0, .ref 0 0), (2, .ref 192 0), (3, .ref 256 0), (4, .int .i64 ((k : Int) + 1))], [(0, curB code i' h'), (192, .box 32 [.nils, .nils, .nils, .nils, .int .i64 0, .int .i64 0]), (256, .box 32 [.row 2240 (appendT (createT d t).1 t u).1.1.length, .row 2241 (appendT (createT d t).1 t u).1.2.1.length, .row 2242 (appendT (createT d t).1 t u).1.2.2.1.length, .row 2243 (appendT (createT d t).1 t u).1.2.2.2.1.length, .int .i64 (appendT (createT d t).1 t u).1.2.2.2.2.1, .int .i64 (appendT (createT d t).1 t u).1.2.2.2.2.2]), (2240, .row ⟨3, 0⟩ ((appendT (createT d t).1 t u).1.1.map ndP)), (2241, .row ⟨2, 0⟩ ((appendT (createT d t).1 t u).1.2.1.map enP)), (2242, .row ⟨2, 0⟩ ((appendT (createT d t).1 t u).1.2.2.1.map enP)), (2243, .row ⟨1, 0⟩ ((appendT (createT d t).1 t u).1.2.2.2.1.map .str))]⟩) ?_))))))
      · (simp (disch := first | omega | (simp only [LN, numOk, verOk, mvH, rn1, curB] <;> omega) | exact Ck.mk rfl) only [SB, EQ, Nat.reduceMul, Nat.reduceAdd, Nat.reduceSub, Nat.reduceLT, Nat.reduceEqDiff, Nat.reduceLeDiff, Nat.reduceBEq, reduceCtorEq, Int.reduceToNat, ↓reduceIte, mvH, rn1, curB]; try omega)
        rfl
      · (simp (disch := first | omega | (simp only [LN, numOk, verOk, curB] <;> omega) | exact Ck.mk rfl) only [SB, EQ, Nat.reduceMul, Nat.reduceAdd, Nat.reduceSub, Nat.reduceLT, Nat.reduceEqDiff, Nat.reduceLeDiff, Nat.reduceBEq, reduceCtorEq, Int.reduceToNat, ↓reduceIte, curB]; try omega)
    · exact fin_t [some 9000, some 9001, some 9002, some 9003] (⟨d, _, _, rfl, rfl, hd.mono (by omega) (by omega), by assumption⟩) rfl (by simp [RV, RV2, RVl, RV1, tau, tget, hget, data1, oneOf, curB, dkR, dkH]) (by simp [RH, RVl, RV1, tau, hget, data1, curB, dkR, dkH]) (by simp [Taus, hget, curB, dkR, dkH])
end Go.Pv

/- What functions of the program and of the reference do, in plain values. -/
namespace Go.Pv
open Go.Proofs Go.Mth
set_option linter.unusedSimpArgs false
set_option linter.unusedVariables false
set_option maxHeartbeats 4000000
set_option maxRecDepth 4000

/-! ### draws of disks: any disk -/
theorem steps_le (t : ByteArray) (h : MemT [⟨#[45, 97]⟩, ⟨#[43, 113, 58, 49]⟩, ⟨#[120]⟩, ⟨#[]⟩, ⟨#[43, 113, 58, 57]⟩, ⟨#[45, 122, 122]⟩, ⟨#[43, 58, 49]⟩, ⟨#[43, 113, 58]⟩] t) : t.size ≤ 4 := by
  simp only [MemT, List.mem_cons, List.not_mem_nil, or_false] at h
  rcases h with rfl | rfl | rfl | rfl | rfl | rfl | rfl | rfl <;> decide
set_option maxRecDepth 20000 in
theorem l05Any (code : List Int) (hb : Bytes code) (i h : Int) (hc : CurOk code i h) : FnE Tryz.prog 138 [.ref 0 0] [(0, curB code i h)] (CQ code (isDk 17 160)) := by
  have hg : ∀ (d : Dk) (j : Nat), j < d.1.length → (d.1.map ndP).getD j .junk = .agg [.int .i64 (d.1.getD j default).1, .str (d.1.getD j default).2.1, .int .i64 (d.1.getD j default).2.2] := fun d j h => by
    rw [List.getD_eq_getElem?_getD, List.getElem?_map, List.getElem?_eq_getElem h, List.getD_eq_getElem?_getD, List.getElem?_eq_getElem h]; rfl
  have hu0 : ∀ a b c z : PV, upd (.agg [a, b, c]) 0 [z] = .agg [z, b, c] := fun _ _ _ _ => rfl
  have hu2 : ∀ a b c z : PV, upd (.agg [a, b, c]) 2 [z] = .agg [a, b, z] := fun _ _ _ _ => rfl
  refine fn_e tok (n := 77) (rs := [.cell 2 32]) Tryz.func138 (by decide) rfl rfl rfl rfl (low_of rfl) ?_
  refine Wr.go ?_
  repeat' ((first | (have ee := True.intro; refine Wr.mk ?_) | ((first | refine br_go ?_ ?_ | refine pick_go ?_ ?_) <;> intro ee f <;> (try simp only [BB] at f) <;> (try simp only [numOk, verOk] at f)) | (have ee := True.intro; first | (refine call_h [0] [] (l05Disk_R code hb _ _ (by assumption)) (by decide) rfl rfl ?_; rintro _ _ ⟨d, i', h', rfl, rfl, hd, hc'⟩))) <;> (try simp (maxSteps := 1000000) (disch := first | omega | (simp only [LN, numOk, verOk, rfP, rvP, rhP, frP, curB, bkd, elOk_en, elOk_nd, nfx_en, nfx_nd, dkR, dkH] <;> omega) | exact Ck.mk rfl) only [ee, VC, T, Nat.reduceMul, Nat.reduceAdd, Nat.reduceSub, Nat.reduceLT, Nat.reduceEqDiff, Nat.reduceLeDiff, Nat.reduceBEq, reduceCtorEq, Int.reduceToNat, ↓reduceIte, rfP, rvP, rhP, frP, curB, bkd, elOk_en, elOk_nd, nfx_en, nfx_nd, dkR, dkH]) <;> (try clear ee))
  have hq := (hd.mono (by decide) (by decide) : DkB 17 160 d)
  have hd1 := hd.ns
  have hd2 := hd.es
  have hd3 := hd.os
  have hd4 := hd.ss
  refine Wr.go ?_
  repeat' ((first | (have ee := True.intro; refine Wr.mk ?_) | ((first | refine br_go ?_ ?_ | refine pick_go ?_ ?_) <;> intro ee f <;> (try simp only [BB] at f) <;> (try simp only [numOk, verOk] at f)) | (have ee := True.intro; first | refine dr_go mixed (id := 8) [([], [3], [0]), ([0], [22], [0]), ([], [0], []), ([2], [24], []), ([2, 3], [25], []), ([2, 3, 4], [26], []), ([0, 1, 2, 3, 4, 5], [23, 27], []), ([0, 1, 2, 3, 4, 5, 6], [3], []), ([0, 1, 2, 3, 4, 5, 6, 7], [28, 29], [])] rfl rfl rfl ?_ | refine dr_go mixed (id := 12) [([], [3], [0, 2816]), ([0], [40], [0, 2816]), ([], [0], []), ([], [], []), ([2, 3], [42, 43], []), ([2, 3, 4], [44], []), ([0, 1, 2, 3, 4, 5], [41, 45], []), ([0, 1, 2, 3, 4, 5, 6], [3], []), ([0, 1, 2, 3, 4, 5, 6, 7], [46, 47], [])] rfl rfl rfl ?_ | refine dr_go mixed (id := 15) [([], [3], [0, 3712]), ([0], [54], [0, 3712]), ([], [0], []), ([], [], []), ([2, 3], [56, 57], []), ([0, 1, 2, 3, 4], [55], []), ([0, 1, 2, 3, 4, 5], [59], []), ([0, 1, 2, 3, 4, 5, 6], [58, 60], [])] rfl rfl rfl ?_ | refine dr_go mixed (id := 18) [([], [3], []), ([0], [67], []), ([], [3], []), ([2], [69], []), ([2, 3], [70], []), ([2, 3, 4], [71], []), ([2, 3, 4, 5], [72], []), ([0, 1, 2, 3, 4, 5, 6], [68], []), ([0, 1, 2, 3, 4, 5, 6, 7], [74], []), ([0, 1, 2, 3, 4, 5, 6, 7, 8], [73, 75], [])] rfl rfl rfl ?_ | (refine call_h [0] [] (l01Below code hb _ (by omega) _ _ (by assumption)) (by decide) rfl rfl ?_; rintro _ _ ⟨⟨x, rfl, hx1, hx2⟩, i', h', rfl, hc'⟩) | (refine call_hd [0] [768] (l01PickInt code hb [-1, 0, 5, 1000000001] (by simp) (by simp) _ _ (by assumption)) (by decide) ?_ rfl ?_; (focus (first | rfl | (simp (maxSteps := 1000000) (disch := first | omega | (simp only [LN, numOk, verOk, rfP, rvP, rhP, frP, curB, bkd, elOk_en, elOk_nd, nfx_en, nfx_nd, hg, hu0, hu2] <;> omega) | exact Ck.mk rfl) only [VC, T, Nat.reduceMul, Nat.reduceAdd, Nat.reduceSub, Nat.reduceLT, Nat.reduceEqDiff, Nat.reduceLeDiff, Nat.reduceBEq, reduceCtorEq, Int.reduceToNat, ↓reduceIte, rfP, rvP, rhP, frP, curB, bkd, elOk_en, elOk_nd, nfx_en, nfx_nd, hg, hu0, hu2]; done))); rintro _ _ ⟨⟨y, rfl, hy⟩, i', h', rfl, hc'⟩) | (refine call_hd [0] [1152] (l01PickInt code hb [0, 1, 2, -1, 9223372036854775807] (by simp) (by simp) _ _ (by assumption)) (by decide) ?_ rfl ?_; (focus (first | rfl | (simp (maxSteps := 1000000) (disch := first | omega | (simp only [LN, numOk, verOk, rfP, rvP, rhP, frP, curB, bkd, elOk_en, elOk_nd, nfx_en, nfx_nd, hg, hu0, hu2] <;> omega) | exact Ck.mk rfl) only [VC, T, Nat.reduceMul, Nat.reduceAdd, Nat.reduceSub, Nat.reduceLT, Nat.reduceEqDiff, Nat.reduceLeDiff, Nat.reduceBEq, reduceCtorEq, Int.reduceToNat, ↓reduceIte, rfP, rvP, rhP, frP, curB, bkd, elOk_en, elOk_nd, nfx_en, nfx_nd, hg, hu0, hu2]; done))); rintro _ _ ⟨⟨y, rfl, hy⟩, i', h', rfl, hc'⟩) | (refine call_hd [0] [2816] (l01Pick code hb [⟨#[45, 97]⟩, ⟨#[43, 113, 58, 49]⟩, ⟨#[120]⟩, ⟨#[]⟩, ⟨#[43, 113, 58, 57]⟩, ⟨#[45, 122, 122]⟩, ⟨#[43, 58, 49]⟩, ⟨#[43, 113, 58]⟩] (by simp) (by simp) _ _ (by assumption)) (by decide) ?_ rfl ?_; (focus (first | rfl | (simp (maxSteps := 1000000) (disch := first | omega | (simp only [LN, numOk, verOk, rfP, rvP, rhP, frP, curB, bkd, elOk_en, elOk_nd, nfx_en, nfx_nd, hg, hu0, hu2] <;> omega) | exact Ck.mk rfl) only [VC, T, Nat.reduceMul, Nat.reduceAdd, Nat.reduceSub, Nat.reduceLT, Nat.reduceEqDiff, Nat.reduceLeDiff, Nat.reduceBEq, reduceCtorEq, Int.reduceToNat, ↓reduceIte, rfP, rvP, rhP, frP, curB, bkd, elOk_en, elOk_nd, nfx_en, nfx_nd, hg, hu0, hu2]; done))); rintro _ _ ⟨⟨u, rfl, hu⟩, i', h', rfl, hc'⟩) | (refine call_hd [0] [3712] (l01PickInt code hb [-1, 0, 99] (by simp) (by simp) _ _ (by assumption)) (by decide) ?_ rfl ?_; (focus (first | rfl | (simp (maxSteps := 1000000) (disch := first | omega | (simp only [LN, numOk, verOk, rfP, rvP, rhP, frP, curB, bkd, elOk_en, elOk_nd, nfx_en, nfx_nd, hg, hu0, hu2] <;> omega) | exact Ck.mk rfl) only [VC, T, Nat.reduceMul, Nat.reduceAdd, Nat.reduceSub, Nat.reduceLT, Nat.reduceEqDiff, Nat.reduceLeDiff, Nat.reduceBEq, reduceCtorEq, Int.reduceToNat, ↓reduceIte, rfP, rvP, rhP, frP, curB, bkd, elOk_en, elOk_nd, nfx_en, nfx_nd, hg, hu0, hu2]; done))); rintro _ _ ⟨⟨y, rfl, hy⟩, i', h', rfl, hc'⟩))) <;> (try simp (maxSteps := 1000000) (disch := first | omega | (simp only [LN, numOk, verOk, rfP, rvP, rhP, frP, curB, bkd, elOk_en, elOk_nd, nfx_en, nfx_nd, hg, hu0, hu2] <;> omega) | exact Ck.mk rfl) only [ee, VC, T, Nat.reduceMul, Nat.reduceAdd, Nat.reduceSub, Nat.reduceLT, Nat.reduceEqDiff, Nat.reduceLeDiff, Nat.reduceBEq, reduceCtorEq, Int.reduceToNat, ↓reduceIte, rfP, rvP, rhP, frP, curB, bkd, elOk_en, elOk_nd, nfx_en, nfx_nd, hg, hu0, hu2]) <;> (try clear ee))
  · refine fin_c (y := .agg [.far (d.1.map ndP), .far (d.2.1.map enP), .far (d.2.2.1.map enP), .far (d.2.2.2.1.map .str), .int .i64 (y), .int .i64 (d.2.2.2.2.2)]) rfl (by first | rfl | (simp (maxSteps := 1000000) (disch := first | omega | (simp only [LN, numOk, verOk, rfP, rvP, rhP, frP, curB, bkd, elOk_en, elOk_nd, nfx_en, nfx_nd] <;> omega) | exact Ck.mk rfl) only [VC, T, Nat.reduceMul, Nat.reduceAdd, Nat.reduceSub, Nat.reduceLT, Nat.reduceEqDiff, Nat.reduceLeDiff, Nat.reduceBEq, reduceCtorEq, Int.reduceToNat, ↓reduceIte, rfP, rvP, rhP, frP, curB, bkd, elOk_en, elOk_nd, nfx_en, nfx_nd]; done)) rfl rfl ?_
    exact ⟨⟨(d.1, d.2.1, d.2.2.1, d.2.2.2.1, y, d.2.2.2.2.2), rfl, ⟨hq.ns, hq.es, hq.os, hq.ss, hq.nt, hq.et, hq.ot, hq.st⟩⟩, _, _, rfl, by assumption⟩
  · refine fin_c (y := .agg [.far (d.1.map ndP), .far (d.2.1.map enP), .far (d.2.2.1.map enP), .far (d.2.2.2.1.map .str), .int .i64 (d.2.2.2.2.1), .int .i64 (y)]) rfl (by first | rfl | (simp (maxSteps := 1000000) (disch := first | omega | (simp only [LN, numOk, verOk, rfP, rvP, rhP, frP, curB, bkd, elOk_en, elOk_nd, nfx_en, nfx_nd] <;> omega) | exact Ck.mk rfl) only [VC, T, Nat.reduceMul, Nat.reduceAdd, Nat.reduceSub, Nat.reduceLT, Nat.reduceEqDiff, Nat.reduceLeDiff, Nat.reduceBEq, reduceCtorEq, Int.reduceToNat, ↓reduceIte, rfP, rvP, rhP, frP, curB, bkd, elOk_en, elOk_nd, nfx_en, nfx_nd]; done)) rfl rfl ?_
    exact ⟨⟨(d.1, d.2.1, d.2.2.1, d.2.2.2.1, d.2.2.2.2.1, y), rfl, ⟨hq.ns, hq.es, hq.os, hq.ss, hq.nt, hq.et, hq.ot, hq.st⟩⟩, _, _, rfl, by assumption⟩
  · refine fin_c (y := .agg [.far (d.1.map ndP), .far (d.2.1.map enP ++ [.agg [.str ⟨#[122]⟩, .int .i64 x]]), .far (d.2.2.1.map enP), .far (d.2.2.2.1.map .str), .int .i64 (d.2.2.2.2.1), .int .i64 (d.2.2.2.2.2)]) rfl (by first | rfl | (simp (maxSteps := 1000000) (disch := first | omega | (simp only [LN, numOk, verOk, rfP, rvP, rhP, frP, curB, bkd, elOk_en, elOk_nd, nfx_en, nfx_nd] <;> omega) | exact Ck.mk rfl) only [VC, T, Nat.reduceMul, Nat.reduceAdd, Nat.reduceSub, Nat.reduceLT, Nat.reduceEqDiff, Nat.reduceLeDiff, Nat.reduceBEq, reduceCtorEq, Int.reduceToNat, ↓reduceIte, rfP, rvP, rhP, frP, curB, bkd, elOk_en, elOk_nd, nfx_en, nfx_nd]; done)) rfl rfl ?_
    exact ⟨⟨(d.1, d.2.1 ++ [(⟨#[122]⟩, x)], d.2.2.1, d.2.2.2.1, d.2.2.2.2.1, d.2.2.2.2.2), by unfold dkP; rw [List.map_append]; rfl, ⟨hq.ns, by rw [List.length_append, List.length_singleton]; omega, hq.os, hq.ss, hq.nt, mem_snoc hq.et (y := ((⟨#[122]⟩ : ByteArray), x)) (by show 1 ≤ 160; decide), hq.ot, hq.st⟩⟩, _, _, rfl, by assumption⟩
  · refine fin_c (y := .agg [.far (d.1.map ndP), .far (d.2.1.map enP), .far (d.2.2.1.map enP ++ [.agg [.str ⟨#[122]⟩, .int .i64 1]]), .far (d.2.2.2.1.map .str), .int .i64 (d.2.2.2.2.1), .int .i64 (d.2.2.2.2.2)]) rfl (by first | rfl | (simp (maxSteps := 1000000) (disch := first | omega | (simp only [LN, numOk, verOk, rfP, rvP, rhP, frP, curB, bkd, elOk_en, elOk_nd, nfx_en, nfx_nd] <;> omega) | exact Ck.mk rfl) only [VC, T, Nat.reduceMul, Nat.reduceAdd, Nat.reduceSub, Nat.reduceLT, Nat.reduceEqDiff, Nat.reduceLeDiff, Nat.reduceBEq, reduceCtorEq, Int.reduceToNat, ↓reduceIte, rfP, rvP, rhP, frP, curB, bkd, elOk_en, elOk_nd, nfx_en, nfx_nd]; done)) rfl rfl ?_
    exact ⟨⟨(d.1, d.2.1, d.2.2.1 ++ [(⟨#[122]⟩, 1)], d.2.2.2.1, d.2.2.2.2.1, d.2.2.2.2.2), by unfold dkP; rw [List.map_append]; rfl, ⟨hq.ns, hq.es, by rw [List.length_append, List.length_singleton]; omega, hq.ss, hq.nt, hq.et, mem_snoc hq.ot (by decide), hq.st⟩⟩, _, _, rfl, by assumption⟩
  · refine fin_c (y := .agg [.far (d.1.map ndP), .far (d.2.1.map enP), .far (d.2.2.1.map enP), .far ((d.2.2.2.1 ++ [u]).map .str), .int .i64 (d.2.2.2.2.1), .int .i64 (d.2.2.2.2.2)]) rfl (by first | rfl | (simp (maxSteps := 1000000) (disch := first | omega | (simp only [LN, numOk, verOk, rfP, rvP, rhP, frP, curB, bkd, elOk_en, elOk_nd, nfx_en, nfx_nd] <;> omega) | exact Ck.mk rfl) only [VC, T, Nat.reduceMul, Nat.reduceAdd, Nat.reduceSub, Nat.reduceLT, Nat.reduceEqDiff, Nat.reduceLeDiff, Nat.reduceBEq, reduceCtorEq, Int.reduceToNat, ↓reduceIte, rfP, rvP, rhP, frP, curB, bkd, elOk_en, elOk_nd, nfx_en, nfx_nd]; done)) rfl rfl ?_
    exact ⟨⟨(d.1, d.2.1, d.2.2.1, d.2.2.2.1 ++ [u], d.2.2.2.2.1, d.2.2.2.2.2), rfl, ⟨hq.ns, hq.es, hq.os, by rw [List.length_append, List.length_singleton]; omega, hq.nt, hq.et, hq.ot, mem_snoc hq.st (by have := steps_le u hu; omega)⟩⟩, _, _, rfl, by assumption⟩
  · refine fin_c (y := .agg [.far ((d.1.map ndP).set 0 (.agg [.int .i64 (d.1.getD 0 default).1, .str (d.1.getD 0 default).2.1, .int .i64 y])), .far (d.2.1.map enP), .far (d.2.2.1.map enP), .far (d.2.2.2.1.map .str), .int .i64 (d.2.2.2.2.1), .int .i64 (d.2.2.2.2.2)]) rfl (by first | rfl | (simp (maxSteps := 1000000) (disch := first | omega | (simp only [LN, numOk, verOk, rfP, rvP, rhP, frP, curB, bkd, elOk_en, elOk_nd, nfx_en, nfx_nd] <;> omega) | exact Ck.mk rfl) only [VC, T, Nat.reduceMul, Nat.reduceAdd, Nat.reduceSub, Nat.reduceLT, Nat.reduceEqDiff, Nat.reduceLeDiff, Nat.reduceBEq, reduceCtorEq, Int.reduceToNat, ↓reduceIte, rfP, rvP, rhP, frP, curB, bkd, elOk_en, elOk_nd, nfx_en, nfx_nd]; done)) rfl rfl ?_
    exact ⟨⟨(d.1.set 0 ((d.1.getD 0 default).1, (d.1.getD 0 default).2.1, y), d.2.1, d.2.2.1, d.2.2.2.1, d.2.2.2.2.1, d.2.2.2.2.2), by unfold dkP; rw [List.map_set]; rfl, setNd_B hq 0 _ (nd_le hq 0)⟩, _, _, rfl, by assumption⟩
  · refine fin_c (y := .agg [.far (d.1.map ndP), .far (d.2.1.map enP), .far (d.2.2.1.map enP), .far (d.2.2.2.1.map .str), .int .i64 (d.2.2.2.2.1), .int .i64 (d.2.2.2.2.2)]) rfl (by first | rfl | (simp (maxSteps := 1000000) (disch := first | omega | (simp only [LN, numOk, verOk, rfP, rvP, rhP, frP, curB, bkd, elOk_en, elOk_nd, nfx_en, nfx_nd] <;> omega) | exact Ck.mk rfl) only [VC, T, Nat.reduceMul, Nat.reduceAdd, Nat.reduceSub, Nat.reduceLT, Nat.reduceEqDiff, Nat.reduceLeDiff, Nat.reduceBEq, reduceCtorEq, Int.reduceToNat, ↓reduceIte, rfP, rvP, rhP, frP, curB, bkd, elOk_en, elOk_nd, nfx_en, nfx_nd]; done)) rfl rfl ?_
    exact ⟨⟨d, rfl, hq⟩, _, _, rfl, by assumption⟩
  · refine fin_c (y := .agg [.far ((d.1.map ndP).set 1 (.agg [.int .i64 (d.1.getD 0 default).1, .str (d.1.getD 1 default).2.1, .int .i64 (d.1.getD 1 default).2.2])), .far (d.2.1.map enP), .far (d.2.2.1.map enP), .far (d.2.2.2.1.map .str), .int .i64 (d.2.2.2.2.1), .int .i64 (d.2.2.2.2.2)]) rfl (by first | rfl | (simp (maxSteps := 1000000) (disch := first | omega | (simp only [LN, numOk, verOk, rfP, rvP, rhP, frP, curB, bkd, elOk_en, elOk_nd, nfx_en, nfx_nd] <;> omega) | exact Ck.mk rfl) only [VC, T, Nat.reduceMul, Nat.reduceAdd, Nat.reduceSub, Nat.reduceLT, Nat.reduceEqDiff, Nat.reduceLeDiff, Nat.reduceBEq, reduceCtorEq, Int.reduceToNat, ↓reduceIte, rfP, rvP, rhP, frP, curB, bkd, elOk_en, elOk_nd, nfx_en, nfx_nd]; done)) rfl rfl ?_
    exact ⟨⟨(d.1.set 1 ((d.1.getD 0 default).1, (d.1.getD 1 default).2.1, (d.1.getD 1 default).2.2), d.2.1, d.2.2.1, d.2.2.2.1, d.2.2.2.2.1, d.2.2.2.2.2), by unfold dkP; rw [List.map_set]; rfl, setNd_B hq 1 _ (nd_le hq 1)⟩, _, _, rfl, by assumption⟩
  · refine fin_c (y := .agg [.far (d.1.map ndP), .far (d.2.1.map enP), .far (d.2.2.1.map enP), .far (d.2.2.2.1.map .str), .int .i64 (d.2.2.2.2.1), .int .i64 (d.2.2.2.2.2)]) rfl (by first | rfl | (simp (maxSteps := 1000000) (disch := first | omega | (simp only [LN, numOk, verOk, rfP, rvP, rhP, frP, curB, bkd, elOk_en, elOk_nd, nfx_en, nfx_nd] <;> omega) | exact Ck.mk rfl) only [VC, T, Nat.reduceMul, Nat.reduceAdd, Nat.reduceSub, Nat.reduceLT, Nat.reduceEqDiff, Nat.reduceLeDiff, Nat.reduceBEq, reduceCtorEq, Int.reduceToNat, ↓reduceIte, rfP, rvP, rhP, frP, curB, bkd, elOk_en, elOk_nd, nfx_en, nfx_nd]; done)) rfl rfl ?_
    exact ⟨⟨d, rfl, hq⟩, _, _, rfl, by assumption⟩
  · refine fin_c (y := .agg [.far (d.1.map ndP), .far (d.2.1.map enP), .far (d.2.2.1.map enP), .far (d.2.2.2.1.map .str), .int .i64 (d.2.2.2.2.1), .int .i64 (d.2.2.2.2.2)]) rfl (by first | rfl | (simp (maxSteps := 1000000) (disch := first | omega | (simp only [LN, numOk, verOk, rfP, rvP, rhP, frP, curB, bkd, elOk_en, elOk_nd, nfx_en, nfx_nd] <;> omega) | exact Ck.mk rfl) only [VC, T, Nat.reduceMul, Nat.reduceAdd, Nat.reduceSub, Nat.reduceLT, Nat.reduceEqDiff, Nat.reduceLeDiff, Nat.reduceBEq, reduceCtorEq, Int.reduceToNat, ↓reduceIte, rfP, rvP, rhP, frP, curB, bkd, elOk_en, elOk_nd, nfx_en, nfx_nd]; done)) rfl rfl ?_
    exact ⟨⟨d, rfl, hq⟩, _, _, rfl, by assumption⟩
end Go.Pv

/- What functions of the program and of the reference do, in plain values. -/
namespace Go.Pv
open Go.Proofs Go.Mth
set_option linter.unusedSimpArgs false
set_option linter.unusedVariables false
set_option maxHeartbeats 4000000
set_option maxRecDepth 4000

/-! ### the files that go on from one another -/
def lkP (d : Dk) (b : Int) : PV := .agg (.int .i64 b :: .str (textT d b) :: flat (scanP (scan (textT d b))))
theorem goOk_iff (t : ByteArray) (b l : Int) (g : Bool) (h : ((rHead t).2.2.2.2 && decide ((rHead t).2.2.1 = b) && decide ((rHead t).2.2.2.1 = l)) = g) : goOk t b l ↔ g = true ∧ 0 < (recs t).length := by
  subst h
  unfold goOk
  simp only [Bool.and_eq_true, decide_eq_true_eq, and_assoc]
theorem impl_links (d : Dk) (h : DkOk d) : Fn Tryz.prog 87 [dkP d] [] (.far ((chainT d).map (lkP d))) [] := by
  have hT := fun b hb => impl_TextAt d b h hb
  have hle := textT_le h
  have hsn := chGo_snoc d
  have hsp := chGo_stop d
  have hlk : ∀ b, lkP d b = .agg (.int .i64 b :: .str (textT d b) :: flat (scanP (scan (textT d b)))) := fun _ => rfl
  obtain ⟨ns, es, os, ss, r, x⟩ := d
  generalize hd : ((ns, es, os, ss, r, x) : Dk) = d at *
  have hdk : dkP d = .agg [.far (ns.map ndP), .far (es.map enP), .far (os.map enP), .far (ss.map .str), .int .i64 r, .int .i64 x] := by rw [← hd]; rfl
  rw [hdk] at hT ⊢
  refine fn_x tok (n := 45) (rs := [.tmp 2]) Tryz.func87 (by decide) rfl rfl rfl rfl ?_
  refine Wr.go ?_
  repeat' ((first | (have ee := True.intro; refine Wr.mk ?_) | ((first | refine br_go ?_ ?_ | refine pick_go ?_ ?_) <;> intro ee f <;> (try simp only [BB] at f) <;> (try simp only [numOk, verOk] at f))) <;> (try simp (maxSteps := 1000000) (disch := first | omega | (simp only [LN, numOk, verOk, rfP, rvP, rhP, frP] <;> omega) | exact Ck.mk rfl) only [ee, VC, T, Nat.reduceMul, Nat.reduceAdd, Nat.reduceSub, Nat.reduceLT, Nat.reduceEqDiff, Nat.reduceLeDiff, Nat.reduceBEq, reduceCtorEq, Int.reduceToNat, ↓reduceIte, rfP, rvP, rhP, frP]) <;> (try clear ee))
  refine lp_go (fun x' : List Int × Int × Int => ⟨45, [(1, .ref 128 0), (3, .row 576 x'.1.length), (4, .int .i64 x'.2.1), (5, .int .i64 x'.2.2)], [(128, .box 32 [.far (ns.map ndP), .far (es.map enP), .far (os.map enP), .far (ss.map .str), .int .i64 r, .int .i64 x]), (576, .row ⟨11, 0⟩ (x'.1.map (lkP d)))]⟩) (fun x => x.1.length ≤ 16 ∧ (0 ≤ x.2.1 ∧ x.2.1 ≤ 1048576 * x.1.length) ∧ chainT d = x.1 ++ chGo d (16 - x.1.length) x.2.1 x.2.2) (fun x => 16 - x.1.length) ([], 0, 0) ?_ ⟨by simp, by simp, rfl⟩ ?_
  · (simp (disch := first | omega | (simp only [LN, numOk, verOk] <;> omega) | exact Ck.mk rfl) only [SB, EQ, Nat.reduceMul, Nat.reduceAdd, Nat.reduceSub, Nat.reduceLT, Nat.reduceEqDiff, Nat.reduceLeDiff, Nat.reduceBEq, reduceCtorEq, Int.reduceToNat, ↓reduceIte]; try omega)
  · rintro ⟨L, b, l⟩ ⟨h1, h2, h3⟩ N hN
    simp only at h1 h2 h3 hN
    have hT := hT b ⟨by omega, by omega⟩
    have hle := hle b
    have hsn := hsn L b l h3
    have hsp := hsp L b l h3
    have hlk := hlk b
    have hnx := fun s1 (q1 : L.length < 16) (q2 : goOk (textT d b) b l) => hN (L ++ [b], b + (recs (textT d b)).length, linkAll l (recs (textT d b))) s1 ⟨by simp only [List.length_append, List.length_singleton]; omega, ⟨by simp only; omega, by have := (recs_le (textT d b)).1; simp only [List.length_append, List.length_singleton]; omega⟩, hsn q1 q2⟩ (by simp only [List.length_append, List.length_singleton]; omega)
    generalize textT d b = t at *
    have hS := impl_Scan t (by omega)
    have hG := impl_GoesOn t b l (by omega)
    obtain ⟨z1, z2⟩ := recs_le t
    generalize hg : ((rHead t).2.2.2.2 && decide ((rHead t).2.2.1 = b) && decide ((rHead t).2.2.2.1 = l)) = g at *
    have hgo := goOk_iff t b l g hg
    have hA := impl_linkAll l (recs t) (by omega) (fun r hr => by have := z2 r hr; omega)
    unfold recs at *
    generalize scan t = sc at *
    obtain ⟨ok, v, s, base, lk, rs, ofs, e, m⟩ := sc
    simp only [scanP, flat] at *
    have hmap : (L ++ [b]).map (lkP d) = L.map (lkP d) ++ [.agg [.int .i64 b, .str t, .bool ok, .int .i64 v, .int .i64 s, .int .i64 base, .int .i64 lk, .far (rs.map .str), .far (ofs.map (.int .i64)), .int .i64 e, .bool m]] := by rw [List.map_append, List.map_singleton, hlk]
    cases g
    · have hn : ¬ goOk t b l := fun q => by have := (hgo.1 q).1; cases this
      refine Wr.go ?_
      repeat' ((first | (have ee := True.intro; refine Wr.mk ?_) | ((first | refine br_go ?_ ?_ | refine pick_go ?_ ?_) <;> intro ee f <;> (try simp only [BB] at f) <;> (try simp only [numOk, verOk] at f)) | (have ee := True.intro; first | refine dr_go mixed (id := 8) [([], [4], []), ([], [7], []), ([1], [36], []), ([1, 2], [37], []), ([0, 1, 2, 3], [35, 38], []), ([], [5], []), ([], [7], []), ([6], [41], []), ([5, 6, 7], [40, 42], []), ([0, 1, 2, 3, 4, 5, 6, 7, 8], [39], []), ([0, 1, 2, 3, 4, 5, 6, 7, 8, 9], [43], [])] rfl rfl rfl ?_ | refine call_x (hT) rfl ⟨rfl⟩ ?_ | refine call_x (hS) rfl ⟨rfl⟩ ?_ | refine call_x (hG) rfl ⟨rfl⟩ ?_ | refine call_x (hA) rfl ⟨rfl⟩ ?_)) <;> (try simp (maxSteps := 1000000) (disch := first | omega | (simp only [LN, numOk, verOk, rfP, rvP, rhP, frP] <;> omega) | exact Ck.mk rfl) only [ee, VC, T, Nat.reduceMul, Nat.reduceAdd, Nat.reduceSub, Nat.reduceLT, Nat.reduceEqDiff, Nat.reduceLeDiff, Nat.reduceBEq, reduceCtorEq, Int.reduceToNat, ↓reduceIte, rfP, rvP, rhP, frP]) <;> (try clear ee))
      · rw [hsp (.inr hn)]
      · rw [hsp (.inr hn)]
    · refine Wr.go ?_
      repeat' ((first | (have ee := True.intro; refine Wr.mk ?_) | ((first | refine br_go ?_ ?_ | refine pick_go ?_ ?_) <;> intro ee f <;> (try simp only [BB] at f) <;> (try simp only [numOk, verOk] at f)) | (have ee := True.intro; first | refine dr_go mixed (id := 8) [([], [4], []), ([], [7], []), ([1], [36], []), ([1, 2], [37], []), ([0, 1, 2, 3], [35, 38], []), ([], [5], []), ([], [7], []), ([6], [41], []), ([5, 6, 7], [40, 42], []), ([0, 1, 2, 3, 4, 5, 6, 7, 8], [39], []), ([0, 1, 2, 3, 4, 5, 6, 7, 8, 9], [43], [])] rfl rfl rfl ?_ | refine call_x (hT) rfl ⟨rfl⟩ ?_ | refine call_x (hS) rfl ⟨rfl⟩ ?_ | refine call_x (hG) rfl ⟨rfl⟩ ?_ | refine call_x (hA) rfl ⟨rfl⟩ ?_)) <;> (try simp (maxSteps := 1000000) (disch := first | omega | (simp only [LN, numOk, verOk, rfP, rvP, rhP, frP] <;> omega) | exact Ck.mk rfl) only [ee, VC, T, Nat.reduceMul, Nat.reduceAdd, Nat.reduceSub, Nat.reduceLT, Nat.reduceEqDiff, Nat.reduceLeDiff, Nat.reduceBEq, reduceCtorEq, Int.reduceToNat, ↓reduceIte, rfP, rvP, rhP, frP]) <;> (try clear ee))
      · rw [hsp (.inr fun q => by have := (hgo.1 q).2; omega)]
      · refine hnx _ (by omega) (hgo.2 ⟨rfl, by omega⟩) ?_
        rw [hmap]
        (simp (disch := first | omega | (simp only [LN, numOk, verOk] <;> omega) | exact Ck.mk rfl) only [SB, EQ, Nat.reduceMul, Nat.reduceAdd, Nat.reduceSub, Nat.reduceLT, Nat.reduceEqDiff, Nat.reduceLeDiff, Nat.reduceBEq, reduceCtorEq, Int.reduceToNat, ↓reduceIte]; try omega)
      · rw [hsp (.inl (by omega))]
theorem impl_Chain_G (d : Dk) (h : DkOk d) : FnE Tryz.prog 48 [dkP d] [] (fun r m => r = .row 64 (chainT d).length ∧ m = [(64, .row ⟨1, 0⟩ ((chainT d).map (fun b => .int .i64 b)))]) := by
  have hL := impl_links d h
  have hlen := chainT_length d
  have hlk : ∀ b, lkP d b = .agg (.int .i64 b :: .str (textT d b) :: flat (scanP (scan (textT d b)))) := fun _ => rfl
  have hv := fun b => scan_ver (textT d b)
  generalize hG : (fun b => .int .i64 b : Int → PV) = G
  have hGb := fun b => congrFun hG b
  try simp only at hGb
  generalize chainT d = L at *
  obtain ⟨ns, es, os, ss, r, x⟩ := d
  generalize hd : ((ns, es, os, ss, r, x) : Dk) = d at *
  have hdk : dkP d = .agg [.far (ns.map ndP), .far (es.map enP), .far (os.map enP), .far (ss.map .str), .int .i64 r, .int .i64 x] := by rw [← hd]; rfl
  rw [hdk] at hL ⊢
  refine fn_e tok (n := 21) (rs := [.tmp 2]) Tryz.func48 (by decide) rfl rfl rfl rfl (low_of rfl) ?_
  refine Wr.go ?_
  repeat' ((first | (have ee := True.intro; refine Wr.mk ?_) | ((first | refine br_go ?_ ?_ | refine pick_go ?_ ?_) <;> intro ee f <;> (try simp only [BB] at f) <;> (try simp only [numOk, verOk] at f)) | (have ee := True.intro; first | refine call_x (hL) rfl ⟨rfl⟩ ?_)) <;> (try simp (maxSteps := 1000000) (disch := first | omega | (simp only [LN, numOk, verOk, rfP, rvP, rhP, frP] <;> omega) | exact Ck.mk rfl) only [ee, VC, T, Nat.reduceMul, Nat.reduceAdd, Nat.reduceSub, Nat.reduceLT, Nat.reduceEqDiff, Nat.reduceLeDiff, Nat.reduceBEq, reduceCtorEq, Int.reduceToNat, ↓reduceIte, rfP, rvP, rhP, frP]) <;> (try clear ee))
  refine lp_go (fun i : Nat => ⟨21, [(3, .row 448 i), (8, .far (L.map (lkP d))), (9, .int .i64 L.length), (10, .int .i64 i)], [(448, .row ⟨1, 0⟩ ((L.take i).map G))]⟩) (fun i => i ≤ L.length) (fun i => L.length - i) 0 ?_ (Nat.zero_le _) ?_
  · (simp (disch := first | omega | (simp only [LN, numOk, verOk] <;> omega) | exact Ck.mk rfl) only [SB, EQ, Nat.reduceMul, Nat.reduceAdd, Nat.reduceSub, Nat.reduceLT, Nat.reduceEqDiff, Nat.reduceLeDiff, Nat.reduceBEq, reduceCtorEq, Int.reduceToNat, ↓reduceIte]; try omega)
    rfl
  · intro i hi N hN
    have hg : i < L.length → (L.map (lkP d)).getD i .junk = lkP d (L.getD i default) := fun h => by
      rw [List.getD_eq_getElem?_getD, List.getElem?_map, List.getElem?_eq_getElem h, List.getD_eq_getElem?_getD, List.getElem?_eq_getElem h]; rfl
    have ht : (L.take i).length = i := by rw [List.length_take]; omega
    have hsn : i < L.length → (L.take (i + 1)).map G = (L.take i).map G ++ [G (L.getD i default)] := fun h => by
      rw [take_snoc default L i h, List.map_append]; rfl
    generalize L.getD i default = b at *
    have hlk := hlk b
    have hGb := hGb b
    have hv := hv b
    generalize textT d b = t at *
    generalize scan t = sc at *
    obtain ⟨ok, v, s, base, lk, rs, ofs, e, m⟩ := sc
    simp only at hv
    try rw [← hv] at hGb
    simp only [scanP, flat] at *
    rw [hlk] at hg
    refine Wr.go ?_
    repeat' ((first | (have ee := True.intro; refine Wr.mk ?_) | ((first | refine br_go ?_ ?_ | refine pick_go ?_ ?_) <;> intro ee f <;> (try simp only [BB] at f) <;> (try simp only [numOk, verOk] at f))) <;> (try simp (maxSteps := 1000000) (disch := first | omega | (simp only [LN, numOk, verOk, rfP, rvP, rhP, frP, hg, ht] <;> omega) | exact Ck.mk rfl) only [ee, VC, T, Nat.reduceMul, Nat.reduceAdd, Nat.reduceSub, Nat.reduceLT, Nat.reduceEqDiff, Nat.reduceLeDiff, Nat.reduceBEq, reduceCtorEq, Int.reduceToNat, ↓reduceIte, rfP, rvP, rhP, frP, hg, ht]) <;> (try clear ee))
    · refine hN (i + 1) _ (by omega) (by omega) ?_
      rw [hsn (by omega), ← hGb]
      (simp (disch := first | omega | (simp only [LN, numOk, verOk] <;> omega) | exact Ck.mk rfl) only [SB, EQ, Nat.reduceMul, Nat.reduceAdd, Nat.reduceSub, Nat.reduceLT, Nat.reduceEqDiff, Nat.reduceLeDiff, Nat.reduceBEq, reduceCtorEq, Int.reduceToNat, ↓reduceIte]; try omega)
    · obtain rfl : i = L.length := by omega
      rw [List.take_length]
      exact fin_t [some 448] (⟨rfl, rfl⟩) rfl (by simp [RV, RV2, RVl, RV1, tau, tget, hget, data1, oneOf]) (by simp [RH, RVl, RV1, tau, hget, data1]) (by simp [Taus, hget])
theorem impl_ChainTexts_G (d : Dk) (h : DkOk d) : FnE Tryz.prog 31 [dkP d] [] (fun r m => r = .row 64 (chainT d).length ∧ m = [(64, .row ⟨1, 0⟩ ((chainT d).map (fun b => .str (textT d b))))]) := by
  have hL := impl_links d h
  have hlen := chainT_length d
  have hlk : ∀ b, lkP d b = .agg (.int .i64 b :: .str (textT d b) :: flat (scanP (scan (textT d b)))) := fun _ => rfl
  have hv := fun b => scan_ver (textT d b)
  generalize hG : (fun b => .str (textT d b) : Int → PV) = G
  have hGb := fun b => congrFun hG b
  try simp only at hGb
  generalize chainT d = L at *
  obtain ⟨ns, es, os, ss, r, x⟩ := d
  generalize hd : ((ns, es, os, ss, r, x) : Dk) = d at *
  have hdk : dkP d = .agg [.far (ns.map ndP), .far (es.map enP), .far (os.map enP), .far (ss.map .str), .int .i64 r, .int .i64 x] := by rw [← hd]; rfl
  rw [hdk] at hL ⊢
  refine fn_e tok (n := 21) (rs := [.tmp 2]) Tryz.func31 (by decide) rfl rfl rfl rfl (low_of rfl) ?_
  refine Wr.go ?_
  repeat' ((first | (have ee := True.intro; refine Wr.mk ?_) | ((first | refine br_go ?_ ?_ | refine pick_go ?_ ?_) <;> intro ee f <;> (try simp only [BB] at f) <;> (try simp only [numOk, verOk] at f)) | (have ee := True.intro; first | refine call_x (hL) rfl ⟨rfl⟩ ?_)) <;> (try simp (maxSteps := 1000000) (disch := first | omega | (simp only [LN, numOk, verOk, rfP, rvP, rhP, frP] <;> omega) | exact Ck.mk rfl) only [ee, VC, T, Nat.reduceMul, Nat.reduceAdd, Nat.reduceSub, Nat.reduceLT, Nat.reduceEqDiff, Nat.reduceLeDiff, Nat.reduceBEq, reduceCtorEq, Int.reduceToNat, ↓reduceIte, rfP, rvP, rhP, frP]) <;> (try clear ee))
  refine lp_go (fun i : Nat => ⟨21, [(3, .row 448 i), (8, .far (L.map (lkP d))), (9, .int .i64 L.length), (10, .int .i64 i)], [(448, .row ⟨1, 0⟩ ((L.take i).map G))]⟩) (fun i => i ≤ L.length) (fun i => L.length - i) 0 ?_ (Nat.zero_le _) ?_
  · (simp (disch := first | omega | (simp only [LN, numOk, verOk] <;> omega) | exact Ck.mk rfl) only [SB, EQ, Nat.reduceMul, Nat.reduceAdd, Nat.reduceSub, Nat.reduceLT, Nat.reduceEqDiff, Nat.reduceLeDiff, Nat.reduceBEq, reduceCtorEq, Int.reduceToNat, ↓reduceIte]; try omega)
    rfl
  · intro i hi N hN
    have hg : i < L.length → (L.map (lkP d)).getD i .junk = lkP d (L.getD i default) := fun h => by
      rw [List.getD_eq_getElem?_getD, List.getElem?_map, List.getElem?_eq_getElem h, List.getD_eq_getElem?_getD, List.getElem?_eq_getElem h]; rfl
    have ht : (L.take i).length = i := by rw [List.length_take]; omega
    have hsn : i < L.length → (L.take (i + 1)).map G = (L.take i).map G ++ [G (L.getD i default)] := fun h => by
      rw [take_snoc default L i h, List.map_append]; rfl
    generalize L.getD i default = b at *
    have hlk := hlk b
    have hGb := hGb b
    have hv := hv b
    generalize textT d b = t at *
    generalize scan t = sc at *
    obtain ⟨ok, v, s, base, lk, rs, ofs, e, m⟩ := sc
    simp only at hv
    try rw [← hv] at hGb
    simp only [scanP, flat] at *
    rw [hlk] at hg
    refine Wr.go ?_
    repeat' ((first | (have ee := True.intro; refine Wr.mk ?_) | ((first | refine br_go ?_ ?_ | refine pick_go ?_ ?_) <;> intro ee f <;> (try simp only [BB] at f) <;> (try simp only [numOk, verOk] at f))) <;> (try simp (maxSteps := 1000000) (disch := first | omega | (simp only [LN, numOk, verOk, rfP, rvP, rhP, frP, hg, ht] <;> omega) | exact Ck.mk rfl) only [ee, VC, T, Nat.reduceMul, Nat.reduceAdd, Nat.reduceSub, Nat.reduceLT, Nat.reduceEqDiff, Nat.reduceLeDiff, Nat.reduceBEq, reduceCtorEq, Int.reduceToNat, ↓reduceIte, rfP, rvP, rhP, frP, hg, ht]) <;> (try clear ee))
    · refine hN (i + 1) _ (by omega) (by omega) ?_
      rw [hsn (by omega), ← hGb]
      (simp (disch := first | omega | (simp only [LN, numOk, verOk] <;> omega) | exact Ck.mk rfl) only [SB, EQ, Nat.reduceMul, Nat.reduceAdd, Nat.reduceSub, Nat.reduceLT, Nat.reduceEqDiff, Nat.reduceLeDiff, Nat.reduceBEq, reduceCtorEq, Int.reduceToNat, ↓reduceIte]; try omega)
    · obtain rfl : i = L.length := by omega
      rw [List.take_length]
      exact fin_t [some 448] (⟨rfl, rfl⟩) rfl (by simp [RV, RV2, RVl, RV1, tau, tget, hget, data1, oneOf]) (by simp [RH, RVl, RV1, tau, hget, data1]) (by simp [Taus, hget])
end Go.Pv

/- What functions of the program and of the reference do, in plain values. -/
namespace Go.Pv
open Go.Proofs Go.Mth
set_option linter.unusedSimpArgs false
set_option linter.unusedVariables false
set_option maxHeartbeats 4000000
set_option maxRecDepth 4000

/-! ### rows of records, texts, versions -/
theorem impl_Chain_R (d : Dk) (h : DkOk d) : FnE Tryz.prog 48 [dkP d] [] (fun r m => r = .row 64 (chainT d).length ∧ m = [(64, .row ⟨1, 0⟩ ((chainT d).map (.int .i64)))]) := impl_Chain_G d h
theorem textsT_len (d : Dk) : (textsT d).length = (chainT d).length := List.length_map _
theorem textsT_map (d : Dk) : (chainT d).map (fun b => PV.str (textT d b)) = (textsT d).map .str := (List.map_map).symm
theorem impl_ChainTexts_R (d : Dk) (h : DkOk d) : FnE Tryz.prog 31 [dkP d] [] (fun r m => r = .row 64 (textsT d).length ∧ m = [(64, .row ⟨1, 0⟩ ((textsT d).map .str))]) := by
  rw [textsT_len, ← textsT_map]
  exact impl_ChainTexts_G d h
theorem impl_ChainTexts (d : Dk) (h : DkOk d) : Fn Tryz.prog 31 [dkP d] [] (.far ((textsT d).map .str)) [] := by
  obtain ⟨_, _, ⟨rfl, rfl⟩, k⟩ := impl_ChainTexts_R d h
  refine k.far ?_
  simp [fz, fz2, fz1, cvtl, elems, hget, data1]
def flR (d : Dk) (L : List Int) : List ByteArray := L.flatMap fun b => recs (textT d b)
theorem flR_snoc (d : Dk) (L : List Int) (i : Nat) (h : i < L.length) : flR d (L.take (i + 1)) = flR d (L.take i) ++ recs (textT d (L.getD i default)) := by
  unfold flR
  rw [take_snoc default L i h, List.flatMap_append, List.flatMap_cons, List.flatMap_nil, List.append_nil]
  rfl
end Go.Pv

/- What functions of the program and of the reference do, in plain values. -/
namespace Go.Pv
open Go.Proofs Go.Mth
set_option linter.unusedSimpArgs false
set_option linter.unusedVariables false
set_option maxHeartbeats 4000000
set_option maxRecDepth 4000

/-! ### the reference's rows -/
theorem spec_LinkAfter (b : ByteArray) (hb : b.size ≤ 1073741824) : Fn Tryz.prog 91 [.str b] [] (.int .i64 (linkAll (scan b).2.2.2.2.1 (scan b).2.2.2.2.2.1)) [] := by
  have hS := spec_Scan b hb
  have hF := scan_f b
  generalize scan b = t at *
  obtain ⟨ok, v, s, base, l, rs, os, e, m⟩ := t
  obtain ⟨f1, f2, f3, f4, f5, f6, f7, f8, f9⟩ := hF
  simp only [scanP] at f1 f2 f3 f4 f5 f6 f7 f8 f9 hS ⊢
  refine fn_x tok (n := 26) (rs := [.tmp 2]) Tryz.func91 (by decide) rfl rfl rfl rfl ?_
  refine Wr.go ?_
  repeat' ((first | (have ee := True.intro; refine Wr.mk ?_) | ((first | refine br_go ?_ ?_ | refine pick_go ?_ ?_) <;> intro ee f <;> (try simp only [BB] at f) <;> (try simp only [numOk, verOk] at f)) | (have ee := True.intro; first | refine call_x (hS) rfl ⟨rfl⟩ ?_)) <;> (try simp (maxSteps := 1000000) (disch := first | omega | (simp only [LN, numOk, verOk, rfP, rvP, rhP, frP] <;> omega) | exact Ck.mk rfl) only [ee, VC, T, Nat.reduceMul, Nat.reduceAdd, Nat.reduceSub, Nat.reduceLT, Nat.reduceEqDiff, Nat.reduceLeDiff, Nat.reduceBEq, reduceCtorEq, Int.reduceToNat, ↓reduceIte, rfP, rvP, rhP, frP]) <;> (try clear ee))
  refine lp_go (fun i : Nat => ⟨26, [(3, .ref 256 0), (4, .int .i64 (linkAll l (rs.take i))), (5, .int .i64 i)], [(256, .box 95 [.bool ok, .int .i64 v, .int .i64 s, .int .i64 base, .int .i64 l, .far (rs.map .str), .far (os.map (.int .i64)), .int .i64 e, .bool m])]⟩) (fun i => i ≤ rs.length) (fun i => rs.length - i) 0 ?_ (by omega) ?_
  · (simp (disch := first | omega | (simp only [LN, numOk, verOk] <;> omega) | exact Ck.mk rfl) only [SB, EQ, Nat.reduceMul, Nat.reduceAdd, Nat.reduceSub, Nat.reduceLT, Nat.reduceEqDiff, Nat.reduceLeDiff, Nat.reduceBEq, reduceCtorEq, Int.reduceToNat, ↓reduceIte]; try omega)
    rfl
  · intro i hi N hN
    refine Wr.go ?_
    repeat' ((first | (have ee := True.intro; refine Wr.mk ?_) | ((first | refine br_go ?_ ?_ | refine pick_go ?_ ?_) <;> intro ee f <;> (try simp only [BB] at f) <;> (try simp only [numOk, verOk] at f)) | (have ee := True.intro; first | refine call_x (spec_LinkMore _ _ (by have := f6 _ (getD_mem rs i (by omega)); omega)) rfl ⟨rfl⟩ ?_)) <;> (try simp (maxSteps := 1000000) (disch := first | omega | (simp only [LN, numOk, verOk, rfP, rvP, rhP, frP, linkAll_snoc] <;> omega) | exact Ck.mk rfl) only [ee, VC, T, Nat.reduceMul, Nat.reduceAdd, Nat.reduceSub, Nat.reduceLT, Nat.reduceEqDiff, Nat.reduceLeDiff, Nat.reduceBEq, reduceCtorEq, Int.reduceToNat, ↓reduceIte, rfP, rvP, rhP, frP, linkAll_snoc]) <;> (try clear ee))
    · refine hN (i + 1) _ (by omega) (by omega) ?_
      (simp (disch := first | omega | (simp only [LN, numOk, verOk] <;> omega) | exact Ck.mk rfl) only [SB, EQ, Nat.reduceMul, Nat.reduceAdd, Nat.reduceSub, Nat.reduceLT, Nat.reduceEqDiff, Nat.reduceLeDiff, Nat.reduceBEq, reduceCtorEq, Int.reduceToNat, ↓reduceIte]; try omega)
    · obtain rfl : i = rs.length := by omega
      rw [List.take_length]
theorem spec_Chain (d : Dk) (h : DkOk d) : Fn Tryz.prog 34 [dkP d] [] (.far ((chainT d).map (.int .i64))) [] := by
  have hT := fun b hb => spec_TextAt d b h hb
  have hle := textT_le h
  have hsn := chGo_snoc d
  have hsp := chGo_stop d
  obtain ⟨ns, es, os, ss, r, x⟩ := d
  generalize hd : ((ns, es, os, ss, r, x) : Dk) = d at *
  have hdk : dkP d = .agg [.far (ns.map ndP), .far (es.map enP), .far (os.map enP), .far (ss.map .str), .int .i64 r, .int .i64 x] := by rw [← hd]; rfl
  rw [hdk] at hT ⊢
  refine fn_x tok (n := 38) (rs := [.tmp 2]) Tryz.func34 (by decide) rfl rfl rfl rfl ?_
  refine Wr.go ?_
  repeat' ((first | (have ee := True.intro; refine Wr.mk ?_) | ((first | refine br_go ?_ ?_ | refine pick_go ?_ ?_) <;> intro ee f <;> (try simp only [BB] at f) <;> (try simp only [numOk, verOk] at f))) <;> (try simp (maxSteps := 1000000) (disch := first | omega | (simp only [LN, numOk, verOk, rfP, rvP, rhP, frP] <;> omega) | exact Ck.mk rfl) only [ee, VC, T, Nat.reduceMul, Nat.reduceAdd, Nat.reduceSub, Nat.reduceLT, Nat.reduceEqDiff, Nat.reduceLeDiff, Nat.reduceBEq, reduceCtorEq, Int.reduceToNat, ↓reduceIte, rfP, rvP, rhP, frP]) <;> (try clear ee))
  refine lp_go (fun x' : List Int × Int × Int => ⟨38, [(1, .ref 128 0), (3, .row 576 x'.1.length), (4, .int .i64 x'.2.1), (5, .int .i64 x'.2.2)], [(128, .box 32 [.far (ns.map ndP), .far (es.map enP), .far (os.map enP), .far (ss.map .str), .int .i64 r, .int .i64 x]), (576, .row ⟨1, 0⟩ (x'.1.map (.int .i64)))]⟩) (fun x => x.1.length ≤ 16 ∧ (0 ≤ x.2.1 ∧ x.2.1 ≤ 1048576 * x.1.length) ∧ chainT d = x.1 ++ chGo d (16 - x.1.length) x.2.1 x.2.2) (fun x => 16 - x.1.length) ([], 0, 0) ?_ ⟨by simp, by simp, rfl⟩ ?_
  · (simp (disch := first | omega | (simp only [LN, numOk, verOk] <;> omega) | exact Ck.mk rfl) only [SB, EQ, Nat.reduceMul, Nat.reduceAdd, Nat.reduceSub, Nat.reduceLT, Nat.reduceEqDiff, Nat.reduceLeDiff, Nat.reduceBEq, reduceCtorEq, Int.reduceToNat, ↓reduceIte]; try omega)
  · rintro ⟨L, b, l⟩ ⟨h1, h2, h3⟩ N hN
    simp only at h1 h2 h3 hN
    have hT := hT b ⟨by omega, by omega⟩
    have hle := hle b
    have hsn := hsn L b l h3
    have hsp := hsp L b l h3
    have hnx := fun s1 (q1 : L.length < 16) (q2 : goOk (textT d b) b l) => hN (L ++ [b], b + (recs (textT d b)).length, linkAll l (recs (textT d b))) s1 ⟨by simp only [List.length_append, List.length_singleton]; omega, ⟨by simp only; omega, by have := (recs_le (textT d b)).1; simp only [List.length_append, List.length_singleton]; omega⟩, hsn q1 q2⟩ (by simp only [List.length_append, List.length_singleton]; omega)
    generalize textT d b = t at *
    have hS := spec_RecordsIn t (by omega)
    have hG := spec_GoesOn t b l (by omega)
    have hA := spec_LinkAfter t (by omega)
    have hlk := scan_link t
    obtain ⟨z1, z2⟩ := recs_le t
    generalize hg : ((rHead t).2.2.2.2 && decide ((rHead t).2.2.1 = b) && decide ((rHead t).2.2.2.1 = l)) = g at *
    have hgo := goOk_iff t b l g hg
    have hll : goOk t b l → (scan t).2.2.2.2.1 = l := fun q => by rw [hlk]; exact q.1.2.2
    unfold recs at *
    generalize scan t = sc at *
    obtain ⟨ok, v, s, base, lk, rs, ofs, e, m⟩ := sc
    simp only at *
    cases g
    · have hn : ¬ goOk t b l := fun q => by have := (hgo.1 q).1; cases this
      refine Wr.go ?_
      repeat' ((first | (have ee := True.intro; refine Wr.mk ?_) | ((first | refine br_go ?_ ?_ | refine pick_go ?_ ?_) <;> intro ee f <;> (try simp only [BB] at f) <;> (try simp only [numOk, verOk] at f)) | (have ee := True.intro; first | refine call_x (hT) rfl ⟨rfl⟩ ?_ | refine call_x (hS) rfl ⟨rfl⟩ ?_ | refine call_x (hG) rfl ⟨rfl⟩ ?_ | refine call_x (hA) rfl ⟨rfl⟩ ?_)) <;> (try simp (maxSteps := 1000000) (disch := first | omega | (simp only [LN, numOk, verOk, rfP, rvP, rhP, frP] <;> omega) | exact Ck.mk rfl) only [ee, VC, T, Nat.reduceMul, Nat.reduceAdd, Nat.reduceSub, Nat.reduceLT, Nat.reduceEqDiff, Nat.reduceLeDiff, Nat.reduceBEq, reduceCtorEq, Int.reduceToNat, ↓reduceIte, rfP, rvP, rhP, frP]) <;> (try clear ee))
      · rw [hsp (.inr hn)]
      · rw [hsp (.inr hn)]
      · rw [hsp (.inl (by omega))]
    · refine Wr.go ?_
      repeat' ((first | (have ee := True.intro; refine Wr.mk ?_) | ((first | refine br_go ?_ ?_ | refine pick_go ?_ ?_) <;> intro ee f <;> (try simp only [BB] at f) <;> (try simp only [numOk, verOk] at f)) | (have ee := True.intro; first | refine call_x (hT) rfl ⟨rfl⟩ ?_ | refine call_x (hS) rfl ⟨rfl⟩ ?_ | refine call_x (hG) rfl ⟨rfl⟩ ?_ | refine call_x (hA) rfl ⟨rfl⟩ ?_)) <;> (try simp (maxSteps := 1000000) (disch := first | omega | (simp only [LN, numOk, verOk, rfP, rvP, rhP, frP] <;> omega) | exact Ck.mk rfl) only [ee, VC, T, Nat.reduceMul, Nat.reduceAdd, Nat.reduceSub, Nat.reduceLT, Nat.reduceEqDiff, Nat.reduceLeDiff, Nat.reduceBEq, reduceCtorEq, Int.reduceToNat, ↓reduceIte, rfP, rvP, rhP, frP]) <;> (try clear ee))
      · rw [hsp (.inr fun q => by have := (hgo.1 q).2; omega)]
      · have q := hgo.2 ⟨rfl, by omega⟩
        refine hnx _ (by omega) q ?_
        rw [← hll q]
        (simp (disch := first | omega | (simp only [LN, numOk, verOk] <;> omega) | exact Ck.mk rfl) only [SB, EQ, Nat.reduceMul, Nat.reduceAdd, Nat.reduceSub, Nat.reduceLT, Nat.reduceEqDiff, Nat.reduceLeDiff, Nat.reduceBEq, reduceCtorEq, Int.reduceToNat, ↓reduceIte]; try omega)
      · rw [hsp (.inl (by omega))]
theorem spec_RowOf (d : Dk) (h : DkOk d) : Fn Tryz.prog 42 [dkP d] [] (.far ((rowT d).map .str)) [] := by
  have hL := spec_Chain d h
  have hT := fun b hb => spec_TextAt d b h hb
  have hlen := chainT_length d
  have hR : rowT d = flR d (chainT d) := rfl
  have hfl := fun L => flat_le d h L
  have hle := textT_le h
  rw [hR]
  have hbs := chainT_range h
  generalize chainT d = L at *
  obtain ⟨ns, es, os, ss, r, x⟩ := d
  generalize hd : ((ns, es, os, ss, r, x) : Dk) = d at *
  have hdk : dkP d = .agg [.far (ns.map ndP), .far (es.map enP), .far (os.map enP), .far (ss.map .str), .int .i64 r, .int .i64 x] := by rw [← hd]; rfl
  rw [hdk] at hL hT ⊢
  refine fn_x tok (n := 25) (rs := [.tmp 2]) Tryz.func42 (by decide) rfl rfl rfl rfl ?_
  refine Wr.go ?_
  repeat' ((first | (have ee := True.intro; refine Wr.mk ?_) | ((first | refine br_go ?_ ?_ | refine pick_go ?_ ?_) <;> intro ee f <;> (try simp only [BB] at f) <;> (try simp only [numOk, verOk] at f)) | (have ee := True.intro; first | refine call_x (hL) rfl ⟨rfl⟩ ?_)) <;> (try simp (maxSteps := 1000000) (disch := first | omega | (simp only [LN, numOk, verOk, rfP, rvP, rhP, frP] <;> omega) | exact Ck.mk rfl) only [ee, VC, T, Nat.reduceMul, Nat.reduceAdd, Nat.reduceSub, Nat.reduceLT, Nat.reduceEqDiff, Nat.reduceLeDiff, Nat.reduceBEq, reduceCtorEq, Int.reduceToNat, ↓reduceIte, rfP, rvP, rhP, frP]) <;> (try clear ee))
  refine lp_go (fun i : Nat => ⟨25, [(1, .ref 128 0), (3, .row 448 (flR d (L.take i)).length), (4, .far (L.map (.int .i64))), (5, .int .i64 i)], [(128, .box 32 [.far (ns.map ndP), .far (es.map enP), .far (os.map enP), .far (ss.map .str), .int .i64 r, .int .i64 x]), (448, .row ⟨1, 0⟩ ((flR d (L.take i)).map .str))]⟩) (fun i => i ≤ L.length) (fun i => L.length - i) 0 ?_ (Nat.zero_le _) ?_
  · (simp (disch := first | omega | (simp only [LN, numOk, verOk] <;> omega) | exact Ck.mk rfl) only [SB, EQ, Nat.reduceMul, Nat.reduceAdd, Nat.reduceSub, Nat.reduceLT, Nat.reduceEqDiff, Nat.reduceLeDiff, Nat.reduceBEq, reduceCtorEq, Int.reduceToNat, ↓reduceIte]; try omega)
    exact ⟨rfl, rfl⟩
  · intro i hi N hN
    have ht : (flR d (L.take i)).length ≤ 1048576 * 16 := by
      have := (hfl (L.take i)).1
      rw [List.length_take] at this
      unfold flR
      omega
    have hsn := flR_snoc d L i
    have hb : i < L.length → 0 ≤ L.getD i default ∧ L.getD i default ≤ 16777216 := fun h => hbs _ (getD_mem _ _ h)
    generalize hM : flR d (L.take i) = M at *
    generalize hbb : L.getD i default = b at *
    have hT := fun hb => hT b hb
    have hle := hle b
    have hre := (recs_le (textT d b)).1
    generalize textT d b = t at *
    have hS := spec_RecordsIn t (by omega)
    unfold recs at *
    generalize (scan t).2.2.2.2.2.1 = rs at *
    refine Wr.go ?_
    repeat' ((first | (have ee := True.intro; refine Wr.mk ?_) | ((first | refine br_go ?_ ?_ | refine pick_go ?_ ?_) <;> intro ee f <;> (try simp only [BB] at f) <;> (try simp only [numOk, verOk] at f)) | (have ee := True.intro; first | refine dr_go mixed (id := 6) [([], [3], []), ([], [1], []), ([], [4], []), ([], [5], []), ([2, 3], [17, 18], []), ([2, 3, 4], [19], []), ([1, 2, 3, 4, 5], [16, 20], []), ([1, 2, 3, 4, 5, 6], [21], []), ([0, 1, 2, 3, 4, 5, 6, 7], [15, 22], []), ([0, 1, 2, 3, 4, 5, 6, 7, 8], [23], [])] rfl rfl rfl ?_ | refine call_x (hT ⟨by omega, by omega⟩) rfl ⟨rfl⟩ ?_ | refine call_x (hS) rfl ⟨rfl⟩ ?_)) <;> (try simp (maxSteps := 1000000) (disch := first | omega | (simp only [LN, numOk, verOk, rfP, rvP, rhP, frP, hbb] <;> omega) | exact Ck.mk rfl) only [ee, VC, T, Nat.reduceMul, Nat.reduceAdd, Nat.reduceSub, Nat.reduceLT, Nat.reduceEqDiff, Nat.reduceLeDiff, Nat.reduceBEq, reduceCtorEq, Int.reduceToNat, ↓reduceIte, rfP, rvP, rhP, frP, hbb]) <;> (try clear ee))
    · refine hN (i + 1) _ (by omega) (by omega) ?_
      rw [hsn (by omega)]
      (simp (disch := first | omega | (simp only [LN, numOk, verOk] <;> omega) | exact Ck.mk rfl) only [SB, EQ, Nat.reduceMul, Nat.reduceAdd, Nat.reduceSub, Nat.reduceLT, Nat.reduceEqDiff, Nat.reduceLeDiff, Nat.reduceBEq, reduceCtorEq, Int.reduceToNat, ↓reduceIte]; try omega)
      exact List.map_append.symm
    · obtain rfl : i = L.length := by omega
      rw [List.take_length] at hM
      rw [hM]
theorem spec_ChainTexts (d : Dk) (h : DkOk d) : Fn Tryz.prog 41 [dkP d] [] (.far ((textsT d).map .str)) [] := by
  rw [← textsT_map]
  have hL := spec_Chain d h
  have hT := fun b hb => spec_TextAt d b h hb
  have hlen := chainT_length d
  have hle := textT_le h
  have hbs := chainT_range h
  generalize hG : (fun b => .str (textT d b) : Int → PV) = G
  have hGb := fun b => congrFun hG b
  try simp only at hGb
  generalize chainT d = L at *
  obtain ⟨ns, es, os, ss, r, x⟩ := d
  generalize hd : ((ns, es, os, ss, r, x) : Dk) = d at *
  have hdk : dkP d = .agg [.far (ns.map ndP), .far (es.map enP), .far (os.map enP), .far (ss.map .str), .int .i64 r, .int .i64 x] := by rw [← hd]; rfl
  rw [hdk] at hL hT ⊢
  refine fn_x tok (n := 25) (rs := [.tmp 2]) Tryz.func41 (by decide) rfl rfl rfl rfl ?_
  refine Wr.go ?_
  repeat' ((first | (have ee := True.intro; refine Wr.mk ?_) | ((first | refine br_go ?_ ?_ | refine pick_go ?_ ?_) <;> intro ee f <;> (try simp only [BB] at f) <;> (try simp only [numOk, verOk] at f)) | (have ee := True.intro; first | refine call_x (hL) rfl ⟨rfl⟩ ?_)) <;> (try simp (maxSteps := 1000000) (disch := first | omega | (simp only [LN, numOk, verOk, rfP, rvP, rhP, frP] <;> omega) | exact Ck.mk rfl) only [ee, VC, T, Nat.reduceMul, Nat.reduceAdd, Nat.reduceSub, Nat.reduceLT, Nat.reduceEqDiff, Nat.reduceLeDiff, Nat.reduceBEq, reduceCtorEq, Int.reduceToNat, ↓reduceIte, rfP, rvP, rhP, frP]) <;> (try clear ee))
  refine lp_go (fun i : Nat => ⟨25, [(1, .ref 128 0), (3, .row 448 i), (4, .far (L.map (.int .i64))), (5, .int .i64 i)], [(128, .box 32 [.far (ns.map ndP), .far (es.map enP), .far (os.map enP), .far (ss.map .str), .int .i64 r, .int .i64 x]), (448, .row ⟨1, 0⟩ ((L.take i).map G))]⟩) (fun i => i ≤ L.length) (fun i => L.length - i) 0 ?_ (Nat.zero_le _) ?_
  · (simp (disch := first | omega | (simp only [LN, numOk, verOk] <;> omega) | exact Ck.mk rfl) only [SB, EQ, Nat.reduceMul, Nat.reduceAdd, Nat.reduceSub, Nat.reduceLT, Nat.reduceEqDiff, Nat.reduceLeDiff, Nat.reduceBEq, reduceCtorEq, Int.reduceToNat, ↓reduceIte]; try omega)
    rfl
  · intro i hi N hN
    have ht : (L.take i).length = i := by rw [List.length_take]; omega
    have hsn : i < L.length → (L.take (i + 1)).map G = (L.take i).map G ++ [G (L.getD i default)] := fun h => by
      rw [take_snoc default L i h, List.map_append]; rfl
    have hb : i < L.length → 0 ≤ L.getD i default ∧ L.getD i default ≤ 16777216 := fun h => hbs _ (getD_mem _ _ h)
    generalize hbb : L.getD i default = b at *
    have hT := fun hb => hT b hb
    have hle := hle b
    have hGb := hGb b
    generalize textT d b = t at *
    refine Wr.go ?_
    repeat' ((first | (have ee := True.intro; refine Wr.mk ?_) | ((first | refine br_go ?_ ?_ | refine pick_go ?_ ?_) <;> intro ee f <;> (try simp only [BB] at f) <;> (try simp only [numOk, verOk] at f)) | (have ee := True.intro; first | refine dr_go mixed (id := 6) [([], [3], []), ([], [1], []), ([], [4], []), ([], [5], []), ([2, 3], [17, 18], []), ([2, 3, 4], [19], []), ([1, 2, 3, 4, 5], [16, 20], []), ([1, 2, 3, 4, 5, 6], [21], []), ([0, 1, 2, 3, 4, 5, 6, 7], [15, 22], []), ([0, 1, 2, 3, 4, 5, 6, 7, 8], [23], [])] rfl rfl rfl ?_ | refine call_x (hT ⟨by omega, by omega⟩) rfl ⟨rfl⟩ ?_)) <;> (try simp (maxSteps := 1000000) (disch := first | omega | (simp only [LN, numOk, verOk, rfP, rvP, rhP, frP, hbb, ht] <;> omega) | exact Ck.mk rfl) only [ee, VC, T, Nat.reduceMul, Nat.reduceAdd, Nat.reduceSub, Nat.reduceLT, Nat.reduceEqDiff, Nat.reduceLeDiff, Nat.reduceBEq, reduceCtorEq, Int.reduceToNat, ↓reduceIte, rfP, rvP, rhP, frP, hbb, ht]) <;> (try clear ee))
    · refine hN (i + 1) _ (by omega) (by omega) ?_
      rw [hsn (by omega), ← hGb]
      (simp (disch := first | omega | (simp only [LN, numOk, verOk] <;> omega) | exact Ck.mk rfl) only [SB, EQ, Nat.reduceMul, Nat.reduceAdd, Nat.reduceSub, Nat.reduceLT, Nat.reduceEqDiff, Nat.reduceLeDiff, Nat.reduceBEq, reduceCtorEq, Int.reduceToNat, ↓reduceIte]; try omega)
    · obtain rfl : i = L.length := by omega
      rw [List.take_length]
end Go.Pv

/- What functions of the program and of the reference do, in plain values. -/
namespace Go.Pv
open Go.Proofs Go.Mth
set_option linter.unusedSimpArgs false
set_option linter.unusedVariables false
set_option maxHeartbeats 4000000
set_option maxRecDepth 4000

theorem spec_TempName (n : Int) (hn : i64 n) : Fn Tryz.prog 127 [.int .i64 n] [] (.str (tmpT n)) [] := by
  have hS := spec_SegmentName n hn
  by_cases h : numOk n
  · have e : tmpT n = segT n ++ ⟨#[46, 116, 109, 112]⟩ := by unfold tmpT segT; rw [if_pos h, if_pos h, strOf_app]; rfl
    have hz := segT_size n h
    have hne : ¬ segT n = ⟨#[]⟩ := fun e => by rw [e] at hz; cases hz
    rw [e]
    generalize segT n = q at *
    refine fn_x tok (n := 10) (rs := [.tmp 2]) Tryz.func127 (by decide) rfl rfl rfl rfl ?_
    refine Wr.go ?_
    repeat' ((first | (have ee := True.intro; refine Wr.mk ?_) | ((first | refine br_go ?_ ?_ | refine pick_go ?_ ?_) <;> intro ee f <;> (try simp only [BB] at f) <;> (try simp only [numOk, verOk] at f)) | (have ee := True.intro; first | refine call_x (hS) rfl ⟨rfl⟩ ?_)) <;> (try simp (maxSteps := 1000000) (disch := first | omega | (simp only [LN, numOk, verOk, rfP, rvP, rhP, frP, bkd, hne] <;> omega) | exact Ck.mk rfl) only [ee, VC, T, Nat.reduceMul, Nat.reduceAdd, Nat.reduceSub, Nat.reduceLT, Nat.reduceEqDiff, Nat.reduceLeDiff, Nat.reduceBEq, reduceCtorEq, Int.reduceToNat, ↓reduceIte, rfP, rvP, rhP, frP, bkd, hne]) <;> (try clear ee))
  · have e : tmpT n = ⟨#[]⟩ := if_neg h
    have e2 : segT n = ⟨#[]⟩ := if_neg h
    rw [e]
    rw [e2] at hS
    refine fn_x tok (n := 10) (rs := [.tmp 2]) Tryz.func127 (by decide) rfl rfl rfl rfl ?_
    refine Wr.go ?_
    repeat' ((first | (have ee := True.intro; refine Wr.mk ?_) | ((first | refine br_go ?_ ?_ | refine pick_go ?_ ?_) <;> intro ee f <;> (try simp only [BB] at f) <;> (try simp only [numOk, verOk] at f)) | (have ee := True.intro; first | refine call_x (hS) rfl ⟨rfl⟩ ?_)) <;> (try simp (maxSteps := 1000000) (disch := first | omega | (simp only [LN, numOk, verOk, rfP, rvP, rhP, frP, bkd] <;> omega) | exact Ck.mk rfl) only [ee, VC, T, Nat.reduceMul, Nat.reduceAdd, Nat.reduceSub, Nat.reduceLT, Nat.reduceEqDiff, Nat.reduceLeDiff, Nat.reduceBEq, reduceCtorEq, Int.reduceToNat, ↓reduceIte, rfP, rvP, rhP, frP, bkd]) <;> (try clear ee))
end Go.Pv

/- What functions of the program and of the reference do, in plain values. -/
namespace Go.Pv
open Go.Proofs Go.Mth
set_option linter.unusedSimpArgs false
set_option linter.unusedVariables false
set_option maxHeartbeats 4000000
set_option maxRecDepth 4000

/-! ### draws of disks with a row of files -/
theorem seal_v (v s b l : Int) (rs : List ByteArray) (hl : rs.length ≤ 1000) (hz : ∀ r ∈ rs, r.size ≤ 60) : FnV Tryz.prog 39 [.agg [.int .i64 v, .int .i64 s, .int .i64 b, .int .i64 l], .far (rs.map .str)] (isStr' (SzIn 100000)) :=
  (spec_SealText v s b l rs (by omega) (fun r hr => by have := hz r hr; omega)).v.mono fun _ e => ⟨_, e, by have := sealT_le v s b l rs; unfold SzIn; omega⟩
theorem frames_v (v s b l : Int) (rs : List ByteArray) (hb : 0 ≤ b ∧ b ≤ 1000) (hl : rs.length ≤ 1000) (hz : ∀ r ∈ rs, r.size ≤ 60) : FnV Tryz.prog 185 [.agg [.int .i64 v, .int .i64 s, .int .i64 b, .int .i64 l], .far (rs.map .str)] (isStr' (SzIn 100000)) :=
  (l10Frames v s b l rs hb ⟨by omega, hz⟩).mono fun _ ⟨x, e, h⟩ => ⟨x, e, by unfold SzIn at *; omega⟩
theorem cons_60 {r : ByteArray} {rs : List ByteArray} (h : Rec r) (hr : ∀ x ∈ rs, x.size ≤ 60) : ∀ x ∈ r :: rs, x.size ≤ 60 := fun x hx => by
  rcases List.mem_cons.1 hx with rfl | hx
  · exact h
  · exact hr x hx
theorem none_60 : ∀ x ∈ ([] : List ByteArray), x.size ≤ 60 := fun x h => absurd h (by simp)
set_option maxRecDepth 20000 in
theorem l14Disk (code : List Int) (hb : Bytes code) (i h : Int) (hc : CurOk code i h) : FnE Tryz.prog 139 [.ref 0 0] [(0, curB code i h)] (CQ code (isDk 12 700000)) := by
  have hD := fun n => spec_DiskNew n
  unfold dkP at hD
  refine fn_e tok (n := 107) (rs := [.cell 2 32]) Tryz.func139 (by decide) rfl rfl rfl rfl (low_of rfl) ?_
  refine Wr.go ?_
  repeat' ((first | (have ee := True.intro; refine Wr.mk ?_) | ((first | refine br_go ?_ ?_ | refine pick_go ?_ ?_) <;> intro ee f <;> (try simp only [BB] at f) <;> (try simp only [numOk, verOk] at f)) | (have ee := True.intro; first | (refine call_hd [0] [832] (l01PickInt code hb [6000, 6000, 6000, 900] (by simp) (by simp) _ _ (by assumption)) (by decide) ?_ rfl ?_; (focus (first | rfl | (simp (maxSteps := 1000000) (disch := first | omega | (simp only [LN, numOk, verOk, rfP, rvP, rhP, frP, curB, bkd, elOk_en, elOk_nd, nfx_en, nfx_nd] <;> omega) | exact Ck.mk rfl) only [VC, T, Nat.reduceMul, Nat.reduceAdd, Nat.reduceSub, Nat.reduceLT, Nat.reduceEqDiff, Nat.reduceLeDiff, Nat.reduceBEq, reduceCtorEq, Int.reduceToNat, ↓reduceIte, rfP, rvP, rhP, frP, curB, bkd, elOk_en, elOk_nd, nfx_en, nfx_nd]; done))); rintro _ _ ⟨⟨y, rfl, hy⟩, i', h', rfl, hc'⟩) | refine call_x (hD _) rfl ⟨rfl⟩ ?_)) <;> (try simp (maxSteps := 1000000) (disch := first | omega | (simp only [LN, numOk, verOk, rfP, rvP, rhP, frP, curB, bkd, elOk_en, elOk_nd, nfx_en, nfx_nd] <;> omega) | exact Ck.mk rfl) only [ee, VC, T, Nat.reduceMul, Nat.reduceAdd, Nat.reduceSub, Nat.reduceLT, Nat.reduceEqDiff, Nat.reduceLeDiff, Nat.reduceBEq, reduceCtorEq, Int.reduceToNat, ↓reduceIte, rfP, rvP, rhP, frP, curB, bkd, elOk_en, elOk_nd, nfx_en, nfx_nd]) <;> (try clear ee))
  refine lp_go (fun x : Nat × Dk × Int × Int × Int × Int => ⟨107, [(0, .ref 0 0), (2, .ref 192 0), (3, .ref 256 0), (4, .int .i64 x.2.2.1), (5, .int .i64 x.2.2.2.1), (6, .int .i64 x.1)], [(0, curB code x.2.2.2.2.1 x.2.2.2.2.2), (192, .box 32 [.nils, .nils, .nils, .nils, .int .i64 0, .int .i64 0]), (256, .box 32 [.far (x.2.1.1.map ndP), .far (x.2.1.2.1.map enP), .far (x.2.1.2.2.1.map enP), .far (x.2.1.2.2.2.1.map .str), .int .i64 x.2.1.2.2.2.2.1, .int .i64 x.2.1.2.2.2.2.2])]⟩) (fun x => x.1 ≤ 4 ∧ DkB (2 * x.1) (64 + 100004 * x.1) x.2.1 ∧ (0 ≤ x.2.2.1 ∧ x.2.2.1 ≤ 4 * x.1) ∧ CurOk code x.2.2.2.2.1 x.2.2.2.2.2) (fun x => 4 - x.1) (0, newT y, 0, 0, i', h') ?_ ⟨Nat.zero_le _, newT_B _ _ _, by simp, hc'⟩ ?_
  · (simp (disch := first | omega | (simp only [LN, numOk, verOk, curB] <;> omega) | exact Ck.mk rfl) only [SB, EQ, Nat.reduceMul, Nat.reduceAdd, Nat.reduceSub, Nat.reduceLT, Nat.reduceEqDiff, Nat.reduceLeDiff, Nat.reduceBEq, reduceCtorEq, Int.reduceToNat, ↓reduceIte, curB]; try omega)
    try rfl
  · rintro ⟨k, d, base, link, i, h⟩ ⟨hk, hd, hbs, hc⟩ N hN
    simp only at hk hd hbs hc hN ⊢
    have hS := spec_SegmentName base (by unfold i64; omega)
    have hsl := segT_le base
    refine Wr.go ?_
    repeat' ((first | (have ee := True.intro; refine Wr.mk ?_) | ((first | refine br_go ?_ ?_ | refine pick_go ?_ ?_) <;> intro ee f <;> (try simp only [BB] at f) <;> (try simp only [numOk, verOk] at f)) | (have ee := True.intro; first | refine dr_go mixed (id := 18) [([], [0], []), ([], [3], []), ([], [4], []), ([2], [60], []), ([], [9], []), ([0, 1, 2, 3, 4], [58, 59, 61, 62], []), ([0, 1, 2, 3, 4, 5], [3, 63], [])] rfl rfl rfl ?_ | refine dr_go mixed (id := 26) [([], [0], []), ([], [3], [0]), ([], [0], []), ([2], [86], []), ([2, 3], [87], []), ([0, 1, 2, 3, 4], [84, 85, 88], []), ([0, 1, 2, 3, 4, 5], [3, 89], [])] rfl rfl rfl ?_ | refine dr_go mixed (id := 28) [([], [0], []), ([], [3], [0]), ([], [0], []), ([2], [94], []), ([2, 3], [95], []), ([2, 3, 4], [96], []), ([], [0], []), ([2, 3, 4, 5, 6], [98], []), ([0, 1, 2, 3, 4, 5, 6, 7], [92, 93, 97, 99], []), ([0, 1, 2, 3, 4, 5, 6, 7, 8], [3, 100], [])] rfl rfl rfl ?_ | (refine call_h [0] [] (l01Below code hb 2 (by decide) _ _ (by assumption)) (by decide) rfl rfl ?_; rintro _ _ ⟨⟨v0, rfl, hv1, hv2⟩, i', h', rfl, hc'⟩) | (refine call_h [0] [] (l01Below code hb 3 (by decide) _ _ (by assumption)) (by decide) rfl rfl ?_; rintro _ _ ⟨⟨s0, rfl, hs1, hs2⟩, i', h', rfl, hc'⟩) | (refine call_h [0] [] (l01Below code hb _ (by omega) _ _ (by assumption)) (by decide) rfl rfl ?_; rintro _ _ ⟨⟨x, rfl, hx1, hx2⟩, i', h', rfl, hc'⟩) | (refine call_h [0] [] (l08Record code hb _ _ (by assumption)) (by decide) rfl rfl ?_; rintro _ _ ⟨⟨r, rfl, hr0⟩, i', h', rfl, hc'⟩) | (refine call_h [0] [] (l08Records code hb 3 (by decide) _ _ (by assumption)) (by decide) rfl rfl ?_; rintro _ _ ⟨⟨rs, rfl, hr1, hr2⟩, i', h', rfl, hc'⟩) | (refine call_h [0] [] (l01Once code hb _ (by decide) _ _ (by assumption)) (by decide) rfl rfl ?_; rintro _ _ ⟨⟨z, rfl⟩, i', h', rfl, hc'⟩) | (refine call_h [] [2496] ((seal_v (1 + v0) (1 + s0) base (link) [] (by decide) none_60).e) (by decide) ?_ rfl ?_; (focus (first | rfl | (simp (maxSteps := 1000000) (disch := first | omega | (simp only [LN, numOk, verOk, rfP, rvP, rhP, frP, curB, bkd, elOk_en, elOk_nd, nfx_en, nfx_nd, dkP, List.map_cons, List.map_nil, List.length_cons, List.length_nil] <;> omega) | exact Ck.mk rfl) only [VC, T, Nat.reduceMul, Nat.reduceAdd, Nat.reduceSub, Nat.reduceLT, Nat.reduceEqDiff, Nat.reduceLeDiff, Nat.reduceBEq, reduceCtorEq, Int.reduceToNat, ↓reduceIte, rfP, rvP, rhP, frP, curB, bkd, elOk_en, elOk_nd, nfx_en, nfx_nd, dkP, List.map_cons, List.map_nil, List.length_cons, List.length_nil]; done))); rintro _ _ ⟨⟨t, rfl, ht⟩, rfl⟩) | (refine call_h [] [2112] ((seal_v (1 + v0) (1 + s0) base (link) (r :: rs) (by simp only [List.length_cons]; omega) (cons_60 hr0 hr2)).e) (by decide) ?_ rfl ?_; (focus (first | rfl | (simp (maxSteps := 1000000) (disch := first | omega | (simp only [LN, numOk, verOk, rfP, rvP, rhP, frP, curB, bkd, elOk_en, elOk_nd, nfx_en, nfx_nd, dkP, List.map_cons, List.map_nil, List.length_cons, List.length_nil] <;> omega) | exact Ck.mk rfl) only [VC, T, Nat.reduceMul, Nat.reduceAdd, Nat.reduceSub, Nat.reduceLT, Nat.reduceEqDiff, Nat.reduceLeDiff, Nat.reduceBEq, reduceCtorEq, Int.reduceToNat, ↓reduceIte, rfP, rvP, rhP, frP, curB, bkd, elOk_en, elOk_nd, nfx_en, nfx_nd, dkP, List.map_cons, List.map_nil, List.length_cons, List.length_nil]; done))); rintro _ _ ⟨⟨t, rfl, ht⟩, rfl⟩) | (refine call_h [] [2496] ((seal_v (1 + v0) (1 + s0) base (Go.bits .xor .i64 link 1) [] (by decide) none_60).e) (by decide) ?_ rfl ?_; (focus (first | rfl | (simp (maxSteps := 1000000) (disch := first | omega | (simp only [LN, numOk, verOk, rfP, rvP, rhP, frP, curB, bkd, elOk_en, elOk_nd, nfx_en, nfx_nd, dkP, List.map_cons, List.map_nil, List.length_cons, List.length_nil] <;> omega) | exact Ck.mk rfl) only [VC, T, Nat.reduceMul, Nat.reduceAdd, Nat.reduceSub, Nat.reduceLT, Nat.reduceEqDiff, Nat.reduceLeDiff, Nat.reduceBEq, reduceCtorEq, Int.reduceToNat, ↓reduceIte, rfP, rvP, rhP, frP, curB, bkd, elOk_en, elOk_nd, nfx_en, nfx_nd, dkP, List.map_cons, List.map_nil, List.length_cons, List.length_nil]; done))); rintro _ _ ⟨⟨t, rfl, ht⟩, rfl⟩) | (refine call_h [] [2112] ((seal_v (1 + v0) (1 + s0) base (Go.bits .xor .i64 link 1) (r :: rs) (by simp only [List.length_cons]; omega) (cons_60 hr0 hr2)).e) (by decide) ?_ rfl ?_; (focus (first | rfl | (simp (maxSteps := 1000000) (disch := first | omega | (simp only [LN, numOk, verOk, rfP, rvP, rhP, frP, curB, bkd, elOk_en, elOk_nd, nfx_en, nfx_nd, dkP, List.map_cons, List.map_nil, List.length_cons, List.length_nil] <;> omega) | exact Ck.mk rfl) only [VC, T, Nat.reduceMul, Nat.reduceAdd, Nat.reduceSub, Nat.reduceLT, Nat.reduceEqDiff, Nat.reduceLeDiff, Nat.reduceBEq, reduceCtorEq, Int.reduceToNat, ↓reduceIte, rfP, rvP, rhP, frP, curB, bkd, elOk_en, elOk_nd, nfx_en, nfx_nd, dkP, List.map_cons, List.map_nil, List.length_cons, List.length_nil]; done))); rintro _ _ ⟨⟨t, rfl, ht⟩, rfl⟩) | (refine call_h [] [2496] ((frames_v (1 + v0) (1 + s0) base (link) [] (by omega) (by decide) none_60).e) (by decide) ?_ rfl ?_; (focus (first | rfl | (simp (maxSteps := 1000000) (disch := first | omega | (simp only [LN, numOk, verOk, rfP, rvP, rhP, frP, curB, bkd, elOk_en, elOk_nd, nfx_en, nfx_nd, dkP, List.map_cons, List.map_nil, List.length_cons, List.length_nil] <;> omega) | exact Ck.mk rfl) only [VC, T, Nat.reduceMul, Nat.reduceAdd, Nat.reduceSub, Nat.reduceLT, Nat.reduceEqDiff, Nat.reduceLeDiff, Nat.reduceBEq, reduceCtorEq, Int.reduceToNat, ↓reduceIte, rfP, rvP, rhP, frP, curB, bkd, elOk_en, elOk_nd, nfx_en, nfx_nd, dkP, List.map_cons, List.map_nil, List.length_cons, List.length_nil]; done))); rintro _ _ ⟨⟨t, rfl, ht⟩, rfl⟩) | (refine call_h [] [2112] ((frames_v (1 + v0) (1 + s0) base (link) (r :: rs) (by omega) (by simp only [List.length_cons]; omega) (cons_60 hr0 hr2)).e) (by decide) ?_ rfl ?_; (focus (first | rfl | (simp (maxSteps := 1000000) (disch := first | omega | (simp only [LN, numOk, verOk, rfP, rvP, rhP, frP, curB, bkd, elOk_en, elOk_nd, nfx_en, nfx_nd, dkP, List.map_cons, List.map_nil, List.length_cons, List.length_nil] <;> omega) | exact Ck.mk rfl) only [VC, T, Nat.reduceMul, Nat.reduceAdd, Nat.reduceSub, Nat.reduceLT, Nat.reduceEqDiff, Nat.reduceLeDiff, Nat.reduceBEq, reduceCtorEq, Int.reduceToNat, ↓reduceIte, rfP, rvP, rhP, frP, curB, bkd, elOk_en, elOk_nd, nfx_en, nfx_nd, dkP, List.map_cons, List.map_nil, List.length_cons, List.length_nil]; done))); rintro _ _ ⟨⟨t, rfl, ht⟩, rfl⟩) | (refine call_h [] [2496] ((frames_v (1 + v0) (1 + s0) base (Go.bits .xor .i64 link 1) [] (by omega) (by decide) none_60).e) (by decide) ?_ rfl ?_; (focus (first | rfl | (simp (maxSteps := 1000000) (disch := first | omega | (simp only [LN, numOk, verOk, rfP, rvP, rhP, frP, curB, bkd, elOk_en, elOk_nd, nfx_en, nfx_nd, dkP, List.map_cons, List.map_nil, List.length_cons, List.length_nil] <;> omega) | exact Ck.mk rfl) only [VC, T, Nat.reduceMul, Nat.reduceAdd, Nat.reduceSub, Nat.reduceLT, Nat.reduceEqDiff, Nat.reduceLeDiff, Nat.reduceBEq, reduceCtorEq, Int.reduceToNat, ↓reduceIte, rfP, rvP, rhP, frP, curB, bkd, elOk_en, elOk_nd, nfx_en, nfx_nd, dkP, List.map_cons, List.map_nil, List.length_cons, List.length_nil]; done))); rintro _ _ ⟨⟨t, rfl, ht⟩, rfl⟩) | (refine call_h [] [2112] ((frames_v (1 + v0) (1 + s0) base (Go.bits .xor .i64 link 1) (r :: rs) (by omega) (by simp only [List.length_cons]; omega) (cons_60 hr0 hr2)).e) (by decide) ?_ rfl ?_; (focus (first | rfl | (simp (maxSteps := 1000000) (disch := first | omega | (simp only [LN, numOk, verOk, rfP, rvP, rhP, frP, curB, bkd, elOk_en, elOk_nd, nfx_en, nfx_nd, dkP, List.map_cons, List.map_nil, List.length_cons, List.length_nil] <;> omega) | exact Ck.mk rfl) only [VC, T, Nat.reduceMul, Nat.reduceAdd, Nat.reduceSub, Nat.reduceLT, Nat.reduceEqDiff, Nat.reduceLeDiff, Nat.reduceBEq, reduceCtorEq, Int.reduceToNat, ↓reduceIte, rfP, rvP, rhP, frP, curB, bkd, elOk_en, elOk_nd, nfx_en, nfx_nd, dkP, List.map_cons, List.map_nil, List.length_cons, List.length_nil]; done))); rintro _ _ ⟨⟨t, rfl, ht⟩, rfl⟩) | (refine call_h [0] [] (l08Bent code hb t (by unfold SzIn at ht; omega) _ _ (by assumption)) (by decide) rfl rfl ?_; rintro _ _ ⟨⟨t, rfl, ht⟩, i', h', rfl, hc'⟩) | refine call_x (hS) rfl ⟨rfl⟩ ?_ | (refine call_h [0] [] (l14Put code hb (2 * k) (64 + 100004 * k) d hd (segT base) t (by omega) (by unfold SzIn at *; omega) (by omega) _ _ (by assumption)) (by decide) rfl rfl ?_; rintro _ _ ⟨⟨d2, rfl, hd2⟩, i', h', rfl, hc'⟩) | refine call_x (spec_TempName x (by unfold i64; omega)) rfl ⟨rfl⟩ ?_ | (refine call_h [0] [] (l14Put code hb (2 * k) (64 + 100004 * k) d hd (tmpT x) ⟨#[104, 97, 108, 102]⟩ (by have := tmpT_le x; omega) (by show 64 + 100004 * k + 4 ≤ 1048576; omega) (by omega) _ _ (by assumption)) (by decide) rfl rfl ?_; rintro _ _ ⟨⟨d2, rfl, hd2⟩, i', h', rfl, hc'⟩) | refine call_x (spec_SegmentName (20 + x) (by unfold i64; omega)) rfl ⟨rfl⟩ ?_ | (refine call_h [0] [] (l10File code hb _ _ (by assumption)) (by decide) rfl rfl ?_; rintro _ _ ⟨⟨t, rfl, ht⟩, i', h', rfl, hc'⟩) | (refine call_h [0] [] (l14Put code hb (2 * k) (64 + 100004 * k) d hd (segT (20 + x)) t (by have := segT_le (20 + x); omega) (by unfold SzIn at *; omega) (by omega) _ _ (by assumption)) (by decide) rfl rfl ?_; rintro _ _ ⟨⟨d2, rfl, hd2⟩, i', h', rfl, hc'⟩) | (refine call_h [0] [] (l14Put code hb (2 * k) (64 + 100004 * k) d hd (⟨#[114, 101, 97, 100, 109, 101]⟩) ⟨#[115, 111, 109, 101, 32, 116, 101, 120, 116]⟩ (by show 6 + 24 ≤ 64 + 100004 * k; omega) (by show 64 + 100004 * k + 9 ≤ 1048576; omega) (by omega) _ _ (by assumption)) (by decide) rfl rfl ?_; rintro _ _ ⟨⟨d2, rfl, hd2⟩, i', h', rfl, hc'⟩))) <;> (try simp (maxSteps := 1000000) (disch := first | omega | (simp only [LN, numOk, verOk, rfP, rvP, rhP, frP, curB, bkd, elOk_en, elOk_nd, nfx_en, nfx_nd, dkP, List.map_cons, List.map_nil, List.length_cons, List.length_nil] <;> omega) | exact Ck.mk rfl) only [ee, VC, T, Nat.reduceMul, Nat.reduceAdd, Nat.reduceSub, Nat.reduceLT, Nat.reduceEqDiff, Nat.reduceLeDiff, Nat.reduceBEq, reduceCtorEq, Int.reduceToNat, ↓reduceIte, rfP, rvP, rhP, frP, curB, bkd, elOk_en, elOk_nd, nfx_en, nfx_nd, dkP, List.map_cons, List.map_nil, List.length_cons, List.length_nil]) <;> (try clear ee))
    all_goals first
      | (obtain ⟨ws, hws⟩ : ∃ ws : List ByteArray, ws = r :: rs := ⟨_, rfl⟩
         have hw4 : ws.length ≤ 4 := by rw [hws]; simp only [List.length_cons]; omega
         have hw60 : ∀ x ∈ ws, x.size ≤ 60 := by rw [hws]; exact cons_60 hr0 hr2
         refine lp_go (fun x : Nat × Int => ⟨107, [(0, .ref 0 0), (2, .ref 192 0), (3, .ref 256 0), (4, .int .i64 (base + ws.length)), (5, .int .i64 x.2), (6, .int .i64 k), (8, .row 2112 ws.length), (10, .int .i64 x.1)], [(0, curB code i' h'), (192, .box 32 [.nils, .nils, .nils, .nils, .int .i64 0, .int .i64 0]), (256, .box 32 [.far (d2.1.map ndP), .far (d2.2.1.map enP), .far (d2.2.2.1.map enP), .far (d2.2.2.2.1.map .str), .int .i64 d2.2.2.2.2.1, .int .i64 d2.2.2.2.2.2]), (2112, .row ⟨1, 0⟩ (ws.map .str))]⟩) (fun x => x.1 ≤ ws.length) (fun x => ws.length - x.1) (0, link) ?_ (Nat.zero_le _) ?_
         · rw [hws]
           (simp (disch := first | omega | (simp only [LN, numOk, verOk, curB, List.map_cons, List.map_nil, List.length_cons, List.length_nil] <;> omega) | exact Ck.mk rfl) only [SB, EQ, Nat.reduceMul, Nat.reduceAdd, Nat.reduceSub, Nat.reduceLT, Nat.reduceEqDiff, Nat.reduceLeDiff, Nat.reduceBEq, reduceCtorEq, Int.reduceToNat, ↓reduceIte, curB, List.map_cons, List.map_nil, List.length_cons, List.length_nil]; try omega)
         · rintro ⟨j, l⟩ hj N2 hN2
           simp only at hj hN2
           clear hws
           by_cases hjl : j < ws.length
           · have hz := hw60 _ (getD_mem ws j hjl)
             refine Wr.go ?_
             repeat' ((first | (have ee := True.intro; refine Wr.mk ?_) | ((first | refine br_go ?_ ?_ | refine pick_go ?_ ?_) <;> intro ee f <;> (try simp only [BB] at f) <;> (try simp only [numOk, verOk] at f)) | (have ee := True.intro; first | refine call_x (spec_LinkMore _ _ (by omega)) rfl ⟨rfl⟩ ?_)) <;> (try simp (maxSteps := 1000000) (disch := first | omega | (simp only [LN, numOk, verOk, rfP, rvP, rhP, frP, curB, bkd, elOk_en, elOk_nd, nfx_en, nfx_nd] <;> omega) | exact Ck.mk rfl) only [ee, VC, T, Nat.reduceMul, Nat.reduceAdd, Nat.reduceSub, Nat.reduceLT, Nat.reduceEqDiff, Nat.reduceLeDiff, Nat.reduceBEq, reduceCtorEq, Int.reduceToNat, ↓reduceIte, rfP, rvP, rhP, frP, curB, bkd, elOk_en, elOk_nd, nfx_en, nfx_nd]) <;> (try clear ee))
             refine hN2 (j + 1, linkMore l (ws.getD j default)) _ (by simp only; omega) (by simp only; omega) ?_
             (simp (disch := first | omega | (simp only [LN, numOk, verOk, curB] <;> omega) | exact Ck.mk rfl) only [SB, EQ, Nat.reduceMul, Nat.reduceAdd, Nat.reduceSub, Nat.reduceLT, Nat.reduceEqDiff, Nat.reduceLeDiff, Nat.reduceBEq, reduceCtorEq, Int.reduceToNat, ↓reduceIte, curB]; try omega)
           · refine Wr.go ?_
             repeat' ((first | (have ee := True.intro; refine Wr.mk ?_) | ((first | refine br_go ?_ ?_ | refine pick_go ?_ ?_) <;> intro ee f <;> (try simp only [BB] at f) <;> (try simp only [numOk, verOk] at f))) <;> (try simp (maxSteps := 1000000) (disch := first | omega | (simp only [LN, numOk, verOk, rfP, rvP, rhP, frP, curB, bkd, elOk_en, elOk_nd, nfx_en, nfx_nd] <;> omega) | exact Ck.mk rfl) only [ee, VC, T, Nat.reduceMul, Nat.reduceAdd, Nat.reduceSub, Nat.reduceLT, Nat.reduceEqDiff, Nat.reduceLeDiff, Nat.reduceBEq, reduceCtorEq, Int.reduceToNat, ↓reduceIte, rfP, rvP, rhP, frP, curB, bkd, elOk_en, elOk_nd, nfx_en, nfx_nd]) <;> (try clear ee))
             refine hN (k + 1, d2, base + ws.length, l, i', h') _ ⟨by simp only; omega, hd2.mono (by simp only; omega) (by unfold SzIn at *; simp only; omega), by simp only; omega, by assumption⟩ (by simp only; omega) ?_
             (simp (disch := first | omega | (simp only [LN, numOk, verOk, curB] <;> omega) | exact Ck.mk rfl) only [SB, EQ, Nat.reduceMul, Nat.reduceAdd, Nat.reduceSub, Nat.reduceLT, Nat.reduceEqDiff, Nat.reduceLeDiff, Nat.reduceBEq, reduceCtorEq, Int.reduceToNat, ↓reduceIte, curB]; try omega))
      | (obtain ⟨ws, hws⟩ : ∃ ws : List ByteArray, ws = [] := ⟨_, rfl⟩
         have hw4 : ws.length ≤ 4 := by rw [hws]; decide
         have hw60 : ∀ x ∈ ws, x.size ≤ 60 := by rw [hws]; exact none_60
         refine lp_go (fun x : Nat × Int => ⟨107, [(0, .ref 0 0), (2, .ref 192 0), (3, .ref 256 0), (4, .int .i64 (base + ws.length)), (5, .int .i64 x.2), (6, .int .i64 k), (8, .row 2496 ws.length), (10, .int .i64 x.1)], [(0, curB code i' h'), (192, .box 32 [.nils, .nils, .nils, .nils, .int .i64 0, .int .i64 0]), (256, .box 32 [.far (d2.1.map ndP), .far (d2.2.1.map enP), .far (d2.2.2.1.map enP), .far (d2.2.2.2.1.map .str), .int .i64 d2.2.2.2.2.1, .int .i64 d2.2.2.2.2.2]), (2496, .row ⟨1, 0⟩ (ws.map .str))]⟩) (fun x => x.1 ≤ ws.length) (fun x => ws.length - x.1) (0, link) ?_ (Nat.zero_le _) ?_
         · rw [hws]
           (simp (disch := first | omega | (simp only [LN, numOk, verOk, curB, List.map_cons, List.map_nil, List.length_cons, List.length_nil] <;> omega) | exact Ck.mk rfl) only [SB, EQ, Nat.reduceMul, Nat.reduceAdd, Nat.reduceSub, Nat.reduceLT, Nat.reduceEqDiff, Nat.reduceLeDiff, Nat.reduceBEq, reduceCtorEq, Int.reduceToNat, ↓reduceIte, curB, List.map_cons, List.map_nil, List.length_cons, List.length_nil]; try omega)
         · rintro ⟨j, l⟩ hj N2 hN2
           simp only at hj hN2
           clear hws
           by_cases hjl : j < ws.length
           · have hz := hw60 _ (getD_mem ws j hjl)
             refine Wr.go ?_
             repeat' ((first | (have ee := True.intro; refine Wr.mk ?_) | ((first | refine br_go ?_ ?_ | refine pick_go ?_ ?_) <;> intro ee f <;> (try simp only [BB] at f) <;> (try simp only [numOk, verOk] at f)) | (have ee := True.intro; first | refine call_x (spec_LinkMore _ _ (by omega)) rfl ⟨rfl⟩ ?_)) <;> (try simp (maxSteps := 1000000) (disch := first | omega | (simp only [LN, numOk, verOk, rfP, rvP, rhP, frP, curB, bkd, elOk_en, elOk_nd, nfx_en, nfx_nd] <;> omega) | exact Ck.mk rfl) only [ee, VC, T, Nat.reduceMul, Nat.reduceAdd, Nat.reduceSub, Nat.reduceLT, Nat.reduceEqDiff, Nat.reduceLeDiff, Nat.reduceBEq, reduceCtorEq, Int.reduceToNat, ↓reduceIte, rfP, rvP, rhP, frP, curB, bkd, elOk_en, elOk_nd, nfx_en, nfx_nd]) <;> (try clear ee))
             refine hN2 (j + 1, linkMore l (ws.getD j default)) _ (by simp only; omega) (by simp only; omega) ?_
             (simp (disch := first | omega | (simp only [LN, numOk, verOk, curB] <;> omega) | exact Ck.mk rfl) only [SB, EQ, Nat.reduceMul, Nat.reduceAdd, Nat.reduceSub, Nat.reduceLT, Nat.reduceEqDiff, Nat.reduceLeDiff, Nat.reduceBEq, reduceCtorEq, Int.reduceToNat, ↓reduceIte, curB]; try omega)
           · refine Wr.go ?_
             repeat' ((first | (have ee := True.intro; refine Wr.mk ?_) | ((first | refine br_go ?_ ?_ | refine pick_go ?_ ?_) <;> intro ee f <;> (try simp only [BB] at f) <;> (try simp only [numOk, verOk] at f))) <;> (try simp (maxSteps := 1000000) (disch := first | omega | (simp only [LN, numOk, verOk, rfP, rvP, rhP, frP, curB, bkd, elOk_en, elOk_nd, nfx_en, nfx_nd] <;> omega) | exact Ck.mk rfl) only [ee, VC, T, Nat.reduceMul, Nat.reduceAdd, Nat.reduceSub, Nat.reduceLT, Nat.reduceEqDiff, Nat.reduceLeDiff, Nat.reduceBEq, reduceCtorEq, Int.reduceToNat, ↓reduceIte, rfP, rvP, rhP, frP, curB, bkd, elOk_en, elOk_nd, nfx_en, nfx_nd]) <;> (try clear ee))
             refine hN (k + 1, d2, base + ws.length, l, i', h') _ ⟨by simp only; omega, hd2.mono (by simp only; omega) (by unfold SzIn at *; simp only; omega), by simp only; omega, by assumption⟩ (by simp only; omega) ?_
             (simp (disch := first | omega | (simp only [LN, numOk, verOk, curB] <;> omega) | exact Ck.mk rfl) only [SB, EQ, Nat.reduceMul, Nat.reduceAdd, Nat.reduceSub, Nat.reduceLT, Nat.reduceEqDiff, Nat.reduceLeDiff, Nat.reduceBEq, reduceCtorEq, Int.reduceToNat, ↓reduceIte, curB]; try omega))
      | (refine fin_c (y := .agg [.far (d2.1.map ndP), .far (d2.2.1.map enP), .far (d2.2.2.1.map enP), .far (d2.2.2.2.1.map .str), .int .i64 d2.2.2.2.2.1, .int .i64 d2.2.2.2.2.2]) rfl (by rfl) rfl rfl ?_
         exact ⟨⟨d2, rfl, hd2.mono (by omega) (by unfold SzIn at *; omega)⟩, _, _, rfl, by assumption⟩)
      | (refine fin_c (y := .agg [.far (d2.1.map ndP), .far (d2.2.1.map enP), .far (d2.2.2.1.map enP), .far (d2.2.2.2.1.map .str), .int .i64 d2.2.2.2.2.1, .int .i64 d2.2.2.2.2.2]) rfl (by rfl) rfl rfl ?_
         exact ⟨⟨d2, rfl, hd2.mono (by omega) (by first | (show 64 + 100004 * k + 4 ≤ 700000; omega) | (show 64 + 100004 * k + 9 ≤ 700000; omega))⟩, _, _, rfl, by assumption⟩)
      | (refine fin_c (y := .agg [.far (d.1.map ndP), .far (d.2.1.map enP), .far (d.2.2.1.map enP), .far (d.2.2.2.1.map .str), .int .i64 d.2.2.2.2.1, .int .i64 d.2.2.2.2.2]) rfl (by rfl) rfl rfl ?_
         exact ⟨⟨d, rfl, hd.mono (by omega) (by omega)⟩, _, _, rfl, by assumption⟩)
end Go.Pv

/- What functions of the program and of the reference do, in plain values. -/
namespace Go.Pv
open Go.Proofs Go.Mth
set_option linter.unusedSimpArgs false
set_option linter.unusedVariables false
set_option maxHeartbeats 4000000
set_option maxRecDepth 4000

theorem l14Any (code : List Int) (hb : Bytes code) (i h : Int) (hc : CurOk code i h) : FnE Tryz.prog 85 [.ref 0 0] [(0, curB code i h)] (CQ code (isDk 17 700000)) := by
  refine fn_e tok (n := 9) (rs := [.cell 2 32]) Tryz.func85 (by decide) rfl rfl rfl rfl (low_of rfl) ?_
  refine Wr.go ?_
  repeat' ((first | (have ee := True.intro; refine Wr.mk ?_) | ((first | refine br_go ?_ ?_ | refine pick_go ?_ ?_) <;> intro ee f <;> (try simp only [BB] at f) <;> (try simp only [numOk, verOk] at f)) | (have ee := True.intro; first | (refine call_h [0] [] (l01Once code hb _ (by decide) _ _ (by assumption)) (by decide) rfl rfl ?_; rintro _ _ ⟨⟨z, rfl⟩, i', h', rfl, hc'⟩) | (refine call_h [0] [] (l05Any code hb _ _ (by assumption)) (by decide) rfl rfl ?_; rintro _ _ ⟨⟨d, rfl, hd⟩, i', h', rfl, hc'⟩) | (refine call_h [0] [] (l14Disk code hb _ _ (by assumption)) (by decide) rfl rfl ?_; rintro _ _ ⟨⟨d, rfl, hd⟩, i', h', rfl, hc'⟩))) <;> (try simp (maxSteps := 1000000) (disch := first | omega | (simp only [LN, numOk, verOk, rfP, rvP, rhP, frP, curB, bkd, elOk_en, elOk_nd, nfx_en, nfx_nd, dkP] <;> omega) | exact Ck.mk rfl) only [ee, VC, T, Nat.reduceMul, Nat.reduceAdd, Nat.reduceSub, Nat.reduceLT, Nat.reduceEqDiff, Nat.reduceLeDiff, Nat.reduceBEq, reduceCtorEq, Int.reduceToNat, ↓reduceIte, rfP, rvP, rhP, frP, curB, bkd, elOk_en, elOk_nd, nfx_en, nfx_nd, dkP]) <;> (try clear ee))
  all_goals
    refine fin_c (y := .agg [.far (d.1.map ndP), .far (d.2.1.map enP), .far (d.2.2.1.map enP), .far (d.2.2.2.1.map .str), .int .i64 d.2.2.2.2.1, .int .i64 d.2.2.2.2.2]) rfl (by rfl) rfl rfl ?_
    exact ⟨⟨d, rfl, hd.mono (by omega) (by omega)⟩, _, _, rfl, by assumption⟩
def isDisk (r : PV) : Prop := ∃ d, r = dkP d ∧ DkOk d
def isDiskI (r : PV) : Prop := ∃ (d : Dk) (k : Int), r = .tup [dkP d, .int .i64 k] ∧ DkOk d ∧ i64 k
theorem DrawChainTexts (code : List Int) (hb : Bytes code) : FnV Tryz.prog 30 [.far (code.map (.int .u8))] isDisk := by
  refine fn_v tok (n := 6) (rs := [.cell 2 32]) Tryz.func30 (by decide) rfl rfl rfl rfl ?_
  refine Wr.go ?_
  repeat' ((first | (have ee := True.intro; refine Wr.mk ?_) | ((first | refine br_go ?_ ?_ | refine pick_go ?_ ?_) <;> intro ee f <;> (try simp only [BB] at f) <;> (try simp only [numOk, verOk] at f)) | (have ee := True.intro; first | (refine call_h [] [] (l01New code hb) (by decide) rfl rfl ?_; rintro _ _ ⟨rfl, h, rfl, hc⟩) | (refine call_h [320] [] (l14Any code hb _ _ (by assumption)) (by decide) rfl rfl ?_; rintro _ _ ⟨⟨d, rfl, hd⟩, i', h', rfl, hc'⟩))) <;> (try simp (maxSteps := 1000000) (disch := first | omega | (simp only [LN, numOk, verOk, rfP, rvP, rhP, frP, curB, bkd, elOk_en, elOk_nd, nfx_en, nfx_nd, dkP] <;> omega) | exact Ck.mk rfl) only [ee, VC, T, Nat.reduceMul, Nat.reduceAdd, Nat.reduceSub, Nat.reduceLT, Nat.reduceEqDiff, Nat.reduceLeDiff, Nat.reduceBEq, reduceCtorEq, Int.reduceToNat, ↓reduceIte, rfP, rvP, rhP, frP, curB, bkd, elOk_en, elOk_nd, nfx_en, nfx_nd, dkP]) <;> (try clear ee))
  exact ⟨d, rfl, hd.ok (by decide) (by decide)⟩
theorem DrawTextAt (code : List Int) (hb : Bytes code) : FnV Tryz.prog 88 [.far (code.map (.int .u8))] isDiskI := by
  refine fn_v tok (n := 14) (rs := [.cell 2 32, .tmp 3]) Tryz.func88 (by decide) rfl rfl rfl rfl ?_
  refine Wr.go ?_
  repeat' ((first | (have ee := True.intro; refine Wr.mk ?_) | ((first | refine br_go ?_ ?_ | refine pick_go ?_ ?_) <;> intro ee f <;> (try simp only [BB] at f) <;> (try simp only [numOk, verOk] at f)) | (have ee := True.intro; first | refine dr_go mixed (id := 3) [([], [5], [512, 832]), ([], [4], []), ([], [], []), ([1, 2], [11, 12], []), ([0, 1, 2, 3], [2, 10], []), ([0, 1, 2, 3, 4], [13], [])] rfl rfl rfl ?_ | (refine call_h [] [] (l01New code hb) (by decide) rfl rfl ?_; rintro _ _ ⟨rfl, h, rfl, hc⟩) | (refine call_h [512] [] (l14Any code hb _ _ (by assumption)) (by decide) rfl rfl ?_; rintro _ _ ⟨⟨d, rfl, hd⟩, i', h', rfl, hc'⟩) | (refine call_hd [512] [832] (l01PickInt code hb [0, 1, 2, 3, 5, -1, 1000000001] (by simp) (by simp) _ _ (by assumption)) (by decide) ?_ rfl ?_; (focus (first | rfl | (simp (maxSteps := 1000000) (disch := first | omega | (simp only [LN, numOk, verOk, rfP, rvP, rhP, frP, curB, bkd, elOk_en, elOk_nd, nfx_en, nfx_nd, dkP] <;> omega) | exact Ck.mk rfl) only [VC, T, Nat.reduceMul, Nat.reduceAdd, Nat.reduceSub, Nat.reduceLT, Nat.reduceEqDiff, Nat.reduceLeDiff, Nat.reduceBEq, reduceCtorEq, Int.reduceToNat, ↓reduceIte, rfP, rvP, rhP, frP, curB, bkd, elOk_en, elOk_nd, nfx_en, nfx_nd, dkP]; done))); rintro _ _ ⟨⟨y, rfl, hy⟩, i', h', rfl, hc'⟩))) <;> (try simp (maxSteps := 1000000) (disch := first | omega | (simp only [LN, numOk, verOk, rfP, rvP, rhP, frP, curB, bkd, elOk_en, elOk_nd, nfx_en, nfx_nd, dkP] <;> omega) | exact Ck.mk rfl) only [ee, VC, T, Nat.reduceMul, Nat.reduceAdd, Nat.reduceSub, Nat.reduceLT, Nat.reduceEqDiff, Nat.reduceLeDiff, Nat.reduceBEq, reduceCtorEq, Int.reduceToNat, ↓reduceIte, rfP, rvP, rhP, frP, curB, bkd, elOk_en, elOk_nd, nfx_en, nfx_nd, dkP]) <;> (try clear ee))
  refine ⟨d, y, rfl, hd.ok (by decide) (by decide), ?_⟩
  simp only [Mem, List.mem_cons, List.not_mem_nil, or_false] at hy
  unfold i64
  omega
theorem DrawBasesBehind (code : List Int) (hb : Bytes code) : FnV Tryz.prog 32 [.far (code.map (.int .u8))] isDiskI := by
  refine fn_v tok (n := 8) (rs := [.cell 2 32, .tmp 3]) Tryz.func32 (by decide) rfl rfl rfl rfl ?_
  refine Wr.go ?_
  repeat' ((first | (have ee := True.intro; refine Wr.mk ?_) | ((first | refine br_go ?_ ?_ | refine pick_go ?_ ?_) <;> intro ee f <;> (try simp only [BB] at f) <;> (try simp only [numOk, verOk] at f)) | (have ee := True.intro; first | (refine call_v (DrawTextAt code hb) rfl ?_; rintro _ ⟨d, k, rfl, hd, hk⟩; refine ⟨⟨rfl⟩, ?_⟩))) <;> (try simp (maxSteps := 1000000) (disch := first | omega | (simp only [LN, numOk, verOk, rfP, rvP, rhP, frP, curB, bkd, elOk_en, elOk_nd, nfx_en, nfx_nd, dkP] <;> omega) | exact Ck.mk rfl) only [ee, VC, T, Nat.reduceMul, Nat.reduceAdd, Nat.reduceSub, Nat.reduceLT, Nat.reduceEqDiff, Nat.reduceLeDiff, Nat.reduceBEq, reduceCtorEq, Int.reduceToNat, ↓reduceIte, rfP, rvP, rhP, frP, curB, bkd, elOk_en, elOk_nd, nfx_en, nfx_nd, dkP]) <;> (try clear ee))
  exact ⟨d, k, rfl, hd, hk⟩
end Go.Pv

/- What functions of the program and of the reference do, in plain values. -/
namespace Go.Pv
open Go.Proofs Go.Mth
set_option linter.unusedSimpArgs false
set_option linter.unusedVariables false
set_option maxHeartbeats 4000000
set_option maxRecDepth 4000

/-! ### rows with some taken out -/
theorem impl_BasesBehind_lit (x b : Int) : Fn Tryz.prog 90 [.int .i64 x, .fel [.int .i64 b]] [] (.bool (decide (x ≤ b))) [] := by
  refine fn_x tok (n := 7) (rs := [.tmp 3]) Tryz.func90 (by decide) rfl rfl rfl rfl ?_
  refine Wr.go ?_
  repeat' ((first | (have ee := True.intro; refine Wr.mk ?_) | ((first | refine br_go ?_ ?_ | refine pick_go ?_ ?_) <;> intro ee f <;> (try simp only [BB] at f) <;> (try simp only [numOk, verOk] at f))) <;> (try simp (maxSteps := 1000000) (disch := first | omega | (simp only [LN, numOk, verOk, rfP, rvP, rhP, frP, bkd] <;> omega) | exact Ck.mk rfl) only [ee, VC, T, Nat.reduceMul, Nat.reduceAdd, Nat.reduceSub, Nat.reduceLT, Nat.reduceEqDiff, Nat.reduceLeDiff, Nat.reduceBEq, reduceCtorEq, Int.reduceToNat, ↓reduceIte, rfP, rvP, rhP, frP, bkd]) <;> (try clear ee))
theorem indexB (L : List Int) (b : Int) (hl : L.length ≤ 1048576) : Fn Tryz.prog 144 [.far (L.map (.int .i64)), .fn (.func 90) [.fel [.int .i64 b]]] [] (.int .i64 (findI (fun x => decide (x ≤ b)) L 0)) [] := by
  have hst := findI_step (fun x : Int => decide (x ≤ b)) L
  have hen := findI_end (fun x : Int => decide (x ≤ b)) L
  refine fn_x tok (n := 19) (rs := [.tmp 4]) Tryz.func144 (by decide) rfl rfl rfl rfl ?_
  refine Wr.go ?_
  repeat' ((first | (have ee := True.intro; refine Wr.mk ?_) | ((first | refine br_go ?_ ?_ | refine pick_go ?_ ?_) <;> intro ee f <;> (try simp only [BB] at f) <;> (try simp only [numOk, verOk] at f))) <;> (try simp (maxSteps := 1000000) (disch := first | omega | (simp only [LN, numOk, verOk, rfP, rvP, rhP, frP, bkd] <;> omega) | exact Ck.mk rfl) only [ee, VC, T, Nat.reduceMul, Nat.reduceAdd, Nat.reduceSub, Nat.reduceLT, Nat.reduceEqDiff, Nat.reduceLeDiff, Nat.reduceBEq, reduceCtorEq, Int.reduceToNat, ↓reduceIte, rfP, rvP, rhP, frP, bkd]) <;> (try clear ee))
  refine lp_go (fun i : Nat => ⟨19, [(0, .far (L.map (.int .i64))), (1, .fn (.func 90) [.fel [.int .i64 b]]), (7, .int .i64 L.length), (8, .int .i64 i)], []⟩) (fun i => i ≤ L.length ∧ findI (fun x => decide (x ≤ b)) L 0 = findI (fun x => decide (x ≤ b)) (L.drop i) i) (fun i => L.length - i) 0 ?_ ⟨Nat.zero_le _, rfl⟩ ?_
  · (simp (disch := first | omega | (simp only [LN, numOk, verOk] <;> omega) | exact Ck.mk rfl) only [SB, EQ, Nat.reduceMul, Nat.reduceAdd, Nat.reduceSub, Nat.reduceLT, Nat.reduceEqDiff, Nat.reduceLeDiff, Nat.reduceBEq, reduceCtorEq, Int.reduceToNat, ↓reduceIte]; try omega)
  · rintro i ⟨h1, h2⟩ N hN
    have hst := hst i
    have hen := hen i
    refine Wr.go ?_
    repeat' ((first | (have ee := True.intro; refine Wr.mk ?_) | ((first | refine br_go ?_ ?_ | refine pick_go ?_ ?_) <;> intro ee f <;> (try simp only [BB] at f) <;> (try simp only [numOk, verOk] at f)) | (have ee := True.intro; first | refine call_x (impl_BasesBehind_lit _ b) rfl ⟨rfl⟩ ?_)) <;> (try simp (maxSteps := 1000000) (disch := first | omega | (simp only [LN, numOk, verOk, rfP, rvP, rhP, frP, bkd] <;> omega) | exact Ck.mk rfl) only [ee, VC, T, Nat.reduceMul, Nat.reduceAdd, Nat.reduceSub, Nat.reduceLT, Nat.reduceEqDiff, Nat.reduceLeDiff, Nat.reduceBEq, reduceCtorEq, Int.reduceToNat, ↓reduceIte, rfP, rvP, rhP, frP, bkd]) <;> (try clear ee))
    · rw [h2, hst (by omega), if_pos (decide_eq_true f)]
    · refine hN (i + 1) _ ⟨by omega, ?_⟩ (by omega) ?_
      · rw [h2, hst (by omega), if_neg (by rw [decide_eq_false (by omega)]; decide)]
      · (simp (disch := first | omega | (simp only [LN, numOk, verOk] <;> omega) | exact Ck.mk rfl) only [SB, EQ, Nat.reduceMul, Nat.reduceAdd, Nat.reduceSub, Nat.reduceLT, Nat.reduceEqDiff, Nat.reduceLeDiff, Nat.reduceBEq, reduceCtorEq, Int.reduceToNat, ↓reduceIte]; try omega)
    · rw [h2, hen (by omega)]
/-- Some of a row, moved to its beginning. -/
structure Kept {α : Type} (p : α → Bool) (L M : List α) (i j : Nat) : Prop where
  len : M.length = L.length
  lt : i < j
  le : j ≤ L.length
  fst : M.take i = (L.take j).filter p
  snd : M.drop j = L.drop j
theorem Kept.first {α : Type} [Inhabited α] {p : α → Bool} {L : List α} {k : Nat} (hk : k < L.length) (h1 : ∀ j, j < k → p (L.getD j default) = true) (h2 : p (L.getD k default) = false) : Kept p L L k (k + 1) := by
  refine ⟨rfl, by omega, by omega, ?_, rfl⟩
  rw [take_snoc default L k hk, List.filter_append]
  have e : (L.take k).filter p = L.take k := by
    rw [List.filter_eq_self]
    intro x hx
    obtain ⟨j, hj, rfl⟩ := List.mem_iff_getElem.1 hx
    rw [List.length_take] at hj
    have := h1 j (by omega)
    rw [List.getD_eq_getElem?_getD, List.getElem?_eq_getElem (by omega)] at this
    rw [List.getElem_take]
    exact this
  have e2 : [rdOf default L (k : Int)].filter p = [] := by
    have : rdOf default L (k : Int) = L.getD k default := rfl
    rw [this, List.filter_cons_of_neg (by rw [h2]; decide)]; rfl
  rw [e]
  show _ = _ ++ List.filter p [_]
  rw [show List.filter p [rdOf default L k] = [] from e2, List.append_nil]
theorem Kept.at {α : Type} [Inhabited α] {p : α → Bool} {L M : List α} {i j : Nat} (h : Kept p L M i j) (hj : j < L.length) : M.getD j default = L.getD j default := by
  have h1 := congrArg (fun l => l.head?) h.snd
  simp only [List.head?_drop] at h1
  rw [List.getD_eq_getElem?_getD, List.getD_eq_getElem?_getD, h1]
theorem Kept.skip {α : Type} [Inhabited α] {p : α → Bool} {L M : List α} {i j : Nat} (h : Kept p L M i j) (hj : j < L.length) (hp : p (L.getD j default) = false) : Kept p L M i (j + 1) := by
  refine ⟨h.len, by have := h.lt; omega, by omega, ?_, ?_⟩
  · rw [h.fst, take_snoc default L j hj, List.filter_append]
    show _ = _ ++ List.filter p [_]
    have e2 : [rdOf default L j].filter p = [] := by
      have : rdOf default L (j : Int) = L.getD j default := rfl
      rw [this, List.filter_cons_of_neg (by rw [hp]; decide)]; rfl
    rw [e2, List.append_nil]
  · have := congrArg (fun l => l.drop 1) h.snd
    simpa [List.drop_drop] using this
theorem Kept.take {α : Type} [Inhabited α] {p : α → Bool} {L M : List α} {i j : Nat} (h : Kept p L M i j) (hj : j < L.length) (hp : p (L.getD j default) = true) : Kept p L (M.set i (L.getD j default)) (i + 1) (j + 1) := by
  have hlt := h.lt
  have hln := h.len
  refine ⟨by rw [List.length_set]; exact h.len, by omega, by omega, ?_, ?_⟩
  · rw [take_snoc default L j hj, List.filter_append, ← h.fst]
    have e2 : [rdOf default L j].filter p = [L.getD j default] := by
      have : rdOf default L (j : Int) = L.getD j default := rfl
      rw [this, List.filter_cons_of_pos hp]; rfl
    rw [e2, List.take_add_one, List.take_set_of_le (Nat.le_refl i), List.getElem?_set_self (by omega)]
    rfl
  · rw [List.drop_set_of_lt (by omega)]
    have := congrArg (fun l => l.drop 1) h.snd
    simpa [List.drop_drop] using this
theorem Kept.done {α : Type} {p : α → Bool} {L M : List α} {i : Nat} (h : Kept p L M i L.length) : M.take i = L.filter p ∧ (L.filter p).length = i ∧ i < L.length := by
  have h1 := h.fst
  rw [List.take_length] at h1
  refine ⟨h1, ?_, h.lt⟩
  rw [← h1, List.length_take]
  have := h.lt
  have := h.len
  omega
/-- A row, or the first part of one. -/
def Jz (k : Nat) : List PV := List.replicate k (.agg (List.replicate 1 .junk))
theorem Jz_len (k : Nat) : (Jz k).length = k := List.length_replicate
theorem nfx_cut {F : List PV} (k : Nat) (h : nfx F) : nfx (F ++ Jz k) := fun x hx y hy => by
  rcases List.mem_append.1 hx with hx | hx
  · exact h x hx y hy
  · rw [List.eq_of_mem_replicate hx] at hy
    have : y = .junk := List.eq_of_mem_replicate (n := 1) hy
    rw [this]; rfl
theorem nfx_cutI (l : List Int) (k : Nat) : nfx (l.map (PV.int .i64) ++ Jz k) = True := eq_true (nfx_cut k (of_eq_true (nfx_int l .i64)))
def Cut (F : List PV) (r : PV) (m : Hp) : Prop := (r = .row 64 F.length ∧ m = [(64, .row ⟨1, 0⟩ F)]) ∨ ∃ (n z : Nat), r = .view 64 n 0 F.length ∧ (F.length < n ∧ n ≤ 1048576) ∧ n = F.length + z ∧ m = [(64, .row ⟨1, 0⟩ (F ++ Jz z))]
def Cut0 (F : List PV) (n : Nat) (r : PV) (m : Hp) : Prop := (r = .row 0 n ∧ n = F.length ∧ m = [(0, .row ⟨1, 0⟩ F)]) ∨ ∃ z : Nat, r = .view 0 n 0 F.length ∧ F.length < n ∧ n = F.length + z ∧ m = [(0, .row ⟨1, 0⟩ (F ++ Jz z))]
theorem deleteB (L : List Int) (b : Int) (hl : L.length ≤ 1048576) : FnE Tryz.prog 89 [.row 0 L.length, .fn (.func 90) [.fel [.int .i64 b]]] [(0, .row ⟨1, 0⟩ (L.map (.int .i64)))] (Cut0 ((L.filter fun x => decide (b < x)).map (.int .i64)) L.length) := by
  have hI := indexB L b hl
  have hc := findI_cases (fun x : Int => decide (x ≤ b)) L 0
  generalize findI (fun x : Int => decide (x ≤ b)) L 0 = q at *
  refine fn_e tok (n := 42) (rs := [.tmp 4]) Tryz.func89 (by decide) rfl rfl rfl rfl (low_of rfl) ?_
  refine Wr.go ?_
  repeat' ((first | (have ee := True.intro; refine Wr.mk ?_) | ((first | refine br_go ?_ ?_ | refine pick_go ?_ ?_) <;> intro ee f <;> (try simp only [BB] at f) <;> (try simp only [numOk, verOk] at f)) | (have ee := True.intro; first | (refine call_hx [] [0] (hI) (by decide) ?_ rfl ?_; (focus (first | rfl | (simp (maxSteps := 1000000) (disch := first | omega | (simp only [LN, numOk, verOk, rfP, rvP, rhP, frP, bkd] <;> omega) | exact Ck.mk rfl) only [VC, T, Nat.reduceMul, Nat.reduceAdd, Nat.reduceSub, Nat.reduceLT, Nat.reduceEqDiff, Nat.reduceLeDiff, Nat.reduceBEq, reduceCtorEq, Int.reduceToNat, ↓reduceIte, rfP, rvP, rhP, frP, bkd]; done)))))) <;> (try simp (maxSteps := 1000000) (disch := first | omega | (simp only [LN, numOk, verOk, rfP, rvP, rhP, frP, bkd] <;> omega) | exact Ck.mk rfl) only [ee, VC, T, Nat.reduceMul, Nat.reduceAdd, Nat.reduceSub, Nat.reduceLT, Nat.reduceEqDiff, Nat.reduceLeDiff, Nat.reduceBEq, reduceCtorEq, Int.reduceToNat, ↓reduceIte, rfP, rvP, rhP, frP, bkd]) <;> (try clear ee))
  · have e : L.filter (fun x => decide (b < x)) = L := by
      rw [List.filter_eq_self]
      intro x hx
      rcases hc with ⟨_, h2⟩ | ⟨k, h1, _⟩
      · have := h2 x hx
        rw [decide_eq_false_iff_not] at this
        exact decide_eq_true (by omega)
      · omega
    rw [e]
    exact fin_t [] (.inl ⟨rfl, by rw [List.length_map], rfl⟩) rfl (by simp [RV, RV2, RVl, RV1, tau, tget, hget, data1, oneOf]) (by simp [RH, RVl, RV1, tau, hget, data1]) (by simp [Taus, hget])
  · obtain ⟨k, hk1, hk2, hk3, hk4⟩ : ∃ k : Nat, q = (k : Int) ∧ k < L.length ∧ decide (L.getD k default ≤ b) = true ∧ ∀ j, j < k → decide (L.getD j default ≤ b) = false := by
      rcases hc with ⟨h1, _⟩ | ⟨k, h1, h2, h3, h4⟩
      · exact absurd h1 f
      · exact ⟨k, by simpa using h1, h2, h3, h4⟩
    subst hk1
    have hp : ∀ x : Int, decide (b < x) = !decide (x ≤ b) := fun x => by
      by_cases h : x ≤ b
      · rw [decide_eq_true h, decide_eq_false (by omega)]; rfl
      · rw [decide_eq_false h, decide_eq_true (by omega)]; rfl
    have h0 : Kept (fun x => decide (b < x)) L L k (k + 1) := Kept.first hk2 (fun j hj => by rw [hp, hk4 j hj]; rfl) (by rw [hp, hk3]; rfl)
    refine lp_go (fun x : List Int × Nat × Nat => ⟨42, [(0, .row 0 L.length), (1, .fn (.func 90) [.fel [.int .i64 b]]), (5, .int .i64 x.2.1), (6, .int .i64 x.2.2)], [(0, .row ⟨1, 0⟩ (x.1.map (.int .i64)))]⟩) (fun x => Kept (fun x => decide (b < x)) L x.1 x.2.1 x.2.2) (fun x => L.length - x.2.2) (L, k, k + 1) ?_ h0 ?_
    · (simp (disch := first | omega | (simp only [LN, numOk, verOk] <;> omega) | exact Ck.mk rfl) only [SB, EQ, Nat.reduceMul, Nat.reduceAdd, Nat.reduceSub, Nat.reduceLT, Nat.reduceEqDiff, Nat.reduceLeDiff, Nat.reduceBEq, reduceCtorEq, Int.reduceToNat, ↓reduceIte]; try omega)
    · rintro ⟨M, i, j⟩ hK N hN
      simp only at hK hN ⊢
      have hln := hK.len
      have hlt := hK.lt
      have hle := hK.le
      have hat := hK.at
      refine Wr.go ?_
      repeat' ((first | (have ee := True.intro; refine Wr.mk ?_) | ((first | refine br_go ?_ ?_ | refine pick_go ?_ ?_) <;> intro ee f <;> (try simp only [BB] at f) <;> (try simp only [numOk, verOk] at f)) | (have ee := True.intro; first | refine call_x (impl_BasesBehind_lit _ b) rfl ⟨rfl⟩ ?_)) <;> (try simp (maxSteps := 1000000) (disch := first | omega | (simp only [LN, numOk, verOk, rfP, rvP, rhP, frP, bkd, hln, hat] <;> omega) | exact Ck.mk rfl) only [ee, VC, T, Nat.reduceMul, Nat.reduceAdd, Nat.reduceSub, Nat.reduceLT, Nat.reduceEqDiff, Nat.reduceLeDiff, Nat.reduceBEq, reduceCtorEq, Int.reduceToNat, ↓reduceIte, rfP, rvP, rhP, frP, bkd, hln, hat]) <;> (try clear ee))
      · refine hN (M, i, j + 1) _ (hK.skip (by omega) (decide_eq_false (by omega))) (by simp only; omega) ?_
        (simp (disch := first | omega | (simp only [LN, numOk, verOk] <;> omega) | exact Ck.mk rfl) only [SB, EQ, Nat.reduceMul, Nat.reduceAdd, Nat.reduceSub, Nat.reduceLT, Nat.reduceEqDiff, Nat.reduceLeDiff, Nat.reduceBEq, reduceCtorEq, Int.reduceToNat, ↓reduceIte]; try omega)
      · refine hN (M.set i (L.getD j default), i + 1, j + 1) _ (hK.take (by omega) (decide_eq_true f)) (by simp only; omega) ?_
        (simp (disch := first | omega | (simp only [LN, numOk, verOk] <;> omega) | exact Ck.mk rfl) only [SB, EQ, Nat.reduceMul, Nat.reduceAdd, Nat.reduceSub, Nat.reduceLT, Nat.reduceEqDiff, Nat.reduceLeDiff, Nat.reduceBEq, reduceCtorEq, Int.reduceToNat, ↓reduceIte]; try omega)
      · obtain rfl : j = L.length := by omega
        obtain ⟨q1, q2, q3⟩ := hK.done
        have hd : M.drop L.length = [] := List.drop_eq_nil_of_le (by omega)
        rw [q1, hd]
        refine fin_t [] (.inr ⟨L.length - i, by rw [List.length_map, q2], by rw [List.length_map, q2]; exact q3, by rw [List.length_map, q2]; omega, rfl⟩) rfl ?_ ?_ ?_
        · simp [RV, RV2, RVl, RV1, tau, tget, hget, data1, oneOf]
        · simp [RH, RVl, RV1, tau, hget, data1, Jz]
        · simp [Taus, hget]
theorem impl_BasesBehind (d : Dk) (b : Int) (h : DkOk d) : FnE Tryz.prog 33 [dkP d, .int .i64 b] [] (Cut ((behindT d b).map (.int .i64))) := by
  have hC := impl_Chain_R d h
  have hl := chainT_length d
  unfold behindT
  generalize chainT d = L at *
  have hD := deleteB L b (by omega)
  generalize L.filter (fun x => decide (b < x)) = F at *
  unfold dkP at *
  refine fn_e tok (n := 9) (rs := [.tmp 4]) Tryz.func33 (by decide) rfl rfl rfl rfl (low_of rfl) ?_
  refine Wr.go ?_
  repeat' ((first | (have ee := True.intro; refine Wr.mk ?_) | ((first | refine br_go ?_ ?_ | refine pick_go ?_ ?_) <;> intro ee f <;> (try simp only [BB] at f) <;> (try simp only [numOk, verOk] at f)) | (have ee := True.intro; first | (refine call_h [] [] (hC) (by decide) rfl rfl ?_; rintro _ _ ⟨rfl, rfl⟩) | (refine call_h [448] [256] (hD) (by decide) ?_ rfl ?_; (focus (first | rfl | (simp (maxSteps := 1000000) (disch := first | omega | (simp only [LN, numOk, verOk, rfP, rvP, rhP, frP, bkd, nfx_cutI] <;> omega) | exact Ck.mk rfl) only [VC, T, Nat.reduceMul, Nat.reduceAdd, Nat.reduceSub, Nat.reduceLT, Nat.reduceEqDiff, Nat.reduceLeDiff, Nat.reduceBEq, reduceCtorEq, Int.reduceToNat, ↓reduceIte, rfP, rvP, rhP, frP, bkd, nfx_cutI]; done))); rintro _ _ (⟨rfl, h1, rfl⟩ | ⟨z, rfl, h1, h2, rfl⟩)))) <;> (try simp (maxSteps := 1000000) (disch := first | omega | (simp only [LN, numOk, verOk, rfP, rvP, rhP, frP, bkd, nfx_cutI] <;> omega) | exact Ck.mk rfl) only [ee, VC, T, Nat.reduceMul, Nat.reduceAdd, Nat.reduceSub, Nat.reduceLT, Nat.reduceEqDiff, Nat.reduceLeDiff, Nat.reduceBEq, reduceCtorEq, Int.reduceToNat, ↓reduceIte, rfP, rvP, rhP, frP, bkd, nfx_cutI]) <;> (try clear ee))
  · have h3 := h1
    rw [List.length_map] at h3
    refine ⟨by omega, ?_⟩
    rw [h1]
    exact fin_t [some 448] (.inl ⟨rfl, rfl⟩) rfl (by simp [RV, RV2, RVl, RV1, tau, tget, hget, data1, oneOf]) (by simp [RH, RVl, RV1, tau, hget, data1]) (by simp [Taus, hget])
  · have h3 := h2
    rw [List.length_map] at h3
    refine Wr.go ?_
    repeat' ((first | (have ee := True.intro; refine Wr.mk ?_) | ((first | refine br_go ?_ ?_ | refine pick_go ?_ ?_) <;> intro ee f <;> (try simp only [BB] at f) <;> (try simp only [numOk, verOk] at f))) <;> (try simp (maxSteps := 1000000) (disch := first | omega | (simp only [LN, numOk, verOk, rfP, rvP, rhP, frP, bkd, nfx_cutI, Jz_len] <;> omega) | exact Ck.mk rfl) only [ee, VC, T, Nat.reduceMul, Nat.reduceAdd, Nat.reduceSub, Nat.reduceLT, Nat.reduceEqDiff, Nat.reduceLeDiff, Nat.reduceBEq, reduceCtorEq, Int.reduceToNat, ↓reduceIte, rfP, rvP, rhP, frP, bkd, nfx_cutI, Jz_len]) <;> (try clear ee))
    try refine ⟨by omega, ?_⟩
    refine fin_t [some 448] (.inr ⟨_, z, rfl, ⟨h1, by omega⟩, h2, rfl⟩) rfl ?_ ?_ ?_
    · simp [RV, RV2, RVl, RV1, tau, tget, hget, data1, oneOf]
    · simp [RH, RVl, RV1, tau, hget, data1]
    · simp [Taus, hget]
theorem filt_snoc {α : Type} [Inhabited α] (p : α → Bool) (L : List α) (i : Nat) (h : i < L.length) : (L.take (i + 1)).filter p = (L.take i).filter p ++ if p (L.getD i default) = true then [L.getD i default] else [] := by
  rw [take_snoc default L i h, List.filter_append]
  congr 1
  show List.filter p [rdOf default L i] = _
  have : rdOf default L (i : Int) = L.getD i default := rfl
  rw [this]
  cases hp : p (L.getD i default)
  · rw [List.filter_cons_of_neg (by rw [hp]; decide)]; rfl
  · rw [List.filter_cons_of_pos hp]; rfl
theorem spec_BasesBehind (d : Dk) (b : Int) (h : DkOk d) : Fn Tryz.prog 44 [dkP d, .int .i64 b] [] (.far ((behindT d b).map (.int .i64))) [] := by
  have hL := spec_Chain d h
  have hlen := chainT_length d
  unfold behindT
  generalize chainT d = L at *
  obtain ⟨ns, es, os, ss, r, x⟩ := d
  unfold dkP at *
  refine fn_x tok (n := 31) (rs := [.tmp 4]) Tryz.func44 (by decide) rfl rfl rfl rfl ?_
  refine Wr.go ?_
  repeat' ((first | (have ee := True.intro; refine Wr.mk ?_) | ((first | refine br_go ?_ ?_ | refine pick_go ?_ ?_) <;> intro ee f <;> (try simp only [BB] at f) <;> (try simp only [numOk, verOk] at f)) | (have ee := True.intro; first | refine call_x (hL) rfl ⟨rfl⟩ ?_)) <;> (try simp (maxSteps := 1000000) (disch := first | omega | (simp only [LN, numOk, verOk, rfP, rvP, rhP, frP, bkd] <;> omega) | exact Ck.mk rfl) only [ee, VC, T, Nat.reduceMul, Nat.reduceAdd, Nat.reduceSub, Nat.reduceLT, Nat.reduceEqDiff, Nat.reduceLeDiff, Nat.reduceBEq, reduceCtorEq, Int.reduceToNat, ↓reduceIte, rfP, rvP, rhP, frP, bkd]) <;> (try clear ee))
  refine lp_go (fun i : Nat => ⟨31, [(1, .int .i64 b), (5, .row 576 ((L.take i).filter fun x => decide (b < x)).length), (6, .far (L.map (.int .i64))), (7, .int .i64 i)], [(576, .row ⟨1, 0⟩ (((L.take i).filter fun x => decide (b < x)).map (.int .i64)))]⟩) (fun i => i ≤ L.length) (fun i => L.length - i) 0 ?_ (Nat.zero_le _) ?_
  · (simp (disch := first | omega | (simp only [LN, numOk, verOk] <;> omega) | exact Ck.mk rfl) only [SB, EQ, Nat.reduceMul, Nat.reduceAdd, Nat.reduceSub, Nat.reduceLT, Nat.reduceEqDiff, Nat.reduceLeDiff, Nat.reduceBEq, reduceCtorEq, Int.reduceToNat, ↓reduceIte]; try omega)
    exact ⟨rfl, rfl⟩
  · intro i hi N hN
    have hsn := filt_snoc (fun x => decide (b < x)) L i
    have hfl : ((L.take i).filter fun x => decide (b < x)).length ≤ 16 := by
      have := List.length_filter_le (fun x => decide (b < x)) (L.take i)
      rw [List.length_take] at this
      omega
    generalize hM : (L.take i).filter (fun x => decide (b < x)) = M at *
    refine Wr.go ?_
    repeat' ((first | (have ee := True.intro; refine Wr.mk ?_) | ((first | refine br_go ?_ ?_ | refine pick_go ?_ ?_) <;> intro ee f <;> (try simp only [BB] at f) <;> (try simp only [numOk, verOk] at f))) <;> (try simp (maxSteps := 1000000) (disch := first | omega | (simp only [LN, numOk, verOk, rfP, rvP, rhP, frP, bkd] <;> omega) | exact Ck.mk rfl) only [ee, VC, T, Nat.reduceMul, Nat.reduceAdd, Nat.reduceSub, Nat.reduceLT, Nat.reduceEqDiff, Nat.reduceLeDiff, Nat.reduceBEq, reduceCtorEq, Int.reduceToNat, ↓reduceIte, rfP, rvP, rhP, frP, bkd]) <;> (try clear ee))
    · refine hN (i + 1) _ (by omega) (by omega) ?_
      rw [hsn (by omega), if_pos (decide_eq_true f)]
      (simp (disch := first | omega | (simp only [LN, numOk, verOk] <;> omega) | exact Ck.mk rfl) only [SB, EQ, Nat.reduceMul, Nat.reduceAdd, Nat.reduceSub, Nat.reduceLT, Nat.reduceEqDiff, Nat.reduceLeDiff, Nat.reduceBEq, reduceCtorEq, Int.reduceToNat, ↓reduceIte]; try omega)
    · refine hN (i + 1) _ (by omega) (by omega) ?_
      rw [hsn (by omega), if_neg (by rw [decide_eq_false (by omega)]; decide), List.append_nil]
      (simp (disch := first | omega | (simp only [LN, numOk, verOk] <;> omega) | exact Ck.mk rfl) only [SB, EQ, Nat.reduceMul, Nat.reduceAdd, Nat.reduceSub, Nat.reduceLT, Nat.reduceEqDiff, Nat.reduceLeDiff, Nat.reduceBEq, reduceCtorEq, Int.reduceToNat, ↓reduceIte]; try omega)
    · obtain rfl : i = L.length := by omega
      rw [List.take_length] at hM
      rw [hM]
end Go.Pv

/- What functions of the program and of the reference do, in plain values. -/
namespace Go.Pv
open Go.Proofs Go.Mth
set_option linter.unusedSimpArgs false
set_option linter.unusedVariables false
set_option maxHeartbeats 4000000
set_option maxRecDepth 4000

/-! ### laws of drawn disks: what they share -/
theorem u8_in {n : Int} (h : (Lit.int .u8 n).wf = true) : 0 ≤ n ∧ n ≤ 255 := by
  simp only [Lit.wf, Bool.and_eq_true, decide_eq_true_eq] at h
  exact h
def CodeOk (code : List Int) : Prop := code.length ≤ 9223372036854775807 ∧ ∀ a ∈ code, (Lit.int .u8 a).wf = true
theorem CodeOk.bytes {code : List Int} (h : CodeOk code) (hl : (code.length : Int) ≤ 1048576) : Bytes code := ⟨by omega, fun x hx => u8_in (h.2 x hx)⟩
theorem laws_bigD (code : List Int) (h : code.length ≤ 9223372036854775807) : Fn Tryz.prog 29 [.far (code.map (.int .u8))] [] (.bool (decide (1048576 < (code.length : Int)))) [] := by
  refine fn_x tok (n := 6) (rs := [.tmp 2]) Tryz.func29 (by decide) rfl rfl rfl rfl ?_
  refine Wr.go ?_
  repeat' ((first | (have ee := True.intro; refine Wr.mk ?_) | ((first | refine br_go ?_ ?_ | refine pick_go ?_ ?_) <;> intro ee f <;> (try simp only [BB] at f) <;> (try simp only [numOk, verOk] at f))) <;> (try simp (maxSteps := 1000000) (disch := first | omega | (simp only [LN, numOk, verOk, dkP, beq_self_eq_true, bkd] <;> omega) | exact Ck.mk rfl) only [ee, VC, T, Nat.reduceMul, Nat.reduceAdd, Nat.reduceSub, Nat.reduceLT, Nat.reduceEqDiff, Nat.reduceLeDiff, Nat.reduceBEq, reduceCtorEq, Int.reduceToNat, ↓reduceIte, dkP, beq_self_eq_true, bkd]) <;> (try clear ee))
theorem dk0_okk (t : ByteArray) (ht : t.size ≤ 1000) : DkOk (dk0 t) := by
  refine ⟨by show 1 ≤ 1048576; decide, by show 1 ≤ 1048576; decide, by show 0 ≤ 1048576; decide, by show 1 ≤ 1048576; decide, fun x hx => ?_, fun x hx => ?_, fun x hx => absurd hx (by simp [dk0]), fun x hx => ?_⟩ <;> simp only [dk0, List.mem_singleton] at hx <;> subst hx
  · simp only; omega
  · decide
  · decide
theorem create_nm0 : Fn Tryz.prog 36 [dkP (newT 500), .str ⟨#[115, 48, 48, 48, 48, 48, 48, 48, 48, 46, 115, 101, 103]⟩] [] (.tup [dkP (dk0 ⟨#[]⟩), .int .i64 0]) [] := by
  have k := spec_CreateFile (newT 500) nm0 (newT_B _ _ _) (by decide)
  rw [create0] at k
  exact k
theorem new500 : Fn Tryz.prog 37 [.int .i64 500] [] (dkP (newT 500)) [] := spec_DiskNew 500
end Go.Pv

/- What functions of the program and of the reference do, in plain values. -/
namespace Go.Pv
open Go.Proofs Go.Mth
set_option linter.unusedSimpArgs false
set_option linter.unusedVariables false
set_option maxHeartbeats 4000000
set_option maxRecDepth 4000

/-! ### laws of drawn disks: chains -/
set_option maxRecDepth 100000 in
theorem seal1_le : (sealT 1 1 0 0 [⟨#[97]⟩]).size ≤ 500 := by decide +kernel
set_option maxRecDepth 100000 in
theorem seal1_go : goOk (sealT 1 1 0 0 [⟨#[97]⟩]) 0 0 ∧ (recs (sealT 1 1 0 0 [⟨#[97]⟩])).length = 1 := by decide +kernel
theorem seal1 : Fn Tryz.prog 39 [.agg [.int .i64 1, .int .i64 1, .int .i64 0, .int .i64 0], .far [.str ⟨#[97]⟩]] [] (.str (sealT 1 1 0 0 [⟨#[97]⟩])) [] := spec_SealText 1 1 0 0 [⟨#[97]⟩] (by decide) (fun r hr => by rw [List.mem_singleton] at hr; subst hr; decide)
theorem append_nm0 (t : ByteArray) (h : t.size ≤ 500) : Fn Tryz.prog 38 [dkP (dk0 ⟨#[]⟩), .str ⟨#[115, 48, 48, 48, 48, 48, 48, 48, 48, 46, 115, 101, 103]⟩, .str t] [] (.tup [dkP (dk0 t), .int .i64 0]) [] := by
  have hB : DkB 1048575 1048576 (dk0 ⟨#[]⟩) := by
    have k := createT_B (newT_B 500 0 100) nm0 (by decide)
    rw [create0] at k
    exact k.mono (by decide) (by decide)
  have k := spec_AppendFile (dk0 ⟨#[]⟩) nm0 t hB (by omega)
  rw [append0 t h] at k
  exact k
theorem tkJ (xs : List Int) (z : Nat) : List.take xs.length (xs.map (PV.int .i64) ++ Jz z) = xs.map (.int .i64) := List.take_left' (List.length_map _)
theorem textsT_at (d : Dk) (i : Nat) (h : i < (chainT d).length) : (textsT d).getD i default = textT d ((chainT d).getD i default) := by
  unfold textsT
  rw [List.getD_eq_getElem?_getD, List.getElem?_map, List.getElem?_eq_getElem h, List.getD_eq_getElem?_getD, List.getElem?_eq_getElem h]; rfl
set_option maxRecDepth 20000 in
theorem law_FnChained (code : List Int) (hc : code.length ≤ 9223372036854775807 ∧ ∀ a ∈ code, (Lit.int .u8 a).wf = true) : Fn Tryz.prog 6 [.far (code.map (.int .u8))] [] (.bool true) [] := by
  have k1 := new500
  have k2 := create_nm0
  have k3 := seal1
  have k4 := append_nm0 _ seal1_le
  have ok0 := dk0_okk (sealT 1 1 0 0 [⟨#[97]⟩]) (Nat.le_trans seal1_le (by decide))
  have k5 := impl_ChainTexts _ ok0
  have k6 := impl_BasesBehind (dk0 (sealT 1 1 0 0 [⟨#[97]⟩])) (-1) ok0
  have c0 := chain0 _ seal1_go.1 seal1_go.2
  have e5 : (textsT (dk0 (sealT 1 1 0 0 [⟨#[97]⟩]))).length = 1 := by rw [textsT_len, c0]; rfl
  have e6 : (behindT (dk0 (sealT 1 1 0 0 [⟨#[97]⟩])) (-1)) = [0] := by unfold behindT; rw [c0]; rfl
  rw [e6] at k6
  generalize textsT (dk0 (sealT 1 1 0 0 [⟨#[97]⟩])) = W at *
  generalize dk0 (sealT 1 1 0 0 [⟨#[97]⟩]) = d7 at *
  generalize sealT 1 1 0 0 [⟨#[97]⟩] = st at *
  generalize newT 500 = d5 at *
  generalize dk0 ⟨#[]⟩ = d6 at *
  refine fn_x tok (n := 92) (rs := [.tmp 2]) Tryz.func6 (by decide) rfl rfl rfl rfl ?_
  refine Wr.go ?_
  repeat' ((first | (have ee := True.intro; refine Wr.mk ?_) | ((first | refine br_go ?_ ?_ | refine pick_go ?_ ?_) <;> intro ee f <;> (try simp only [BB] at f) <;> (try simp only [numOk, verOk] at f)) | (have ee := True.intro; first | refine call_x (laws_bigD _ hc.1) rfl ⟨rfl⟩ ?_)) <;> (try simp (maxSteps := 1000000) (disch := first | omega | (simp only [LN, numOk, verOk, dkP, beq_self_eq_true, bkd] <;> omega) | exact Ck.mk rfl) only [ee, VC, T, Nat.reduceMul, Nat.reduceAdd, Nat.reduceSub, Nat.reduceLT, Nat.reduceEqDiff, Nat.reduceLeDiff, Nat.reduceBEq, reduceCtorEq, Int.reduceToNat, ↓reduceIte, dkP, beq_self_eq_true, bkd]) <;> (try clear ee))
  refine call_v (DrawChainTexts code (CodeOk.bytes hc f)) rfl ?_
  rintro _ ⟨d, rfl, hd⟩
  refine ⟨⟨rfl⟩, ?_⟩
  have a1 := impl_ChainTexts d hd
  have a2 := spec_ChainTexts d hd
  have a3 := spec_Chain d hd
  have a4 := spec_RowOf d hd
  have hlen := chainT_length d
  have htl := textsT_len d
  have hat := textsT_at d
  have hrow : rowT d = flR d (chainT d) := rfl
  have hfl := fun L => flat_le d hd L
  have hle := textT_le hd
  rw [hrow] at a4
  generalize hTT : textsT d = TT at *
  generalize chainT d = C at *
  unfold dkP at *
  refine Wr.go ?_
  repeat' ((first | (have ee := True.intro; refine Wr.mk ?_) | ((first | refine br_go ?_ ?_ | refine pick_go ?_ ?_) <;> intro ee f <;> (try simp only [BB] at f) <;> (try simp only [numOk, verOk] at f)) | (have ee := True.intro; first | refine call_x (a1) rfl ⟨rfl⟩ ?_)) <;> (try simp (maxSteps := 1000000) (disch := first | omega | (simp only [LN, numOk, verOk, dkP, beq_self_eq_true, bkd] <;> omega) | exact Ck.mk rfl) only [ee, VC, T, Nat.reduceMul, Nat.reduceAdd, Nat.reduceSub, Nat.reduceLT, Nat.reduceEqDiff, Nat.reduceLeDiff, Nat.reduceBEq, reduceCtorEq, Int.reduceToNat, ↓reduceIte, dkP, beq_self_eq_true, bkd]) <;> (try clear ee))
  refine call_v (DrawBasesBehind code (CodeOk.bytes hc (by assumption))) rfl ?_
  rintro _ ⟨d2, b2, rfl, hd2, hb2⟩
  refine ⟨⟨rfl⟩, ?_⟩
  have b1 := impl_BasesBehind d2 b2 hd2
  have b3 := spec_BasesBehind d2 b2 hd2
  have hb3 : (behindT d2 b2).length ≤ 16 := Nat.le_trans (List.length_filter_le _ _) (chainT_length d2)
  generalize behindT d2 b2 = B at *
  unfold dkP at *
  refine Wr.go ?_
  repeat' ((first | (have ee := True.intro; refine Wr.mk ?_) | ((first | refine br_go ?_ ?_ | refine pick_go ?_ ?_) <;> intro ee f <;> (try simp only [BB] at f) <;> (try simp only [numOk, verOk] at f)) | (have ee := True.intro; first | (refine call_h [] [] (b1) (by decide) rfl rfl ?_; rintro _ _ (⟨rfl, rfl⟩ | ⟨n, z, rfl, hz1, hz2, rfl⟩)) | refine call_x (a3) rfl ⟨rfl⟩ ?_)) <;> (try simp (maxSteps := 1000000) (disch := first | omega | (simp only [LN, numOk, verOk, dkP, beq_self_eq_true, bkd, nfx_cutI, Jz_len] <;> omega) | exact Ck.mk rfl) only [ee, VC, T, Nat.reduceMul, Nat.reduceAdd, Nat.reduceSub, Nat.reduceLT, Nat.reduceEqDiff, Nat.reduceLeDiff, Nat.reduceBEq, reduceCtorEq, Int.reduceToNat, ↓reduceIte, dkP, beq_self_eq_true, bkd, nfx_cutI, Jz_len]) <;> (try clear ee))
  · refine lp_go (fun x : Nat => ⟨92, [(3, .ref 256 0), (4, .far (TT.map .str)), (5, .ref 384 0), (6, .int .i64 b2), (7, .row 1728 B.length), (8, .far (C.map (.int .i64))), (9, .row 1920 (flR d (C.take x)).length), (10, .int .i64 x)], [(256, .box 32 [.far (d.1.map ndP), .far (d.2.1.map enP), .far (d.2.2.1.map enP), .far (d.2.2.2.1.map .str), .int .i64 d.2.2.2.2.1, .int .i64 d.2.2.2.2.2]), (384, .box 32 [.far (d2.1.map ndP), .far (d2.2.1.map enP), .far (d2.2.2.1.map enP), .far (d2.2.2.2.1.map .str), .int .i64 d2.2.2.2.2.1, .int .i64 d2.2.2.2.2.2]), (1728, .row ⟨1, 0⟩ (B.map (.int .i64))), (1920, .row ⟨1, 0⟩ ((flR d (C.take x)).map .str))]⟩) (fun x => x ≤ C.length) (fun x => C.length - x) 0 ?_ (Nat.zero_le _) ?_
    · (simp (disch := first | omega | (simp only [LN, numOk, verOk] <;> omega) | exact Ck.mk rfl) only [SB, EQ, Nat.reduceMul, Nat.reduceAdd, Nat.reduceSub, Nat.reduceLT, Nat.reduceEqDiff, Nat.reduceLeDiff, Nat.reduceBEq, reduceCtorEq, Int.reduceToNat, ↓reduceIte]; try omega)
      all_goals (try exact ⟨rfl, rfl⟩)
      all_goals (try rfl)
    · intro x hx N hN
      have hfb : (flR d (C.take x)).length ≤ 16777216 := by
        have := (hfl (C.take x)).1
        rw [List.length_take] at this
        unfold flR
        omega
      by_cases hxl : x < C.length
      · have hat := hat x hxl
        have hsn := flR_snoc d C x hxl
        have hle := hle (C.getD x default)
        generalize textT d (C.getD x default) = t at *
        have hre := (recs_le t).1
        have hR : Fn Tryz.prog 35 [.str t] [] (.far ((recs t).map .str)) [] := spec_RecordsIn t (by omega)
        generalize flR d (C.take x) = M at *
        generalize recs t = R at *
        refine Wr.go ?_
        repeat' ((first | (have ee := True.intro; refine Wr.mk ?_) | ((first | refine br_go ?_ ?_ | refine pick_go ?_ ?_) <;> intro ee f <;> (try simp only [BB] at f) <;> (try simp only [numOk, verOk] at f)) | (have ee := True.intro; first | refine call_x (hR) rfl ⟨rfl⟩ ?_)) <;> (try simp (maxSteps := 1000000) (disch := first | omega | (simp only [LN, numOk, verOk, dkP, beq_self_eq_true, bkd, hat] <;> omega) | exact Ck.mk rfl) only [ee, VC, T, Nat.reduceMul, Nat.reduceAdd, Nat.reduceSub, Nat.reduceLT, Nat.reduceEqDiff, Nat.reduceLeDiff, Nat.reduceBEq, reduceCtorEq, Int.reduceToNat, ↓reduceIte, dkP, beq_self_eq_true, bkd, hat]) <;> (try clear ee))
        refine hN (x + 1) _ (by omega) (by omega) ?_
        rw [hsn]
        (simp (disch := first | omega | (simp only [LN, numOk, verOk, List.length_append] <;> omega) | exact Ck.mk rfl) only [SB, EQ, Nat.reduceMul, Nat.reduceAdd, Nat.reduceSub, Nat.reduceLT, Nat.reduceEqDiff, Nat.reduceLeDiff, Nat.reduceBEq, reduceCtorEq, Int.reduceToNat, ↓reduceIte, List.length_append]; try omega)
        all_goals (try exact List.map_append.symm)
      · obtain rfl : x = C.length := by omega
        rw [List.take_length] at *
        generalize flR d C = M at *
        refine Wr.go ?_
        repeat' ((first | (have ee := True.intro; refine Wr.mk ?_) | ((first | refine br_go ?_ ?_ | refine pick_go ?_ ?_) <;> intro ee f <;> (try simp only [BB] at f) <;> (try simp only [numOk, verOk] at f)) | (have ee := True.intro; first | refine dr_go mixed (id := 14) [([], [11], []), ([], [], []), ([], [], []), ([1, 2], [50, 51], []), ([0, 1, 2, 3], [49, 52], []), ([0, 1, 2, 3, 4], [53], []), ([0, 1, 2, 3, 4, 5], [48], []), ([0, 1, 2, 3, 4, 5], [48], [768]), ([0, 1, 2, 3, 4, 5, 6], [11, 54], [])] rfl rfl rfl ?_ | refine call_x (k1) rfl ⟨rfl⟩ ?_ | refine call_x (k2) rfl ⟨rfl⟩ ?_ | (refine call_hx [] [3328] (k3) (by decide) ?_ rfl ?_; (focus (first | rfl | (simp (maxSteps := 1000000) (disch := first | omega | (simp only [LN, numOk, verOk, dkP, beq_self_eq_true, bkd, nfx_cutI, tkJ, List.drop_zero, Jz_len, e5, htl] <;> omega) | exact Ck.mk rfl) only [VC, T, Nat.reduceMul, Nat.reduceAdd, Nat.reduceSub, Nat.reduceLT, Nat.reduceEqDiff, Nat.reduceLeDiff, Nat.reduceBEq, reduceCtorEq, Int.reduceToNat, ↓reduceIte, dkP, beq_self_eq_true, bkd, nfx_cutI, tkJ, List.drop_zero, Jz_len, e5, htl]; done)))) | refine call_x (k4) rfl ⟨rfl⟩ ?_ | refine call_x (a2) rfl ⟨rfl⟩ ?_ | refine call_x (laws_sameStr TT TT (by omega)) rfl ⟨rfl⟩ ?_ | refine call_x (a4) rfl ⟨rfl⟩ ?_ | (refine call_hx [] [1920] (laws_sameStr M M (by omega)) (by decide) ?_ rfl ?_; (focus (first | rfl | (simp (maxSteps := 1000000) (disch := first | omega | (simp only [LN, numOk, verOk, dkP, beq_self_eq_true, bkd, nfx_cutI, tkJ, List.drop_zero, Jz_len, e5, htl] <;> omega) | exact Ck.mk rfl) only [VC, T, Nat.reduceMul, Nat.reduceAdd, Nat.reduceSub, Nat.reduceLT, Nat.reduceEqDiff, Nat.reduceLeDiff, Nat.reduceBEq, reduceCtorEq, Int.reduceToNat, ↓reduceIte, dkP, beq_self_eq_true, bkd, nfx_cutI, tkJ, List.drop_zero, Jz_len, e5, htl]; done)))) | refine call_x (b3) rfl ⟨rfl⟩ ?_ | (refine call_hx [] [1728] (laws_sameInt B B (by omega)) (by decide) ?_ rfl ?_; (focus (first | rfl | (simp (maxSteps := 1000000) (disch := first | omega | (simp only [LN, numOk, verOk, dkP, beq_self_eq_true, bkd, nfx_cutI, tkJ, List.drop_zero, Jz_len, e5, htl] <;> omega) | exact Ck.mk rfl) only [VC, T, Nat.reduceMul, Nat.reduceAdd, Nat.reduceSub, Nat.reduceLT, Nat.reduceEqDiff, Nat.reduceLeDiff, Nat.reduceBEq, reduceCtorEq, Int.reduceToNat, ↓reduceIte, dkP, beq_self_eq_true, bkd, nfx_cutI, tkJ, List.drop_zero, Jz_len, e5, htl]; done)))) | refine call_x (k5) rfl ⟨rfl⟩ ?_ | (refine call_h [] [] (k6) (by decide) rfl rfl ?_; rintro _ _ (⟨rfl, rfl⟩ | ⟨n', z', rfl, hz3, hz4, rfl⟩)))) <;> (try simp (maxSteps := 1000000) (disch := first | omega | (simp only [LN, numOk, verOk, dkP, beq_self_eq_true, bkd, nfx_cutI, tkJ, List.drop_zero, Jz_len, e5, htl] <;> omega) | exact Ck.mk rfl) only [ee, VC, T, Nat.reduceMul, Nat.reduceAdd, Nat.reduceSub, Nat.reduceLT, Nat.reduceEqDiff, Nat.reduceLeDiff, Nat.reduceBEq, reduceCtorEq, Int.reduceToNat, ↓reduceIte, dkP, beq_self_eq_true, bkd, nfx_cutI, tkJ, List.drop_zero, Jz_len, e5, htl]) <;> (try clear ee))
        · simp
        · simp only [List.length_map, List.length_cons, List.length_nil] at hz4
          have hl4 : ∀ y : PV, (y :: Jz z').length = z' + 1 := fun y => by rw [List.length_cons, Jz_len]
          subst hz4
          refine Wr.go ?_
          repeat' ((first | (have ee := True.intro; refine Wr.mk ?_) | ((first | refine br_go ?_ ?_ | refine pick_go ?_ ?_) <;> intro ee f <;> (try simp only [BB] at f) <;> (try simp only [numOk, verOk] at f))) <;> (try simp (maxSteps := 1000000) (disch := first | omega | (simp only [LN, numOk, verOk, dkP, beq_self_eq_true, bkd, nfx_cutI, List.drop_zero, hl4] <;> omega) | exact Ck.mk rfl) only [ee, VC, T, Nat.reduceMul, Nat.reduceAdd, Nat.reduceSub, Nat.reduceLT, Nat.reduceEqDiff, Nat.reduceLeDiff, Nat.reduceBEq, reduceCtorEq, Int.reduceToNat, ↓reduceIte, dkP, beq_self_eq_true, bkd, nfx_cutI, List.drop_zero, hl4]) <;> (try clear ee))
          all_goals simp
  · rw [List.length_map] at hz1 hz2
    subst hz2
    refine Wr.go ?_
    repeat' ((first | (have ee := True.intro; refine Wr.mk ?_) | ((first | refine br_go ?_ ?_ | refine pick_go ?_ ?_) <;> intro ee f <;> (try simp only [BB] at f) <;> (try simp only [numOk, verOk] at f)) | (have ee := True.intro; first | refine call_x (a3) rfl ⟨rfl⟩ ?_)) <;> (try simp (maxSteps := 1000000) (disch := first | omega | (simp only [LN, numOk, verOk, dkP, beq_self_eq_true, bkd, nfx_cutI, Jz_len] <;> omega) | exact Ck.mk rfl) only [ee, VC, T, Nat.reduceMul, Nat.reduceAdd, Nat.reduceSub, Nat.reduceLT, Nat.reduceEqDiff, Nat.reduceLeDiff, Nat.reduceBEq, reduceCtorEq, Int.reduceToNat, ↓reduceIte, dkP, beq_self_eq_true, bkd, nfx_cutI, Jz_len]) <;> (try clear ee))
    refine lp_go (fun x : Nat => ⟨92, [(3, .ref 256 0), (4, .far (TT.map .str)), (5, .ref 384 0), (6, .int .i64 b2), (7, .view 1728 (B.length + z) 0 B.length), (8, .far (C.map (.int .i64))), (9, .row 1920 (flR d (C.take x)).length), (10, .int .i64 x)], [(256, .box 32 [.far (d.1.map ndP), .far (d.2.1.map enP), .far (d.2.2.1.map enP), .far (d.2.2.2.1.map .str), .int .i64 d.2.2.2.2.1, .int .i64 d.2.2.2.2.2]), (384, .box 32 [.far (d2.1.map ndP), .far (d2.2.1.map enP), .far (d2.2.2.1.map enP), .far (d2.2.2.2.1.map .str), .int .i64 d2.2.2.2.2.1, .int .i64 d2.2.2.2.2.2]), (1728, .row ⟨1, 0⟩ (B.map (.int .i64) ++ Jz z)), (1920, .row ⟨1, 0⟩ ((flR d (C.take x)).map .str))]⟩) (fun x => x ≤ C.length) (fun x => C.length - x) 0 ?_ (Nat.zero_le _) ?_
    · (simp (disch := first | omega | (simp only [LN, numOk, verOk] <;> omega) | exact Ck.mk rfl) only [SB, EQ, Nat.reduceMul, Nat.reduceAdd, Nat.reduceSub, Nat.reduceLT, Nat.reduceEqDiff, Nat.reduceLeDiff, Nat.reduceBEq, reduceCtorEq, Int.reduceToNat, ↓reduceIte]; try omega)
      all_goals (try exact ⟨rfl, rfl⟩)
      all_goals (try rfl)
    · intro x hx N hN
      have hfb : (flR d (C.take x)).length ≤ 16777216 := by
        have := (hfl (C.take x)).1
        rw [List.length_take] at this
        unfold flR
        omega
      by_cases hxl : x < C.length
      · have hat := hat x hxl
        have hsn := flR_snoc d C x hxl
        have hle := hle (C.getD x default)
        generalize textT d (C.getD x default) = t at *
        have hre := (recs_le t).1
        have hR : Fn Tryz.prog 35 [.str t] [] (.far ((recs t).map .str)) [] := spec_RecordsIn t (by omega)
        generalize flR d (C.take x) = M at *
        generalize recs t = R at *
        refine Wr.go ?_
        repeat' ((first | (have ee := True.intro; refine Wr.mk ?_) | ((first | refine br_go ?_ ?_ | refine pick_go ?_ ?_) <;> intro ee f <;> (try simp only [BB] at f) <;> (try simp only [numOk, verOk] at f)) | (have ee := True.intro; first | refine call_x (hR) rfl ⟨rfl⟩ ?_)) <;> (try simp (maxSteps := 1000000) (disch := first | omega | (simp only [LN, numOk, verOk, dkP, beq_self_eq_true, bkd, hat] <;> omega) | exact Ck.mk rfl) only [ee, VC, T, Nat.reduceMul, Nat.reduceAdd, Nat.reduceSub, Nat.reduceLT, Nat.reduceEqDiff, Nat.reduceLeDiff, Nat.reduceBEq, reduceCtorEq, Int.reduceToNat, ↓reduceIte, dkP, beq_self_eq_true, bkd, hat]) <;> (try clear ee))
        refine hN (x + 1) _ (by omega) (by omega) ?_
        rw [hsn]
        (simp (disch := first | omega | (simp only [LN, numOk, verOk, List.length_append] <;> omega) | exact Ck.mk rfl) only [SB, EQ, Nat.reduceMul, Nat.reduceAdd, Nat.reduceSub, Nat.reduceLT, Nat.reduceEqDiff, Nat.reduceLeDiff, Nat.reduceBEq, reduceCtorEq, Int.reduceToNat, ↓reduceIte, List.length_append]; try omega)
        all_goals (try exact List.map_append.symm)
      · obtain rfl : x = C.length := by omega
        rw [List.take_length] at *
        generalize flR d C = M at *
        refine Wr.go ?_
        repeat' ((first | (have ee := True.intro; refine Wr.mk ?_) | ((first | refine br_go ?_ ?_ | refine pick_go ?_ ?_) <;> intro ee f <;> (try simp only [BB] at f) <;> (try simp only [numOk, verOk] at f)) | (have ee := True.intro; first | refine dr_go mixed (id := 14) [([], [11], []), ([], [], []), ([], [], []), ([1, 2], [50, 51], []), ([0, 1, 2, 3], [49, 52], []), ([0, 1, 2, 3, 4], [53], []), ([0, 1, 2, 3, 4, 5], [48], []), ([0, 1, 2, 3, 4, 5], [48], [768]), ([0, 1, 2, 3, 4, 5, 6], [11, 54], [])] rfl rfl rfl ?_ | refine call_x (k1) rfl ⟨rfl⟩ ?_ | refine call_x (k2) rfl ⟨rfl⟩ ?_ | (refine call_hx [] [3328] (k3) (by decide) ?_ rfl ?_; (focus (first | rfl | (simp (maxSteps := 1000000) (disch := first | omega | (simp only [LN, numOk, verOk, dkP, beq_self_eq_true, bkd, nfx_cutI, tkJ, List.drop_zero, Jz_len, e5, htl] <;> omega) | exact Ck.mk rfl) only [VC, T, Nat.reduceMul, Nat.reduceAdd, Nat.reduceSub, Nat.reduceLT, Nat.reduceEqDiff, Nat.reduceLeDiff, Nat.reduceBEq, reduceCtorEq, Int.reduceToNat, ↓reduceIte, dkP, beq_self_eq_true, bkd, nfx_cutI, tkJ, List.drop_zero, Jz_len, e5, htl]; done)))) | refine call_x (k4) rfl ⟨rfl⟩ ?_ | refine call_x (a2) rfl ⟨rfl⟩ ?_ | refine call_x (laws_sameStr TT TT (by omega)) rfl ⟨rfl⟩ ?_ | refine call_x (a4) rfl ⟨rfl⟩ ?_ | (refine call_hx [] [1920] (laws_sameStr M M (by omega)) (by decide) ?_ rfl ?_; (focus (first | rfl | (simp (maxSteps := 1000000) (disch := first | omega | (simp only [LN, numOk, verOk, dkP, beq_self_eq_true, bkd, nfx_cutI, tkJ, List.drop_zero, Jz_len, e5, htl] <;> omega) | exact Ck.mk rfl) only [VC, T, Nat.reduceMul, Nat.reduceAdd, Nat.reduceSub, Nat.reduceLT, Nat.reduceEqDiff, Nat.reduceLeDiff, Nat.reduceBEq, reduceCtorEq, Int.reduceToNat, ↓reduceIte, dkP, beq_self_eq_true, bkd, nfx_cutI, tkJ, List.drop_zero, Jz_len, e5, htl]; done)))) | refine call_x (b3) rfl ⟨rfl⟩ ?_ | (refine call_hx [] [1728] (laws_sameInt B B (by omega)) (by decide) ?_ rfl ?_; (focus (first | rfl | (simp (maxSteps := 1000000) (disch := first | omega | (simp only [LN, numOk, verOk, dkP, beq_self_eq_true, bkd, nfx_cutI, tkJ, List.drop_zero, Jz_len, e5, htl] <;> omega) | exact Ck.mk rfl) only [VC, T, Nat.reduceMul, Nat.reduceAdd, Nat.reduceSub, Nat.reduceLT, Nat.reduceEqDiff, Nat.reduceLeDiff, Nat.reduceBEq, reduceCtorEq, Int.reduceToNat, ↓reduceIte, dkP, beq_self_eq_true, bkd, nfx_cutI, tkJ, List.drop_zero, Jz_len, e5, htl]; done)))) | refine call_x (k5) rfl ⟨rfl⟩ ?_ | (refine call_h [] [] (k6) (by decide) rfl rfl ?_; rintro _ _ (⟨rfl, rfl⟩ | ⟨n', z', rfl, hz3, hz4, rfl⟩)))) <;> (try simp (maxSteps := 1000000) (disch := first | omega | (simp only [LN, numOk, verOk, dkP, beq_self_eq_true, bkd, nfx_cutI, tkJ, List.drop_zero, Jz_len, e5, htl] <;> omega) | exact Ck.mk rfl) only [ee, VC, T, Nat.reduceMul, Nat.reduceAdd, Nat.reduceSub, Nat.reduceLT, Nat.reduceEqDiff, Nat.reduceLeDiff, Nat.reduceBEq, reduceCtorEq, Int.reduceToNat, ↓reduceIte, dkP, beq_self_eq_true, bkd, nfx_cutI, tkJ, List.drop_zero, Jz_len, e5, htl]) <;> (try clear ee))
        · simp
        · simp only [List.length_map, List.length_cons, List.length_nil] at hz4
          have hl4 : ∀ y : PV, (y :: Jz z').length = z' + 1 := fun y => by rw [List.length_cons, Jz_len]
          subst hz4
          refine Wr.go ?_
          repeat' ((first | (have ee := True.intro; refine Wr.mk ?_) | ((first | refine br_go ?_ ?_ | refine pick_go ?_ ?_) <;> intro ee f <;> (try simp only [BB] at f) <;> (try simp only [numOk, verOk] at f))) <;> (try simp (maxSteps := 1000000) (disch := first | omega | (simp only [LN, numOk, verOk, dkP, beq_self_eq_true, bkd, nfx_cutI, List.drop_zero, hl4] <;> omega) | exact Ck.mk rfl) only [ee, VC, T, Nat.reduceMul, Nat.reduceAdd, Nat.reduceSub, Nat.reduceLT, Nat.reduceEqDiff, Nat.reduceLeDiff, Nat.reduceBEq, reduceCtorEq, Int.reduceToNat, ↓reduceIte, dkP, beq_self_eq_true, bkd, nfx_cutI, List.drop_zero, hl4]) <;> (try clear ee))
          all_goals simp
end Go.Pv

/- What a law's contract in plain values says of its walk. -/
namespace Go.Pv

variable {P : Program}
theorem kp_below {Γ : Nat → Value} {w w' : World} (h : Kp (Ow Γ []) w w') : Go.RowKit.Below w.heap.size w w' :=
  ⟨h.os, h.tape, h.output, h.size, fun k hk => h.block k hk fun ⟨_, l, _⟩ => l.elim⟩
/-- Nothing is handed over. -/
def No : Bl := fun _ => False
def Ga : Nat → Value := fun _ => .bool false
/-- The arguments of a law. -/
def Lay (w : World) (args : List PV) (vs : List Value) : Prop := vs.length = args.length ∧ ∀ (i : Nat) (x : PV) (v : Value), args[i]? = some x → vs[i]? = some v → DR w No x v
theorem lay_nil {w : World} : Lay w [] [] := ⟨rfl, fun _ _ _ h => by simp at h⟩
theorem lay_cons {w : World} {x : PV} {v : Value} {xs : List PV} {vs : List Value} (h : DR w No x v) (k : Lay w xs vs) : Lay w (x :: xs) (v :: vs) :=
  ⟨congrArg (· + 1) k.1, fun i y u h1 h2 => by
    cases i with
    | zero => simp at h1 h2; obtain rfl := h1; obtain rfl := h2; exact h
    | succ i => exact k.2 i y u (by simpa using h1) (by simpa using h2)⟩
theorem Fn.law {f : FuncId} {args : List PV} {vs : List Value} {w : World} {b : Bool} (h : Fn P f args [] (.bool b) []) (hg : Glo w No No) (hl : Lay w args vs) :
    Calls P f vs.toArray w fun e w' => e = .returned (.bool b) ∧ Go.RowKit.Below w.heap.size w w' := by
  have no : ∀ b, ¬ Av No Ga [] b := fun b hb => hb.elim id fun ⟨_, l, _⟩ => l
  refine (h.run w No Ga vs.toArray ⟨fun _ h => h.elim, fun g cs e => ⟨(hg g cs e).1, fun ⟨_, l, _⟩ => l, (hg g cs e).2.2⟩⟩ (by simpa using hl.1) (fun i x hx => ?_) (fun _ => trivial) fun _ _ _ l => l.elim).mono ?_
  · have hi : i < vs.length := by
      rw [hl.1]
      exact (List.getElem?_eq_some_iff.1 hx).1
    have e := hl.2 i x vs[i] hx (List.getElem?_eq_getElem hi)
    have g : vs.toArray.getD i undef = vs[i] := by simp [Array.getD, hi]
    rw [g]
    exact .data (e.step (fun _ _ _ => rfl) fun b _ hb => (no b hb).elim)
  · rintro e w' ⟨v, Γ', rfl, h1, h2, _⟩
    refine ⟨?_, kp_below h1⟩
    cases h2 with
    | data h => cases h; rfl
end Go.Pv

/- A law's arguments, opened: whole numbers, texts, slices and structs of them. -/
namespace Go.Pv
open Go.RowKit Go.WideShapes

section
variable {H : Type} {enc : TypeId × Value → H} {P : Program} {w : World} {α β : Type}

/-- What is read at type t, out of k cells, is 'f a', for an a of which R holds. -/
def Opn (enc : TypeId × Value → H) (P : Program) (w : World) (t : TypeId) (k : Nat) (f : α → PV) (R : α → Prop) : Prop :=
  ∀ (fuel : Nat) (cs : List Value) (d : DataW H × List MemPlace), DataW.trod enc P w 0 (fun _ => true) true fuel t cs = some d →
    cs.length = k ∧ ∃ a, R a ∧ (flat (f a)).length = k ∧ ∀ (j : Nat) (y : PV), (flat (f a))[j]? = some y → DR w No y (cs.getD j undef)
theorem one_dr {x : PV} {v : Value} (hx : flat x = [x]) (h : DR w No x v) : (flat x).length = 1 ∧ ∀ (j : Nat) (y : PV), (flat x)[j]? = some y → DR w No y ([v].getD j undef) := by
  rw [hx]
  refine ⟨rfl, fun j y hy => ?_⟩
  cases j with
  | zero => cases hy; exact h
  | succ j => simp at hy
theorem opn_int {t : TypeId} {k : IntKind} (ht : P.underlying t = some (.int k)) : Opn enc P w t 1 (PV.int k) (fun n => (Lit.int k n).wf = true) := fun fuel cs d h => by
  obtain ⟨n, rfl, _, hw⟩ := DataW.trod_int ht h
  exact ⟨rfl, n, hw, one_dr rfl (.int k n)⟩
theorem all_list {Q : Nat → α → Prop} : ∀ (n : Nat), (∀ i, i < n → ∃ a, Q i a) → ∃ l : List α, l.length = n ∧ ∀ i a, l[i]? = some a → Q i a
  | 0, _ => ⟨[], rfl, fun i a h => by simp at h⟩
  | n + 1, h => by
    obtain ⟨l, h1, h2⟩ := all_list n fun i hi => h i (by omega)
    obtain ⟨a, ha⟩ := h n (by omega)
    refine ⟨l ++ [a], by simp [h1], fun i x hx => ?_⟩
    by_cases hi : i < l.length
    · rw [List.getElem?_append_left hi] at hx; exact h2 i x hx
    · rw [List.getElem?_append_right (by omega)] at hx
      by_cases e : i = l.length
      · subst e; rw [Nat.sub_self] at hx; cases hx; rw [h1]; exact ha
      · rw [show i - l.length = (i - l.length - 1) + 1 by omega] at hx; simp at hx
theorem opn_slice {t e : TypeId} {k : Nat} {f : α → PV} {R : α → Prop} (ht : P.underlying t = some (.slice e)) (hk : P.cellsOf e = k) (h0 : 0 < k) (he : Opn enc P w e k f R) :
    Opn enc P w t 1 (fun l : List α => .far (l.map f)) (fun l => l.length ≤ 9223372036854775807 ∧ ∀ a ∈ l, R a) := fun fuel cs d h => by
  rcases DataW.trod_slice ht h with ⟨rfl, _⟩ | ⟨a, len, cap, elems, rest, n, _, rfl, _, _, hl, hm, hlen, hel, _, _⟩
  · exact ⟨rfl, [], ⟨by simp, by simp⟩, one_dr rfl (.far0 _ _)⟩
  · refine ⟨rfl, ?_⟩
    rw [hk] at hel
    have each : ∀ i, i < len → ∃ x, R x ∧ (flat (f x)).length = k ∧ ∀ (j : Nat) (y : PV), (flat (f x))[j]? = some y → ∃ v, w.cell? ((a.add (i * k)).add j) = some v ∧ DR w No y v := fun i hi => by
      have h1 := hel i hi
      rw [List.getElem?_eq_getElem (by omega), Option.bind_eq_some_iff] at h1
      obtain ⟨cs, h2, h3⟩ := h1
      obtain ⟨h4, x, h5, h6, h7⟩ := he _ _ _ h3
      refine ⟨x, h5, h6, fun j y hy => ?_⟩
      have hj : j < k := by rw [← h6]; exact (List.getElem?_eq_some_iff.1 hy).1
      unfold World.cells? at h2
      rw [if_pos (Nat.zero_le _)] at h2
      have h8 := mapM_some_get h2 j j (by simp [hj])
      rw [List.getElem?_eq_getElem (by omega)] at h8
      refine ⟨_, h8, ?_⟩
      have := h7 j y hy
      rw [List.getD_eq_getElem?_getD, List.getElem?_eq_getElem (by omega)] at this
      exact this
    obtain ⟨l, h1, h2⟩ := all_list len each
    refine ⟨l, ⟨by rw [h1]; exact Nat.le_trans hl hm, fun x hx => ?_⟩, one_dr rfl ?_⟩
    · obtain ⟨i, hi⟩ := List.getElem?_of_mem hx
      exact (h2 i x hi).1
    · by_cases hz : len = 0
      · obtain rfl : l = [] := List.eq_nil_of_length_eq_zero (by omega)
        subst hz
        exact .far0 _ _
      · obtain ⟨β, o, spot⟩ := a
        have cell : ∀ (i : Nat) (x : α) (j : Nat) (y : PV), l[i]? = some x → (flat (f x))[j]? = some y → ∃ v, w.cell? ⟨β, o + i * k + j, if i * k = 0 ∧ j = 0 then spot else none⟩ = some v ∧ DR w No y v := fun i x j y hx hy => by
          obtain ⟨v, q1, q2⟩ := (h2 i x hx).2.2 j y hy
          refine ⟨v, ?_, q2⟩
          rw [← q1]
          unfold Addr.add
          by_cases e1 : i * k = 0 <;> by_cases e2 : j = 0 <;> simp [e1, e2]
        obtain ⟨x0, hx0⟩ : ∃ x, l[0]? = some x := ⟨l[0]'(by omega), List.getElem?_eq_getElem (by omega)⟩
        have hfl := (h2 0 x0 hx0).2.1
        obtain ⟨v, q1, _⟩ := cell 0 x0 0 ((flat (f x0))[0]'(by omega)) hx0 (List.getElem?_eq_getElem (by omega))
        simp only [Nat.zero_mul, true_and, and_self, if_true] at q1
        obtain ⟨c, t', fr, hw, hs⟩ : ∃ c t' fr, w.heap[β]? = some (.cells c t' fr) ∧ spot = none := by
          unfold World.cell? at q1
          split at q1
          · rename_i c t' fr hw
            refine ⟨c, t', fr, hw, ?_⟩
            cases spot with
            | none => rfl
            | some s => simp at q1
          · cases q1
        subst hs
        simp only [ite_self] at cell
        have cc : ∀ (i : Nat) (x : α) (j : Nat) (y : PV), l[i]? = some x → (flat (f x))[j]? = some y → o + i * k + j < c.size ∧ DR w No y (c.getD (o + i * k + j) undef) := fun i x j y hx hy => by
          obtain ⟨v, q1, q2⟩ := cell i x j y hx hy
          unfold World.cell? at q1
          simp only [hw] at q1
          have q3 := (Array.getElem?_eq_some_iff.1 (by simpa using q1 : c[o + i * k + j]? = some v)).1
          refine ⟨q3, ?_⟩
          have q4 : c[o + i * k + j]? = some v := by simpa using q1
          rw [Array.getD_eq_getD_getElem?, q4]
          exact q2
        have pick : ∀ (i : Nat) (x : PV), (l.map f)[i]? = some x → ∃ a, l[i]? = some a ∧ x = f a := fun i x hx => by
          rw [List.getElem?_map, Option.map_eq_some_iff] at hx
          obtain ⟨a, ha, rfl⟩ := hx
          exact ⟨a, ha, rfl⟩
        have key := DR.far (w := w) (A := No) (l.map f) β o cap k c t' fr (fun h => h) hw (by simpa [h1] using hl)
          (fun i x hx => by obtain ⟨a, ha, rfl⟩ := pick i x hx; exact (h2 i a ha).2.1)
          (fun i x j y hx hy => by obtain ⟨a, ha, rfl⟩ := pick i x hx; exact (cc i a j y ha hy).1)
          (fun i x j y hx hy => by obtain ⟨a, ha, rfl⟩ := pick i x hx; exact (cc i a j y ha hy).2)
        rw [List.length_map, h1] at key
        exact key
theorem arg_slice {t e : TypeId} {f : α → PV} {R : List α → Prop} {base : Nat} {v : Value} {d : DataW H} {ps : List MemPlace} (ht : P.underlying t = some (.slice e)) (h : Opn enc P w t 1 (fun l : List α => .far (l.map f)) R) (hval : Value.okWide P w .any base t v)
    (hd : DataW.Trod enc P w 0 (fun _ => true) true t v d ps) : ∃ l, R l ∧ DR w No (.far (l.map f)) v := by
  obtain ⟨a, len, cap, rfl⟩ := okWide_slice ht hval
  obtain ⟨fuel, hf⟩ := hd
  obtain ⟨h1, l, h2, h3, h4⟩ := h _ _ _ hf
  exact ⟨l, h2, h4 0 _ rfl⟩
end
end Go.Pv
