/- The texts of this claim, part 4: a small logic of plain values for the model's runs, what it says of the functions, in plain values. -/
import Derived.Shelf.LaysM
import Derived.Shelf.Strconv.Clone
import Derived.Shelf.Strconv.SyntaxError
import Derived.Shelf.LaysC
import Derived.Shelf.Strconv.ToError
import Derived.Test.YtbjolkepjbblcaaGreatDoorProg
import Derived.Shelf.Sort.Plain
import Derived.Shelf.Slices.In.SortNone
import Derived.Test.YtbjolkepjbblcaaGreatDoorPvF0
import Derived.Test.YtbjolkepjbblcaaGreatDoorPvF1
import Derived.Test.YtbjolkepjbblcaaGreatDoorPvF2
import Derived.Test.YtbjolkepjbblcaaGreatDoorPvF3
/- What functions of the program and of the reference do, in plain values. -/
namespace Go.Pv
open Go.Proofs Go.Mth
set_option linter.unusedSimpArgs false
set_option linter.unusedVariables false
set_option maxHeartbeats 4000000
set_option maxRecDepth 4000

/-! ### the reference's deeds on disks -/
theorem spec_RemoveFile_R (d : Dk) (n : ByteArray) (h : DkB 1048575 1048576 d) (hn : n.size ≤ 1048575) : FnE Tryz.prog 218 [dkP d, .str n] [] (fun r m => r = .tup [dkR 64 (removeT d n).1, .int .i64 (removeT d n).2] ∧ m = dkH (removeT d n).1) := by
  have ok := h.ok (by decide) (by decide)
  have hes := h.es
  have hc := spec_l05Copy_R d ok
  have hO := spec_DiskOk d ok
  have hH : Fn Tryz.prog 95 [.far (d.2.1.map enP), .str n] [] (.bool (decide (hasT d.2.1 n))) [] := spec_l06Has d.2.1 n (by omega)
  have hD := spec_l06Drop_R d.2.1 n (by omega)
  have e1 : ¬ diskOk d → removeT d n = (d, 3) := fun a => if_pos (.inl a)
  have e2 : ¬ hasT d.2.1 n → removeT d n = (d, 3) := fun a => if_pos (.inr a)
  have e3 : diskOk d → hasT d.2.1 n → removeT d n = (cleanT (d.1, dropT d.2.1 n, d.2.2.1, d.2.2.2.1 ++ [strOf [45] ++ n], d.2.2.2.2), 0) := fun a b => if_neg (by simp [a, b])
  have hcl := spec_l06Clean_R (d.1, dropT d.2.1 n, d.2.2.1, d.2.2.2.1 ++ [strOf [45] ++ n], d.2.2.2.2) ⟨ok.ns, Nat.le_trans (dropT_len _ _) ok.es, ok.os, by rw [List.length_append, List.length_singleton]; have := h.ss; omega, ok.nt, dropT_mem ok.et, ok.ot, mem_snoc ok.st (by simp only [ByteArray.size_append, strOf_size, List.length_singleton]; omega)⟩
  have hs0 : strOf [45] = ⟨#[45]⟩ := rfl
  rw [hs0] at hcl e3
  have hcc : ∀ x, (cleanT (d.1, x)) = ((cleanT (d.1, x)).1, x) := fun x => rfl
  have hss := h.ss
  have hns := h.ns
  have hos := h.os
  rw [hcc] at e3
  generalize (cleanT (d.1, dropT d.2.1 n, d.2.2.1, d.2.2.2.1 ++ [⟨#[45]⟩ ++ n], d.2.2.2.2)).1 = C at *
  have hq2 := hn
  generalize removeT d n = q at *
  have hdl := dropT_len d.2.1 n
  unfold dkP dkR dkH at *
  simp only [List.length_append, List.length_singleton] at hcl
  refine fn_e tok (n := 33) (rs := [.cell 4 32, .tmp 5]) Tryz.func218 (by decide) rfl rfl rfl rfl (low_of rfl) ?_
  refine Wr.go ?_
  repeat' ((first | (have ee := True.intro; refine Wr.mk ?_) | ((first | refine br_go ?_ ?_ | refine pick_go ?_ ?_) <;> intro ee f <;> (try simp only [BB] at f) <;> (try simp only [numOk, verOk] at f)) | (have ee := True.intro; first | (refine call_h [] [] (hc) (by decide) rfl rfl ?_; rintro _ _ ⟨rfl, rfl⟩) | (refine call_hx [] [512,513,514,515] (hO) (by decide) ?_ rfl ?_; (focus (first | rfl | (simp (maxSteps := 1000000) (disch := first | omega | (simp only [LN, numOk, verOk, rfP, rvP, rhP, frP, elOk_en, elOk_nd, nfx_en, nfx_nd] <;> omega) | exact Ck.mk rfl) only [VC, T, Nat.reduceMul, Nat.reduceAdd, Nat.reduceSub, Nat.reduceLT, Nat.reduceEqDiff, Nat.reduceLeDiff, Nat.reduceBEq, reduceCtorEq, Int.reduceToNat, ↓reduceIte, rfP, rvP, rhP, frP, elOk_en, elOk_nd, nfx_en, nfx_nd]; done)))) | (refine call_hx [] [513] (hH) (by decide) ?_ rfl ?_; (focus (first | rfl | (simp (maxSteps := 1000000) (disch := first | omega | (simp only [LN, numOk, verOk, rfP, rvP, rhP, frP, elOk_en, elOk_nd, nfx_en, nfx_nd] <;> omega) | exact Ck.mk rfl) only [VC, T, Nat.reduceMul, Nat.reduceAdd, Nat.reduceSub, Nat.reduceLT, Nat.reduceEqDiff, Nat.reduceLeDiff, Nat.reduceBEq, reduceCtorEq, Int.reduceToNat, ↓reduceIte, rfP, rvP, rhP, frP, elOk_en, elOk_nd, nfx_en, nfx_nd]; done)))) | (refine call_h [] [513] (hD) (by decide) ?_ rfl ?_; (focus (first | rfl | (simp (maxSteps := 1000000) (disch := first | omega | (simp only [LN, numOk, verOk, rfP, rvP, rhP, frP, elOk_en, elOk_nd, nfx_en, nfx_nd] <;> omega) | exact Ck.mk rfl) only [VC, T, Nat.reduceMul, Nat.reduceAdd, Nat.reduceSub, Nat.reduceLT, Nat.reduceEqDiff, Nat.reduceLeDiff, Nat.reduceBEq, reduceCtorEq, Int.reduceToNat, ↓reduceIte, rfP, rvP, rhP, frP, elOk_en, elOk_nd, nfx_en, nfx_nd]; done))); rintro _ _ ⟨rfl, rfl⟩) | (refine call_h [512,1472,514,515] [] (hcl) (by decide) rfl rfl ?_; rintro _ _ ⟨rfl, rfl⟩))) <;> (try simp (maxSteps := 1000000) (disch := first | omega | (simp only [LN, numOk, verOk, rfP, rvP, rhP, frP, elOk_en, elOk_nd, nfx_en, nfx_nd] <;> omega) | exact Ck.mk rfl) only [ee, VC, T, Nat.reduceMul, Nat.reduceAdd, Nat.reduceSub, Nat.reduceLT, Nat.reduceEqDiff, Nat.reduceLeDiff, Nat.reduceBEq, reduceCtorEq, Int.reduceToNat, ↓reduceIte, rfP, rvP, rhP, frP, elOk_en, elOk_nd, nfx_en, nfx_nd]) <;> (try clear ee))
  · cases e3 (by assumption) f
    exact fin_t [some 2112, some 1472, some 514, some 515] (⟨rfl, rfl⟩) rfl (by simp [RV, RV2, RVl, RV1, tau, tget, hget, data1, oneOf, List.length_append]) (by simp [RH, RVl, RV1, tau, hget, data1, List.length_append]) (by simp [Taus, hget, List.length_append])
  · cases e2 f
    exact fin_t [some 512, some 513, some 514, some 515] (⟨rfl, rfl⟩) rfl (by simp [RV, RV2, RVl, RV1, tau, tget, hget, data1, oneOf]) (by simp [RH, RVl, RV1, tau, hget, data1]) (by simp [Taus, hget])
  · cases e1 f
    exact fin_t [some 512, some 513, some 514, some 515] (⟨rfl, rfl⟩) rfl (by simp [RV, RV2, RVl, RV1, tau, tget, hget, data1, oneOf]) (by simp [RH, RVl, RV1, tau, hget, data1]) (by simp [Taus, hget])
theorem spec_RemoveFile (d : Dk) (n : ByteArray) (h : DkB 1048575 1048576 d) (hn : n.size ≤ 1048575) : Fn Tryz.prog 218 [dkP d, .str n] [] (.tup [dkP (removeT d n).1, .int .i64 (removeT d n).2]) [] := by
  obtain ⟨_, _, ⟨rfl, rfl⟩, k⟩ := spec_RemoveFile_R d n h hn
  refine k.far ?_
  simp [fz, fz2, fz1, cvtl, elems, dkR, dkH, dkP, hget, data1]
theorem spec_DiskNew_N (n : Int) : FnE Tryz.prog 37 [.int .i64 n] [] (fun r m => r = .agg [.nils, .nils, .nils, .nils, .int .i64 (if n < 0 then 0 else n), .int .i64 1] ∧ m = []) := by
  refine fn_e tok (n := 7) (rs := [.cell 2 32]) Tryz.func37 (by decide) rfl rfl rfl rfl (low_of rfl) ?_
  refine Wr.go ?_
  repeat' ((first | (have ee := True.intro; refine Wr.mk ?_) | ((first | refine br_go ?_ ?_ | refine pick_go ?_ ?_) <;> intro ee f <;> (try simp only [BB] at f) <;> (try simp only [numOk, verOk] at f))) <;> (try simp (maxSteps := 1000000) (disch := first | omega | (simp only [LN, numOk, verOk, rfP, rvP, rhP, frP, elOk_en, elOk_nd, nfx_en, nfx_nd] <;> omega) | exact Ck.mk rfl) only [ee, VC, T, Nat.reduceMul, Nat.reduceAdd, Nat.reduceSub, Nat.reduceLT, Nat.reduceEqDiff, Nat.reduceLeDiff, Nat.reduceBEq, reduceCtorEq, Int.reduceToNat, ↓reduceIte, rfP, rvP, rhP, frP, elOk_en, elOk_nd, nfx_en, nfx_nd]) <;> (try clear ee))
  · rw [if_pos f]
    exact fin_t [] (⟨rfl, rfl⟩) rfl (by simp [RV, RV2, RVl, RV1, tau, tget, hget, data1, oneOf]) (by simp [RH, RVl, RV1, tau, hget, data1]) (by simp [Taus, hget])
  · rw [if_neg (by omega)]
    exact fin_t [] (⟨rfl, rfl⟩) rfl (by simp [RV, RV2, RVl, RV1, tau, tget, hget, data1, oneOf]) (by simp [RH, RVl, RV1, tau, hget, data1]) (by simp [Taus, hget])
theorem spec_DiskNew (n : Int) : Fn Tryz.prog 37 [.int .i64 n] [] (dkP (newT n)) [] := by
  unfold newT dkP
  refine fn_x tok (n := 7) (rs := [.cell 2 32]) Tryz.func37 (by decide) rfl rfl rfl rfl ?_
  refine Wr.go ?_
  repeat' ((first | (have ee := True.intro; refine Wr.mk ?_) | ((first | refine br_go ?_ ?_ | refine pick_go ?_ ?_) <;> intro ee f <;> (try simp only [BB] at f) <;> (try simp only [numOk, verOk] at f))) <;> (try simp (maxSteps := 1000000) (disch := first | omega | (simp only [LN, numOk, verOk, rfP, rvP, rhP, frP, elOk_en, elOk_nd, nfx_en, nfx_nd] <;> omega) | exact Ck.mk rfl) only [ee, VC, T, Nat.reduceMul, Nat.reduceAdd, Nat.reduceSub, Nat.reduceLT, Nat.reduceEqDiff, Nat.reduceLeDiff, Nat.reduceBEq, reduceCtorEq, Int.reduceToNat, ↓reduceIte, rfP, rvP, rhP, frP, elOk_en, elOk_nd, nfx_en, nfx_nd]) <;> (try clear ee))
  · rw [if_pos f]
  · rw [if_neg (by omega)]
theorem usedT_nn (d : Dk) : 0 ≤ usedT d := by
  unfold usedT
  induction d.1 with
  | nil => exact Int.le_refl _
  | cons x r ih =>
    rw [List.map_cons, List.sum_cons]
    omega
theorem spec_CreateFile_R (d : Dk) (n : ByteArray) (h : DkB 1048575 1048576 d) (hn : n.size ≤ 1048576) : FnE Tryz.prog 36 [dkP d, .str n] [] (fun r m => r = .tup [dkR 64 (createT d n).1, .int .i64 (createT d n).2] ∧ m = dkH (createT d n).1) := by
  have ok := h.ok (by decide) (by decide)
  have hes := h.es
  have hss := h.ss
  have hns := h.ns
  have hos := h.os
  have hc := spec_l05Copy_R d ok
  have hO := spec_DiskOk d ok
  have hH : Fn Tryz.prog 95 [.far (d.2.1.map enP), .str n] [] (.bool (decide (hasT d.2.1 n))) [] := spec_l06Has d.2.1 n (by omega)
  have hN := spec_NameOk n (by omega)
  have hP : FnE Tryz.prog 96 [.far (d.2.1.map enP), .agg [.str n, .int .i64 d.2.2.2.2.2]] [] (fun r m => r = .row 64 (putT d.2.1 (n, d.2.2.2.2.2)).length ∧ m = [(64, .row ⟨2, 0⟩ ((putT d.2.1 (n, d.2.2.2.2.2)).map enP))]) := spec_l06Put_R d.2.1 (n, d.2.2.2.2.2) (by omega)
  have hpl := putT_len d.2.1 (n, d.2.2.2.2.2)
  have e1 : ¬ diskOk d → createT d n = (d, 3) := fun a => if_pos a
  have e2 : diskOk d → ¬ nmOk n → createT d n = (d, 1) := fun a b => by unfold createT; rw [if_neg (fun k => k a), if_pos b]
  have e3 : diskOk d → nmOk n → hasT d.2.1 n → createT d n = (d, 2) := fun a b c => by unfold createT; rw [if_neg (fun k => k a), if_neg (fun k => k b), if_pos c]
  have e4 : diskOk d → nmOk n → ¬ hasT d.2.1 n → (16 ≤ d.2.1.length ∨ 64 ≤ d.1.length ∨ 1000000000 ≤ d.2.2.2.2.2) → createT d n = (d, 4) := fun a b c e => by unfold createT; rw [if_neg (fun k => k a), if_neg (fun k => k b), if_neg c, if_pos e]
  have e5 : diskOk d → nmOk n → ¬ hasT d.2.1 n → ¬ (16 ≤ d.2.1.length ∨ 64 ≤ d.1.length ∨ 1000000000 ≤ d.2.2.2.2.2) → createT d n = (cleanT (d.1 ++ [(d.2.2.2.2.2, ⟨#[]⟩, 0)], putT d.2.1 (n, d.2.2.2.2.2), d.2.2.1, d.2.2.2.1 ++ [strOf [43] ++ n ++ strOf [58] ++ decT d.2.2.2.2.2], d.2.2.2.2.1, d.2.2.2.2.2 + 1), 0) := fun a b c e => by unfold createT; rw [if_neg (fun k => k a), if_neg (fun k => k b), if_neg c, if_neg e]
  have hrg : diskOk d → 1 ≤ d.2.2.2.2.2 ∧ d.2.2.2.2.2 ≤ 1000000000 := fun k => k.1.2.2.1
  have hcl : nmOk n → FnE Tryz.prog 98 _ _ _ := fun hnm => spec_l06Clean_R (d.1 ++ [(d.2.2.2.2.2, ⟨#[]⟩, 0)], putT d.2.1 (n, d.2.2.2.2.2), d.2.2.1, d.2.2.2.1 ++ [strOf [43] ++ n ++ strOf [58] ++ decT d.2.2.2.2.2], d.2.2.2.2.1, d.2.2.2.2.2 + 1) ⟨by simp only [List.length_append, List.length_singleton]; omega, by simp only; omega, ok.os, by simp only [List.length_append, List.length_singleton]; omega, mem_snoc ok.nt (Nat.zero_le _), putT_mem ok.et hn, ok.ot, mem_snoc ok.st (by have := decT_le d.2.2.2.2.2; have := hnm.2.2; simp only [ByteArray.size_append, strOf_size, List.length_singleton]; omega)⟩
  have hs0 : strOf [43] = ⟨#[43]⟩ := rfl
  have hs1 : strOf [58] = ⟨#[58]⟩ := rfl
  have hm1 : (d.1 ++ [((d.2.2.2.2.2, ⟨#[]⟩, 0) : Nd)]).map ndP = d.1.map ndP ++ [.agg [.int .i64 d.2.2.2.2.2, .str ByteArray.empty, .int .i64 0]] := by rw [List.map_append]; rfl
  rw [hs0, hs1] at hcl e5
  have hcc : ∀ x y, (cleanT (y, x)) = ((cleanT (y, x)).1, x) := fun x y => rfl
  rw [hcc] at e5
  generalize (cleanT (d.1 ++ [(d.2.2.2.2.2, ⟨#[]⟩, 0)], putT d.2.1 (n, d.2.2.2.2.2), d.2.2.1, d.2.2.2.1 ++ [⟨#[43]⟩ ++ n ++ ⟨#[58]⟩ ++ decT d.2.2.2.2.2], d.2.2.2.2.1, d.2.2.2.2.2 + 1)).1 = C at *
  generalize createT d n = q at *
  by_cases a1 : diskOk d
  · have hrg := hrg a1
    have e2 := e2 a1
    have e3 := e3 a1
    have e4 := e4 a1
    have e5 := e5 a1
    have hDc := spec_Decimal d.2.2.2.2.2 (by omega)
    rw [decide_eq_true a1] at hO
    by_cases a2 : nmOk n
    · have hcl := hcl a2
      have e3 := e3 a2
      have e4 := e4 a2
      have e5 := e5 a2
      have hn20 := a2.2.2
      rw [decide_eq_true a2] at hN
      unfold dkP dkR dkH at *
      simp only [hm1, List.length_append, List.length_singleton] at hcl
      have hDz := decT_le d.2.2.2.2.2
      generalize decT d.2.2.2.2.2 = D at *
      refine fn_e tok (n := 71) (rs := [.cell 4 32, .tmp 5]) Tryz.func36 (by decide) rfl rfl rfl rfl (low_of rfl) ?_
      refine Wr.go ?_
      repeat' ((first | (have ee := True.intro; refine Wr.mk ?_) | ((first | refine br_go ?_ ?_ | refine pick_go ?_ ?_) <;> intro ee f <;> (try simp only [BB] at f) <;> (try simp only [numOk, verOk] at f)) | (have ee := True.intro; first | refine dr_go mixed (id := 12) [([], [2], []), ([0], [53], []), ([], [1], []), ([2], [55], []), ([2, 3], [56], []), ([], [2], []), ([5], [58], []), ([5, 6], [59], []), ([2, 3, 4, 5, 6, 7], [57, 60], []), ([2, 3, 4, 5, 6, 7, 8], [61], []), ([0, 1, 2, 3, 4, 5, 6, 7, 8, 9], [54, 62], []), ([0, 1, 2, 3, 4, 5, 6, 7, 8, 9, 10], [2], []), ([0, 1, 2, 3, 4, 5, 6, 7, 8, 9, 10, 11], [63, 64], [])] rfl rfl rfl ?_ | (refine call_h [] [] (hc) (by decide) rfl rfl ?_; rintro _ _ ⟨rfl, rfl⟩) | (refine call_hx [] [512,513,514,515] (hO) (by decide) ?_ rfl ?_; (focus (first | rfl | (simp (maxSteps := 1000000) (disch := first | omega | (simp only [LN, numOk, verOk, rfP, rvP, rhP, frP, elOk_en, elOk_nd, nfx_en, nfx_nd] <;> omega) | exact Ck.mk rfl) only [VC, T, Nat.reduceMul, Nat.reduceAdd, Nat.reduceSub, Nat.reduceLT, Nat.reduceEqDiff, Nat.reduceLeDiff, Nat.reduceBEq, reduceCtorEq, Int.reduceToNat, ↓reduceIte, rfP, rvP, rhP, frP, elOk_en, elOk_nd, nfx_en, nfx_nd]; done)))) | refine call_x (hN) rfl ⟨rfl⟩ ?_ | (refine call_hx [] [513] (hH) (by decide) ?_ rfl ?_; (focus (first | rfl | (simp (maxSteps := 1000000) (disch := first | omega | (simp only [LN, numOk, verOk, rfP, rvP, rhP, frP, elOk_en, elOk_nd, nfx_en, nfx_nd] <;> omega) | exact Ck.mk rfl) only [VC, T, Nat.reduceMul, Nat.reduceAdd, Nat.reduceSub, Nat.reduceLT, Nat.reduceEqDiff, Nat.reduceLeDiff, Nat.reduceBEq, reduceCtorEq, Int.reduceToNat, ↓reduceIte, rfP, rvP, rhP, frP, elOk_en, elOk_nd, nfx_en, nfx_nd]; done)))) | (refine call_h [] [513] (hP) (by decide) ?_ rfl ?_; (focus (first | rfl | (simp (maxSteps := 1000000) (disch := first | omega | (simp only [LN, numOk, verOk, rfP, rvP, rhP, frP, elOk_en, elOk_nd, nfx_en, nfx_nd] <;> omega) | exact Ck.mk rfl) only [VC, T, Nat.reduceMul, Nat.reduceAdd, Nat.reduceSub, Nat.reduceLT, Nat.reduceEqDiff, Nat.reduceLeDiff, Nat.reduceBEq, reduceCtorEq, Int.reduceToNat, ↓reduceIte, rfP, rvP, rhP, frP, elOk_en, elOk_nd, nfx_en, nfx_nd]; done))); rintro _ _ ⟨rfl, rfl⟩) | refine call_x (hDc) rfl ⟨rfl⟩ ?_ | (refine call_h [512,3328,514,515] [] (hcl) (by decide) rfl rfl ?_; rintro _ _ ⟨rfl, rfl⟩))) <;> (try simp (maxSteps := 1000000) (disch := first | omega | (simp only [LN, numOk, verOk, rfP, rvP, rhP, frP, elOk_en, elOk_nd, nfx_en, nfx_nd] <;> omega) | exact Ck.mk rfl) only [ee, VC, T, Nat.reduceMul, Nat.reduceAdd, Nat.reduceSub, Nat.reduceLT, Nat.reduceEqDiff, Nat.reduceLeDiff, Nat.reduceBEq, reduceCtorEq, Int.reduceToNat, ↓reduceIte, rfP, rvP, rhP, frP, elOk_en, elOk_nd, nfx_en, nfx_nd]) <;> (try clear ee))
      · cases e3 f
        exact fin_t [some 512, some 513, some 514, some 515] (⟨rfl, rfl⟩) rfl (by simp [RV, RV2, RVl, RV1, tau, tget, hget, data1, oneOf]) (by simp [RH, RVl, RV1, tau, hget, data1]) (by simp [Taus, hget])
      · cases e4 (by assumption) (by omega)
        exact fin_t [some 512, some 513, some 514, some 515] (⟨rfl, rfl⟩) rfl (by simp [RV, RV2, RVl, RV1, tau, tget, hget, data1, oneOf]) (by simp [RH, RVl, RV1, tau, hget, data1]) (by simp [Taus, hget])
      · cases e4 (by assumption) (by omega)
        exact fin_t [some 512, some 513, some 514, some 515] (⟨rfl, rfl⟩) rfl (by simp [RV, RV2, RVl, RV1, tau, tget, hget, data1, oneOf]) (by simp [RH, RVl, RV1, tau, hget, data1]) (by simp [Taus, hget])
      · cases e4 (by assumption) (by omega)
        exact fin_t [some 512, some 513, some 514, some 515] (⟨rfl, rfl⟩) rfl (by simp [RV, RV2, RVl, RV1, tau, tget, hget, data1, oneOf]) (by simp [RH, RVl, RV1, tau, hget, data1]) (by simp [Taus, hget])
      · cases e5 (by assumption) (by omega)
        exact fin_t [some 4544, some 3328, some 514, some 515] (⟨rfl, rfl⟩) rfl (by simp [RV, RV2, RVl, RV1, tau, tget, hget, data1, oneOf, List.length_append]) (by simp [RH, RVl, RV1, tau, hget, data1, List.length_append]) (by simp [Taus, hget, List.length_append])
    · rw [decide_eq_false a2] at hN
      cases e2 a2
      unfold dkP dkR dkH at *
      refine fn_e tok (n := 71) (rs := [.cell 4 32, .tmp 5]) Tryz.func36 (by decide) rfl rfl rfl rfl (low_of rfl) ?_
      refine Wr.go ?_
      repeat' ((first | (have ee := True.intro; refine Wr.mk ?_) | ((first | refine br_go ?_ ?_ | refine pick_go ?_ ?_) <;> intro ee f <;> (try simp only [BB] at f) <;> (try simp only [numOk, verOk] at f)) | (have ee := True.intro; first | (refine call_h [] [] (hc) (by decide) rfl rfl ?_; rintro _ _ ⟨rfl, rfl⟩) | (refine call_hx [] [512,513,514,515] (hO) (by decide) ?_ rfl ?_; (focus (first | rfl | (simp (maxSteps := 1000000) (disch := first | omega | (simp only [LN, numOk, verOk, rfP, rvP, rhP, frP, elOk_en, elOk_nd, nfx_en, nfx_nd] <;> omega) | exact Ck.mk rfl) only [VC, T, Nat.reduceMul, Nat.reduceAdd, Nat.reduceSub, Nat.reduceLT, Nat.reduceEqDiff, Nat.reduceLeDiff, Nat.reduceBEq, reduceCtorEq, Int.reduceToNat, ↓reduceIte, rfP, rvP, rhP, frP, elOk_en, elOk_nd, nfx_en, nfx_nd]; done)))) | refine call_x (hN) rfl ⟨rfl⟩ ?_)) <;> (try simp (maxSteps := 1000000) (disch := first | omega | (simp only [LN, numOk, verOk, rfP, rvP, rhP, frP, elOk_en, elOk_nd, nfx_en, nfx_nd] <;> omega) | exact Ck.mk rfl) only [ee, VC, T, Nat.reduceMul, Nat.reduceAdd, Nat.reduceSub, Nat.reduceLT, Nat.reduceEqDiff, Nat.reduceLeDiff, Nat.reduceBEq, reduceCtorEq, Int.reduceToNat, ↓reduceIte, rfP, rvP, rhP, frP, elOk_en, elOk_nd, nfx_en, nfx_nd]) <;> (try clear ee))
      exact fin_t [some 512, some 513, some 514, some 515] (⟨rfl, rfl⟩) rfl (by simp [RV, RV2, RVl, RV1, tau, tget, hget, data1, oneOf]) (by simp [RH, RVl, RV1, tau, hget, data1]) (by simp [Taus, hget])
  · rw [decide_eq_false a1] at hO
    cases e1 a1
    unfold dkP dkR dkH at *
    refine fn_e tok (n := 71) (rs := [.cell 4 32, .tmp 5]) Tryz.func36 (by decide) rfl rfl rfl rfl (low_of rfl) ?_
    refine Wr.go ?_
    repeat' ((first | (have ee := True.intro; refine Wr.mk ?_) | ((first | refine br_go ?_ ?_ | refine pick_go ?_ ?_) <;> intro ee f <;> (try simp only [BB] at f) <;> (try simp only [numOk, verOk] at f)) | (have ee := True.intro; first | (refine call_h [] [] (hc) (by decide) rfl rfl ?_; rintro _ _ ⟨rfl, rfl⟩) | (refine call_hx [] [512,513,514,515] (hO) (by decide) ?_ rfl ?_; (focus (first | rfl | (simp (maxSteps := 1000000) (disch := first | omega | (simp only [LN, numOk, verOk, rfP, rvP, rhP, frP, elOk_en, elOk_nd, nfx_en, nfx_nd] <;> omega) | exact Ck.mk rfl) only [VC, T, Nat.reduceMul, Nat.reduceAdd, Nat.reduceSub, Nat.reduceLT, Nat.reduceEqDiff, Nat.reduceLeDiff, Nat.reduceBEq, reduceCtorEq, Int.reduceToNat, ↓reduceIte, rfP, rvP, rhP, frP, elOk_en, elOk_nd, nfx_en, nfx_nd]; done)))))) <;> (try simp (maxSteps := 1000000) (disch := first | omega | (simp only [LN, numOk, verOk, rfP, rvP, rhP, frP, elOk_en, elOk_nd, nfx_en, nfx_nd] <;> omega) | exact Ck.mk rfl) only [ee, VC, T, Nat.reduceMul, Nat.reduceAdd, Nat.reduceSub, Nat.reduceLT, Nat.reduceEqDiff, Nat.reduceLeDiff, Nat.reduceBEq, reduceCtorEq, Int.reduceToNat, ↓reduceIte, rfP, rvP, rhP, frP, elOk_en, elOk_nd, nfx_en, nfx_nd]) <;> (try clear ee))
    exact fin_t [some 512, some 513, some 514, some 515] (⟨rfl, rfl⟩) rfl (by simp [RV, RV2, RVl, RV1, tau, tget, hget, data1, oneOf]) (by simp [RH, RVl, RV1, tau, hget, data1]) (by simp [Taus, hget])
theorem spec_SyncNames_R (d : Dk) (h : DkB 1048575 1048576 d) : FnE Tryz.prog 219 [dkP d] [] (fun r m => r = dkR 64 (syncNamesT d) ∧ m = dkH (syncNamesT d)) := by
  have ok := h.ok (by decide) (by decide)
  have hes := h.es
  have hss := h.ss
  have hns := h.ns
  have hos := h.os
  have hc := spec_l05Copy_R d ok
  have hO := spec_DiskOk d ok
  have e1 : ¬ diskOk d → syncNamesT d = d := fun a => if_pos a
  have e2 : diskOk d → syncNamesT d = cleanT (d.1, d.2.1, d.2.1, [], d.2.2.2.2) := fun a => if_neg fun k => k a
  have hcl := spec_l06Clean_R (d.1, d.2.1, d.2.1, [], d.2.2.2.2) ⟨ok.ns, ok.es, ok.es, Nat.zero_le _, ok.nt, ok.et, ok.et, fun x hx => absurd hx (by simp)⟩
  have hcc : ∀ x y, (cleanT (y, x)) = ((cleanT (y, x)).1, x) := fun x y => rfl
  rw [hcc] at e2
  generalize (cleanT (d.1, d.2.1, d.2.1, [], d.2.2.2.2)).1 = C at *
  generalize syncNamesT d = q at *
  unfold dkP dkR dkH at *
  simp only [List.map_nil, List.length_nil] at hcl
  refine fn_e tok (n := 18) (rs := [.cell 2 32]) Tryz.func219 (by decide) rfl rfl rfl rfl (low_of rfl) ?_
  refine Wr.go ?_
  repeat' ((first | (have ee := True.intro; refine Wr.mk ?_) | ((first | refine br_go ?_ ?_ | refine pick_go ?_ ?_) <;> intro ee f <;> (try simp only [BB] at f) <;> (try simp only [numOk, verOk] at f)) | (have ee := True.intro; first | (refine call_h [] [] (hc) (by decide) rfl rfl ?_; rintro _ _ ⟨rfl, rfl⟩) | (refine call_hx [] [320,321,322,323] (hO) (by decide) ?_ rfl ?_; (focus (first | rfl | (simp (maxSteps := 1000000) (disch := first | omega | (simp only [LN, numOk, verOk, rfP, rvP, rhP, frP, elOk_en, elOk_nd, nfx_en, nfx_nd] <;> omega) | exact Ck.mk rfl) only [VC, T, Nat.reduceMul, Nat.reduceAdd, Nat.reduceSub, Nat.reduceLT, Nat.reduceEqDiff, Nat.reduceLeDiff, Nat.reduceBEq, reduceCtorEq, Int.reduceToNat, ↓reduceIte, rfP, rvP, rhP, frP, elOk_en, elOk_nd, nfx_en, nfx_nd]; done)))) | (refine call_h [320,321,640,960] [] (hcl) (by decide) rfl rfl ?_; rintro _ _ ⟨rfl, rfl⟩))) <;> (try simp (maxSteps := 1000000) (disch := first | omega | (simp only [LN, numOk, verOk, rfP, rvP, rhP, frP, elOk_en, elOk_nd, nfx_en, nfx_nd] <;> omega) | exact Ck.mk rfl) only [ee, VC, T, Nat.reduceMul, Nat.reduceAdd, Nat.reduceSub, Nat.reduceLT, Nat.reduceEqDiff, Nat.reduceLeDiff, Nat.reduceBEq, reduceCtorEq, Int.reduceToNat, ↓reduceIte, rfP, rvP, rhP, frP, elOk_en, elOk_nd, nfx_en, nfx_nd]) <;> (try clear ee))
  · cases e2 f
    exact fin_t [some 1152, some 321, some 640, some 960] (⟨rfl, rfl⟩) rfl (by simp [RV, RV2, RVl, RV1, tau, tget, hget, data1, oneOf]) (by simp [RH, RVl, RV1, tau, hget, data1]) (by simp [Taus, hget])
  · cases e1 f
    exact fin_t [some 320, some 321, some 322, some 323] (⟨rfl, rfl⟩) rfl (by simp [RV, RV2, RVl, RV1, tau, tget, hget, data1, oneOf]) (by simp [RH, RVl, RV1, tau, hget, data1]) (by simp [Taus, hget])
theorem spec_SyncNames (d : Dk) (h : DkB 1048575 1048576 d) : Fn Tryz.prog 219 [dkP d] [] (dkP (syncNamesT d)) [] := by
  obtain ⟨_, _, ⟨rfl, rfl⟩, k⟩ := spec_SyncNames_R d h
  refine k.far ?_
  simp [fz, fz2, fz1, cvtl, elems, dkR, dkH, dkP, hget, data1]
theorem spec_CreateFile (d : Dk) (n : ByteArray) (h : DkB 1048575 1048576 d) (hn : n.size ≤ 1048576) : Fn Tryz.prog 36 [dkP d, .str n] [] (.tup [dkP (createT d n).1, .int .i64 (createT d n).2]) [] := by
  obtain ⟨_, _, ⟨rfl, rfl⟩, k⟩ := spec_CreateFile_R d n h hn
  refine k.far ?_
  simp [fz, fz2, fz1, cvtl, elems, dkR, dkH, dkP, hget, data1]
theorem spec_SyncFile_R (d : Dk) (n : ByteArray) (h : DkB 1048575 1048576 d) : FnE Tryz.prog 220 [dkP d, .str n] [] (fun r m => r = .tup [dkR 64 (syncT d n).1, .int .i64 (syncT d n).2] ∧ m = dkH (syncT d n).1) := by
  have ok := h.ok (by decide) (by decide)
  have hes := h.es
  have hss := h.ss
  have hns := h.ns
  have hos := h.os
  have hc := spec_l05Copy_R d ok
  have hO := spec_DiskOk d ok
  have hH : Fn Tryz.prog 95 [.far (d.2.1.map enP), .str n] [] (.bool (decide (hasT d.2.1 n))) [] := spec_l06Has d.2.1 n (by omega)
  have hE := spec_EntryAt d.2.1 n (by omega)
  have hNd := spec_l05Node d (entT d.2.1 n) (by omega)
  have e1 : ¬ diskOk d → syncT d n = (d, 3) := fun a => if_pos (.inl a)
  have e2 : ¬ hasT d.2.1 n → syncT d n = (d, 3) := fun a => if_pos (.inr a)
  by_cases a1 : diskOk d
  · rw [decide_eq_true a1] at hO
    by_cases a2 : hasT d.2.1 n
    · rw [decide_eq_true a2] at hH
      obtain ⟨t1, t2⟩ := node_there a1 a2
      have e3 : syncT d n = (setNd d (nodeI d.1 (entT d.2.1 n)).toNat ((d.1.getD (nodeI d.1 (entT d.2.1 n)).toNat default).1, (d.1.getD (nodeI d.1 (entT d.2.1 n)).toNat default).2.1, (d.1.getD (nodeI d.1 (entT d.2.1 n)).toNat default).2.1.size), 0) := if_neg (by simp [a1, a2])
      obtain ⟨k, hk⟩ : ∃ k : Nat, nodeI d.1 (entT d.2.1 n) = k := ⟨_, (Int.toNat_of_nonneg t1).symm⟩
      rw [hk] at t1 t2 e3 hNd
      rw [Int.toNat_natCast] at e3
      have hg : (d.1.map ndP).getD k .junk = .agg [.int .i64 (d.1.getD k default).1, .str (d.1.getD k default).2.1, .int .i64 (d.1.getD k default).2.2] := by
        rw [List.getD_eq_getElem?_getD, List.getElem?_map, List.getElem?_eq_getElem (by omega), List.getD_eq_getElem?_getD, List.getElem?_eq_getElem (by omega)]; rfl
      have hu : ∀ a b c z : PV, upd (.agg [a, b, c]) 2 [z] = .agg [a, b, z] := fun _ _ _ _ => rfl
      have hset : (d.1.map ndP).set k (.agg [.int .i64 (d.1.getD k default).1, .str (d.1.getD k default).2.1, .int .i64 (d.1.getD k default).2.1.size]) = (d.1.set k ((d.1.getD k default).1, (d.1.getD k default).2.1, (d.1.getD k default).2.1.size)).map ndP := by rw [List.map_set]; rfl
      have hz := nd_le h k
      rw [e3]
      unfold setNd dkP dkR dkH at *
      generalize entT d.2.1 n = en at *
      refine fn_e tok (n := 39) (rs := [.cell 4 32, .tmp 5]) Tryz.func220 (by decide) rfl rfl rfl rfl (low_of rfl) ?_
      refine Wr.go ?_
      repeat' ((first | (have ee := True.intro; refine Wr.mk ?_) | ((first | refine br_go ?_ ?_ | refine pick_go ?_ ?_) <;> intro ee f <;> (try simp only [BB] at f) <;> (try simp only [numOk, verOk] at f)) | (have ee := True.intro; first | refine dr_go mixed (id := 4) [([], [2], []), ([], [2], []), ([1], [21], []), ([], [1], []), ([1, 2, 3], [22, 23], []), ([0, 1, 2, 3, 4], [20, 24], []), ([0, 1, 2, 3, 4, 5], [25], [])] rfl rfl rfl ?_ | refine dr_go mixed (id := 5) [([], [2], []), ([0], [26], []), ([], [6], []), ([], [2], []), ([3], [29], []), ([], [6], []), ([3, 4, 5], [30, 31], []), ([3, 4, 5, 6], [32], []), ([3, 4, 5, 6, 7], [33], []), ([3, 4, 5, 6, 7, 8], [34], []), ([0, 1, 2, 3, 4, 5, 6, 7, 8, 9], [27, 28], []), ([0, 1, 2, 3, 4, 5, 6, 7, 8, 9, 10], [36], []), ([0, 1, 2, 3, 4, 5, 6, 7, 8, 9, 10, 11], [35, 37], [])] rfl rfl rfl ?_ | (refine call_h [] [] (hc) (by decide) rfl rfl ?_; rintro _ _ ⟨rfl, rfl⟩) | (refine call_hx [] [576,577,578,579] (hO) (by decide) ?_ rfl ?_; (focus (first | rfl | (simp (maxSteps := 1000000) (disch := first | omega | (simp only [LN, numOk, verOk, rfP, rvP, rhP, frP, elOk_en, elOk_nd, nfx_en, nfx_nd, hg, hu, hset] <;> omega) | exact Ck.mk rfl) only [VC, T, Nat.reduceMul, Nat.reduceAdd, Nat.reduceSub, Nat.reduceLT, Nat.reduceEqDiff, Nat.reduceLeDiff, Nat.reduceBEq, reduceCtorEq, Int.reduceToNat, ↓reduceIte, rfP, rvP, rhP, frP, elOk_en, elOk_nd, nfx_en, nfx_nd, hg, hu, hset]; done)))) | (refine call_hx [] [577] (hH) (by decide) ?_ rfl ?_; (focus (first | rfl | (simp (maxSteps := 1000000) (disch := first | omega | (simp only [LN, numOk, verOk, rfP, rvP, rhP, frP, elOk_en, elOk_nd, nfx_en, nfx_nd, hg, hu, hset] <;> omega) | exact Ck.mk rfl) only [VC, T, Nat.reduceMul, Nat.reduceAdd, Nat.reduceSub, Nat.reduceLT, Nat.reduceEqDiff, Nat.reduceLeDiff, Nat.reduceBEq, reduceCtorEq, Int.reduceToNat, ↓reduceIte, rfP, rvP, rhP, frP, elOk_en, elOk_nd, nfx_en, nfx_nd, hg, hu, hset]; done)))) | (refine call_hx [] [577] (hE) (by decide) ?_ rfl ?_; (focus (first | rfl | (simp (maxSteps := 1000000) (disch := first | omega | (simp only [LN, numOk, verOk, rfP, rvP, rhP, frP, elOk_en, elOk_nd, nfx_en, nfx_nd, hg, hu, hset] <;> omega) | exact Ck.mk rfl) only [VC, T, Nat.reduceMul, Nat.reduceAdd, Nat.reduceSub, Nat.reduceLT, Nat.reduceEqDiff, Nat.reduceLeDiff, Nat.reduceBEq, reduceCtorEq, Int.reduceToNat, ↓reduceIte, rfP, rvP, rhP, frP, elOk_en, elOk_nd, nfx_en, nfx_nd, hg, hu, hset]; done)))) | (refine call_hx [] [576,577,578,579] (hNd) (by decide) ?_ rfl ?_; (focus (first | rfl | (simp (maxSteps := 1000000) (disch := first | omega | (simp only [LN, numOk, verOk, rfP, rvP, rhP, frP, elOk_en, elOk_nd, nfx_en, nfx_nd, hg, hu, hset] <;> omega) | exact Ck.mk rfl) only [VC, T, Nat.reduceMul, Nat.reduceAdd, Nat.reduceSub, Nat.reduceLT, Nat.reduceEqDiff, Nat.reduceLeDiff, Nat.reduceBEq, reduceCtorEq, Int.reduceToNat, ↓reduceIte, rfP, rvP, rhP, frP, elOk_en, elOk_nd, nfx_en, nfx_nd, hg, hu, hset]; done)))))) <;> (try simp (maxSteps := 1000000) (disch := first | omega | (simp only [LN, numOk, verOk, rfP, rvP, rhP, frP, elOk_en, elOk_nd, nfx_en, nfx_nd, hg, hu, hset] <;> omega) | exact Ck.mk rfl) only [ee, VC, T, Nat.reduceMul, Nat.reduceAdd, Nat.reduceSub, Nat.reduceLT, Nat.reduceEqDiff, Nat.reduceLeDiff, Nat.reduceBEq, reduceCtorEq, Int.reduceToNat, ↓reduceIte, rfP, rvP, rhP, frP, elOk_en, elOk_nd, nfx_en, nfx_nd, hg, hu, hset]) <;> (try clear ee))
      exact fin_t [some 576, some 577, some 578, some 579] (⟨rfl, rfl⟩) rfl (by simp [RV, RV2, RVl, RV1, tau, tget, hget, data1, oneOf, List.length_set]) (by simp [RH, RVl, RV1, tau, hget, data1, List.length_set]) (by simp [Taus, hget, List.length_set])
    · rw [decide_eq_false a2] at hH
      rw [e2 a2]
      unfold dkP dkR dkH at *
      refine fn_e tok (n := 39) (rs := [.cell 4 32, .tmp 5]) Tryz.func220 (by decide) rfl rfl rfl rfl (low_of rfl) ?_
      refine Wr.go ?_
      repeat' ((first | (have ee := True.intro; refine Wr.mk ?_) | ((first | refine br_go ?_ ?_ | refine pick_go ?_ ?_) <;> intro ee f <;> (try simp only [BB] at f) <;> (try simp only [numOk, verOk] at f)) | (have ee := True.intro; first | (refine call_h [] [] (hc) (by decide) rfl rfl ?_; rintro _ _ ⟨rfl, rfl⟩) | (refine call_hx [] [576,577,578,579] (hO) (by decide) ?_ rfl ?_; (focus (first | rfl | (simp (maxSteps := 1000000) (disch := first | omega | (simp only [LN, numOk, verOk, rfP, rvP, rhP, frP, elOk_en, elOk_nd, nfx_en, nfx_nd] <;> omega) | exact Ck.mk rfl) only [VC, T, Nat.reduceMul, Nat.reduceAdd, Nat.reduceSub, Nat.reduceLT, Nat.reduceEqDiff, Nat.reduceLeDiff, Nat.reduceBEq, reduceCtorEq, Int.reduceToNat, ↓reduceIte, rfP, rvP, rhP, frP, elOk_en, elOk_nd, nfx_en, nfx_nd]; done)))) | (refine call_hx [] [577] (hH) (by decide) ?_ rfl ?_; (focus (first | rfl | (simp (maxSteps := 1000000) (disch := first | omega | (simp only [LN, numOk, verOk, rfP, rvP, rhP, frP, elOk_en, elOk_nd, nfx_en, nfx_nd] <;> omega) | exact Ck.mk rfl) only [VC, T, Nat.reduceMul, Nat.reduceAdd, Nat.reduceSub, Nat.reduceLT, Nat.reduceEqDiff, Nat.reduceLeDiff, Nat.reduceBEq, reduceCtorEq, Int.reduceToNat, ↓reduceIte, rfP, rvP, rhP, frP, elOk_en, elOk_nd, nfx_en, nfx_nd]; done)))))) <;> (try simp (maxSteps := 1000000) (disch := first | omega | (simp only [LN, numOk, verOk, rfP, rvP, rhP, frP, elOk_en, elOk_nd, nfx_en, nfx_nd] <;> omega) | exact Ck.mk rfl) only [ee, VC, T, Nat.reduceMul, Nat.reduceAdd, Nat.reduceSub, Nat.reduceLT, Nat.reduceEqDiff, Nat.reduceLeDiff, Nat.reduceBEq, reduceCtorEq, Int.reduceToNat, ↓reduceIte, rfP, rvP, rhP, frP, elOk_en, elOk_nd, nfx_en, nfx_nd]) <;> (try clear ee))
      exact fin_t [some 576, some 577, some 578, some 579] (⟨rfl, rfl⟩) rfl (by simp [RV, RV2, RVl, RV1, tau, tget, hget, data1, oneOf]) (by simp [RH, RVl, RV1, tau, hget, data1]) (by simp [Taus, hget])
  · rw [decide_eq_false a1] at hO
    rw [e1 a1]
    unfold dkP dkR dkH at *
    refine fn_e tok (n := 39) (rs := [.cell 4 32, .tmp 5]) Tryz.func220 (by decide) rfl rfl rfl rfl (low_of rfl) ?_
    refine Wr.go ?_
    repeat' ((first | (have ee := True.intro; refine Wr.mk ?_) | ((first | refine br_go ?_ ?_ | refine pick_go ?_ ?_) <;> intro ee f <;> (try simp only [BB] at f) <;> (try simp only [numOk, verOk] at f)) | (have ee := True.intro; first | (refine call_h [] [] (hc) (by decide) rfl rfl ?_; rintro _ _ ⟨rfl, rfl⟩) | (refine call_hx [] [576,577,578,579] (hO) (by decide) ?_ rfl ?_; (focus (first | rfl | (simp (maxSteps := 1000000) (disch := first | omega | (simp only [LN, numOk, verOk, rfP, rvP, rhP, frP, elOk_en, elOk_nd, nfx_en, nfx_nd] <;> omega) | exact Ck.mk rfl) only [VC, T, Nat.reduceMul, Nat.reduceAdd, Nat.reduceSub, Nat.reduceLT, Nat.reduceEqDiff, Nat.reduceLeDiff, Nat.reduceBEq, reduceCtorEq, Int.reduceToNat, ↓reduceIte, rfP, rvP, rhP, frP, elOk_en, elOk_nd, nfx_en, nfx_nd]; done)))))) <;> (try simp (maxSteps := 1000000) (disch := first | omega | (simp only [LN, numOk, verOk, rfP, rvP, rhP, frP, elOk_en, elOk_nd, nfx_en, nfx_nd] <;> omega) | exact Ck.mk rfl) only [ee, VC, T, Nat.reduceMul, Nat.reduceAdd, Nat.reduceSub, Nat.reduceLT, Nat.reduceEqDiff, Nat.reduceLeDiff, Nat.reduceBEq, reduceCtorEq, Int.reduceToNat, ↓reduceIte, rfP, rvP, rhP, frP, elOk_en, elOk_nd, nfx_en, nfx_nd]) <;> (try clear ee))
    exact fin_t [some 576, some 577, some 578, some 579] (⟨rfl, rfl⟩) rfl (by simp [RV, RV2, RVl, RV1, tau, tget, hget, data1, oneOf]) (by simp [RH, RVl, RV1, tau, hget, data1]) (by simp [Taus, hget])
theorem spec_SyncFile (d : Dk) (n : ByteArray) (h : DkB 1048575 1048576 d) : Fn Tryz.prog 220 [dkP d, .str n] [] (.tup [dkP (syncT d n).1, .int .i64 (syncT d n).2]) [] := by
  obtain ⟨_, _, ⟨rfl, rfl⟩, k⟩ := spec_SyncFile_R d n h
  refine k.far ?_
  simp [fz, fz2, fz1, cvtl, elems, dkR, dkH, dkP, hget, data1]
theorem spec_AppendFile_R (d : Dk) (n t : ByteArray) (h : DkB 1048575 1048576 d) (ht : t.size ≤ 1048576) : FnE Tryz.prog 38 [dkP d, .str n, .str t] [] (fun r m => r = .tup [dkR 64 (appendT d n t).1, .int .i64 (appendT d n t).2] ∧ m = dkH (appendT d n t).1) := by
  have ok := h.ok (by decide) (by decide)
  have hes := h.es
  have hss := h.ss
  have hns := h.ns
  have hos := h.os
  have hc := spec_l05Copy_R d ok
  have hO := spec_DiskOk d ok
  have hH : Fn Tryz.prog 95 [.far (d.2.1.map enP), .str n] [] (.bool (decide (hasT d.2.1 n))) [] := spec_l06Has d.2.1 n (by omega)
  have hE := spec_EntryAt d.2.1 n (by omega)
  have hNd := spec_l05Node d (entT d.2.1 n) (by omega)
  have hU := spec_UsedOn d ok
  have hu0 := usedT_nn d
  have e1 : ¬ diskOk d → appendT d n t = (d, 3) := fun a => if_pos (.inl a)
  have e2 : ¬ hasT d.2.1 n → appendT d n t = (d, 3) := fun a => if_pos (.inr a)
  by_cases a1 : diskOk d
  · rw [decide_eq_true a1] at hO
    by_cases a2 : hasT d.2.1 n
    · rw [decide_eq_true a2] at hH
      obtain ⟨t1, t2⟩ := node_there a1 a2
      obtain ⟨_, hr1, _, hr2⟩ := a1.1
      obtain ⟨k, hk⟩ : ∃ k : Nat, nodeI d.1 (entT d.2.1 n) = k := ⟨_, (Int.toNat_of_nonneg t1).symm⟩
      have e3 : (t.size : Int) > d.2.2.2.2.1 - usedT d → appendT d n t = (setNd d k ((d.1.getD k default).1, (d.1.getD k default).2.1 ++ t.extract 0 (d.2.2.2.2.1 - usedT d).toNat, (d.1.getD k default).2.2), 5) := fun q => by
        unfold appendT
        rw [if_neg (by simp [a1, a2]), if_pos q, hk, Int.toNat_natCast]
      have e4 : ¬ (t.size : Int) > d.2.2.2.2.1 - usedT d → appendT d n t = (setNd d k ((d.1.getD k default).1, (d.1.getD k default).2.1 ++ t, (d.1.getD k default).2.2), 0) := fun q => by
        unfold appendT
        rw [if_neg (by simp [a1, a2]), if_neg q, hk, Int.toNat_natCast]
      rw [hk] at t1 t2 hNd
      have hg : (d.1.map ndP).getD k .junk = .agg [.int .i64 (d.1.getD k default).1, .str (d.1.getD k default).2.1, .int .i64 (d.1.getD k default).2.2] := by
        rw [List.getD_eq_getElem?_getD, List.getElem?_map, List.getElem?_eq_getElem (by omega), List.getD_eq_getElem?_getD, List.getElem?_eq_getElem (by omega)]; rfl
      have hu : ∀ a b c z : PV, upd (.agg [a, b, c]) 1 [z] = .agg [a, z, c] := fun _ _ _ _ => rfl
      have hset : ∀ s, (d.1.map ndP).set k (.agg [.int .i64 (d.1.getD k default).1, .str s, .int .i64 (d.1.getD k default).2.2]) = (d.1.set k ((d.1.getD k default).1, s, (d.1.getD k default).2.2)).map ndP := fun s => by rw [List.map_set]; rfl
      have hz := nd_le h k
      have hex := ex_le t 0 (d.2.2.2.2.1 - usedT d).toNat
      generalize appendT d n t = q at *
      unfold setNd at *
      unfold dkP dkR dkH at *
      generalize entT d.2.1 n = en at *
      generalize usedT d = u at *
      refine fn_e tok (n := 68) (rs := [.cell 6 32, .tmp 7]) Tryz.func38 (by decide) rfl rfl rfl rfl (low_of rfl) ?_
      refine Wr.go ?_
      repeat' ((first | (have ee := True.intro; refine Wr.mk ?_) | ((first | refine br_go ?_ ?_ | refine pick_go ?_ ?_) <;> intro ee f <;> (try simp only [BB] at f) <;> (try simp only [numOk, verOk] at f)) | (have ee := True.intro; first | refine dr_go mixed (id := 4) [([], [3], []), ([], [3], []), ([1], [24], []), ([], [1], []), ([1, 2, 3], [25, 26], []), ([0, 1, 2, 3, 4], [23, 27], []), ([0, 1, 2, 3, 4, 5], [28], [])] rfl rfl rfl ?_ | refine dr_go mixed (id := 5) [([], [3], []), ([0], [29], []), ([], [3], []), ([2], [31], []), ([0, 1, 2, 3], [30, 32], []), ([0, 1, 2, 3, 4], [33], [])] rfl rfl rfl ?_ | refine dr_go mixed (id := 7) [([], [3], []), ([0], [38], []), ([], [8], []), ([], [3], []), ([3], [41], []), ([], [8], []), ([3, 4, 5], [42, 43], []), ([3, 4, 5, 6], [44], []), ([3, 4, 5, 6, 7], [45], []), ([], [2], []), ([], [9], []), ([9, 10], [47, 48], []), ([3, 4, 5, 6, 7, 8, 9, 10, 11], [46, 49], []), ([0, 1, 2, 3, 4, 5, 6, 7, 8, 9, 10, 11, 12], [39, 40], []), ([0, 1, 2, 3, 4, 5, 6, 7, 8, 9, 10, 11, 12, 13], [51], []), ([0, 1, 2, 3, 4, 5, 6, 7, 8, 9, 10, 11, 12, 13, 14], [50, 52], [])] rfl rfl rfl ?_ | refine dr_go mixed (id := 9) [([], [3], []), ([0], [54], []), ([], [8], []), ([], [3], []), ([3], [57], []), ([], [8], []), ([3, 4, 5], [58, 59], []), ([3, 4, 5, 6], [60], []), ([3, 4, 5, 6, 7], [61], []), ([], [2], []), ([3, 4, 5, 6, 7, 8, 9], [62, 63], []), ([0, 1, 2, 3, 4, 5, 6, 7, 8, 9, 10], [55, 56], []), ([0, 1, 2, 3, 4, 5, 6, 7, 8, 9, 10, 11], [65], []), ([0, 1, 2, 3, 4, 5, 6, 7, 8, 9, 10, 11, 12], [64, 66], [])] rfl rfl rfl ?_ | (refine call_h [] [] (hc) (by decide) rfl rfl ?_; rintro _ _ ⟨rfl, rfl⟩) | (refine call_hx [] [768,769,770,771] (hO) (by decide) ?_ rfl ?_; (focus (first | rfl | (simp (maxSteps := 1000000) (disch := first | omega | (simp only [LN, numOk, verOk, rfP, rvP, rhP, frP, elOk_en, elOk_nd, nfx_en, nfx_nd, hg, hu, hset] <;> omega) | exact Ck.mk rfl) only [VC, T, Nat.reduceMul, Nat.reduceAdd, Nat.reduceSub, Nat.reduceLT, Nat.reduceEqDiff, Nat.reduceLeDiff, Nat.reduceBEq, reduceCtorEq, Int.reduceToNat, ↓reduceIte, rfP, rvP, rhP, frP, elOk_en, elOk_nd, nfx_en, nfx_nd, hg, hu, hset]; done)))) | (refine call_hx [] [769] (hH) (by decide) ?_ rfl ?_; (focus (first | rfl | (simp (maxSteps := 1000000) (disch := first | omega | (simp only [LN, numOk, verOk, rfP, rvP, rhP, frP, elOk_en, elOk_nd, nfx_en, nfx_nd, hg, hu, hset] <;> omega) | exact Ck.mk rfl) only [VC, T, Nat.reduceMul, Nat.reduceAdd, Nat.reduceSub, Nat.reduceLT, Nat.reduceEqDiff, Nat.reduceLeDiff, Nat.reduceBEq, reduceCtorEq, Int.reduceToNat, ↓reduceIte, rfP, rvP, rhP, frP, elOk_en, elOk_nd, nfx_en, nfx_nd, hg, hu, hset]; done)))) | (refine call_hx [] [769] (hE) (by decide) ?_ rfl ?_; (focus (first | rfl | (simp (maxSteps := 1000000) (disch := first | omega | (simp only [LN, numOk, verOk, rfP, rvP, rhP, frP, elOk_en, elOk_nd, nfx_en, nfx_nd, hg, hu, hset] <;> omega) | exact Ck.mk rfl) only [VC, T, Nat.reduceMul, Nat.reduceAdd, Nat.reduceSub, Nat.reduceLT, Nat.reduceEqDiff, Nat.reduceLeDiff, Nat.reduceBEq, reduceCtorEq, Int.reduceToNat, ↓reduceIte, rfP, rvP, rhP, frP, elOk_en, elOk_nd, nfx_en, nfx_nd, hg, hu, hset]; done)))) | (refine call_hx [] [768,769,770,771] (hNd) (by decide) ?_ rfl ?_; (focus (first | rfl | (simp (maxSteps := 1000000) (disch := first | omega | (simp only [LN, numOk, verOk, rfP, rvP, rhP, frP, elOk_en, elOk_nd, nfx_en, nfx_nd, hg, hu, hset] <;> omega) | exact Ck.mk rfl) only [VC, T, Nat.reduceMul, Nat.reduceAdd, Nat.reduceSub, Nat.reduceLT, Nat.reduceEqDiff, Nat.reduceLeDiff, Nat.reduceBEq, reduceCtorEq, Int.reduceToNat, ↓reduceIte, rfP, rvP, rhP, frP, elOk_en, elOk_nd, nfx_en, nfx_nd, hg, hu, hset]; done)))) | (refine call_hx [] [768,769,770,771] (hU) (by decide) ?_ rfl ?_; (focus (first | rfl | (simp (maxSteps := 1000000) (disch := first | omega | (simp only [LN, numOk, verOk, rfP, rvP, rhP, frP, elOk_en, elOk_nd, nfx_en, nfx_nd, hg, hu, hset] <;> omega) | exact Ck.mk rfl) only [VC, T, Nat.reduceMul, Nat.reduceAdd, Nat.reduceSub, Nat.reduceLT, Nat.reduceEqDiff, Nat.reduceLeDiff, Nat.reduceBEq, reduceCtorEq, Int.reduceToNat, ↓reduceIte, rfP, rvP, rhP, frP, elOk_en, elOk_nd, nfx_en, nfx_nd, hg, hu, hset]; done)))))) <;> (try simp (maxSteps := 1000000) (disch := first | omega | (simp only [LN, numOk, verOk, rfP, rvP, rhP, frP, elOk_en, elOk_nd, nfx_en, nfx_nd, hg, hu, hset] <;> omega) | exact Ck.mk rfl) only [ee, VC, T, Nat.reduceMul, Nat.reduceAdd, Nat.reduceSub, Nat.reduceLT, Nat.reduceEqDiff, Nat.reduceLeDiff, Nat.reduceBEq, reduceCtorEq, Int.reduceToNat, ↓reduceIte, rfP, rvP, rhP, frP, elOk_en, elOk_nd, nfx_en, nfx_nd, hg, hu, hset]) <;> (try clear ee))
      · cases e3 (by omega)
        exact fin_t [some 768, some 769, some 770, some 771] (⟨rfl, rfl⟩) rfl (by simp [RV, RV2, RVl, RV1, tau, tget, hget, data1, oneOf, List.length_set]) (by simp [RH, RVl, RV1, tau, hget, data1, List.length_set]) (by simp [Taus, hget, List.length_set])
      · cases e4 (by omega)
        exact fin_t [some 768, some 769, some 770, some 771] (⟨rfl, rfl⟩) rfl (by simp [RV, RV2, RVl, RV1, tau, tget, hget, data1, oneOf, List.length_set]) (by simp [RH, RVl, RV1, tau, hget, data1, List.length_set]) (by simp [Taus, hget, List.length_set])
    · rw [decide_eq_false a2] at hH
      rw [e2 a2]
      unfold dkP dkR dkH at *
      refine fn_e tok (n := 68) (rs := [.cell 6 32, .tmp 7]) Tryz.func38 (by decide) rfl rfl rfl rfl (low_of rfl) ?_
      refine Wr.go ?_
      repeat' ((first | (have ee := True.intro; refine Wr.mk ?_) | ((first | refine br_go ?_ ?_ | refine pick_go ?_ ?_) <;> intro ee f <;> (try simp only [BB] at f) <;> (try simp only [numOk, verOk] at f)) | (have ee := True.intro; first | (refine call_h [] [] (hc) (by decide) rfl rfl ?_; rintro _ _ ⟨rfl, rfl⟩) | (refine call_hx [] [768,769,770,771] (hO) (by decide) ?_ rfl ?_; (focus (first | rfl | (simp (maxSteps := 1000000) (disch := first | omega | (simp only [LN, numOk, verOk, rfP, rvP, rhP, frP, elOk_en, elOk_nd, nfx_en, nfx_nd] <;> omega) | exact Ck.mk rfl) only [VC, T, Nat.reduceMul, Nat.reduceAdd, Nat.reduceSub, Nat.reduceLT, Nat.reduceEqDiff, Nat.reduceLeDiff, Nat.reduceBEq, reduceCtorEq, Int.reduceToNat, ↓reduceIte, rfP, rvP, rhP, frP, elOk_en, elOk_nd, nfx_en, nfx_nd]; done)))) | (refine call_hx [] [769] (hH) (by decide) ?_ rfl ?_; (focus (first | rfl | (simp (maxSteps := 1000000) (disch := first | omega | (simp only [LN, numOk, verOk, rfP, rvP, rhP, frP, elOk_en, elOk_nd, nfx_en, nfx_nd] <;> omega) | exact Ck.mk rfl) only [VC, T, Nat.reduceMul, Nat.reduceAdd, Nat.reduceSub, Nat.reduceLT, Nat.reduceEqDiff, Nat.reduceLeDiff, Nat.reduceBEq, reduceCtorEq, Int.reduceToNat, ↓reduceIte, rfP, rvP, rhP, frP, elOk_en, elOk_nd, nfx_en, nfx_nd]; done)))))) <;> (try simp (maxSteps := 1000000) (disch := first | omega | (simp only [LN, numOk, verOk, rfP, rvP, rhP, frP, elOk_en, elOk_nd, nfx_en, nfx_nd] <;> omega) | exact Ck.mk rfl) only [ee, VC, T, Nat.reduceMul, Nat.reduceAdd, Nat.reduceSub, Nat.reduceLT, Nat.reduceEqDiff, Nat.reduceLeDiff, Nat.reduceBEq, reduceCtorEq, Int.reduceToNat, ↓reduceIte, rfP, rvP, rhP, frP, elOk_en, elOk_nd, nfx_en, nfx_nd]) <;> (try clear ee))
      exact fin_t [some 768, some 769, some 770, some 771] (⟨rfl, rfl⟩) rfl (by simp [RV, RV2, RVl, RV1, tau, tget, hget, data1, oneOf]) (by simp [RH, RVl, RV1, tau, hget, data1]) (by simp [Taus, hget])
  · rw [decide_eq_false a1] at hO
    rw [e1 a1]
    unfold dkP dkR dkH at *
    refine fn_e tok (n := 68) (rs := [.cell 6 32, .tmp 7]) Tryz.func38 (by decide) rfl rfl rfl rfl (low_of rfl) ?_
    refine Wr.go ?_
    repeat' ((first | (have ee := True.intro; refine Wr.mk ?_) | ((first | refine br_go ?_ ?_ | refine pick_go ?_ ?_) <;> intro ee f <;> (try simp only [BB] at f) <;> (try simp only [numOk, verOk] at f)) | (have ee := True.intro; first | (refine call_h [] [] (hc) (by decide) rfl rfl ?_; rintro _ _ ⟨rfl, rfl⟩) | (refine call_hx [] [768,769,770,771] (hO) (by decide) ?_ rfl ?_; (focus (first | rfl | (simp (maxSteps := 1000000) (disch := first | omega | (simp only [LN, numOk, verOk, rfP, rvP, rhP, frP, elOk_en, elOk_nd, nfx_en, nfx_nd] <;> omega) | exact Ck.mk rfl) only [VC, T, Nat.reduceMul, Nat.reduceAdd, Nat.reduceSub, Nat.reduceLT, Nat.reduceEqDiff, Nat.reduceLeDiff, Nat.reduceBEq, reduceCtorEq, Int.reduceToNat, ↓reduceIte, rfP, rvP, rhP, frP, elOk_en, elOk_nd, nfx_en, nfx_nd]; done)))))) <;> (try simp (maxSteps := 1000000) (disch := first | omega | (simp only [LN, numOk, verOk, rfP, rvP, rhP, frP, elOk_en, elOk_nd, nfx_en, nfx_nd] <;> omega) | exact Ck.mk rfl) only [ee, VC, T, Nat.reduceMul, Nat.reduceAdd, Nat.reduceSub, Nat.reduceLT, Nat.reduceEqDiff, Nat.reduceLeDiff, Nat.reduceBEq, reduceCtorEq, Int.reduceToNat, ↓reduceIte, rfP, rvP, rhP, frP, elOk_en, elOk_nd, nfx_en, nfx_nd]) <;> (try clear ee))
    exact fin_t [some 768, some 769, some 770, some 771] (⟨rfl, rfl⟩) rfl (by simp [RV, RV2, RVl, RV1, tau, tget, hget, data1, oneOf]) (by simp [RH, RVl, RV1, tau, hget, data1]) (by simp [Taus, hget])
theorem spec_AppendFile (d : Dk) (n t : ByteArray) (h : DkB 1048575 1048576 d) (ht : t.size ≤ 1048576) : Fn Tryz.prog 38 [dkP d, .str n, .str t] [] (.tup [dkP (appendT d n t).1, .int .i64 (appendT d n t).2]) [] := by
  obtain ⟨_, _, ⟨rfl, rfl⟩, k⟩ := spec_AppendFile_R d n t h ht
  refine k.far ?_
  simp [fz, fz2, fz1, cvtl, elems, dkR, dkH, dkP, hget, data1]
theorem spec_RenameFile_R (d : Dk) (n to : ByteArray) (h : DkB 1048575 1048576 d) (hn : n.size + to.size + 2 ≤ 1048576) : FnE Tryz.prog 221 [dkP d, .str n, .str to] [] (fun r m => r = .tup [dkR 64 (renameT d n to).1, .int .i64 (renameT d n to).2] ∧ m = dkH (renameT d n to).1) := by
  have ok := h.ok (by decide) (by decide)
  have hes := h.es
  have hss := h.ss
  have hns := h.ns
  have hos := h.os
  have hc := spec_l05Copy_R d ok
  have hO := spec_DiskOk d ok
  have hH : Fn Tryz.prog 95 [.far (d.2.1.map enP), .str n] [] (.bool (decide (hasT d.2.1 n))) [] := spec_l06Has d.2.1 n (by omega)
  have hN := spec_NameOk to (by omega)
  have hE := spec_EntryAt d.2.1 n (by omega)
  have hD := spec_l06Drop_R d.2.1 n (by omega)
  have hdl := dropT_len d.2.1 n
  have hpl := putT_len (dropT d.2.1 n) (to, entT d.2.1 n)
  have hP : FnE Tryz.prog 96 [.far ((dropT d.2.1 n).map enP), .agg [.str to, .int .i64 (entT d.2.1 n)]] [] (fun r m => r = .row 64 (putT (dropT d.2.1 n) (to, entT d.2.1 n)).length ∧ m = [(64, .row ⟨2, 0⟩ ((putT (dropT d.2.1 n) (to, entT d.2.1 n)).map enP))]) := spec_l06Put_R (dropT d.2.1 n) (to, entT d.2.1 n) (by omega)
  have e1 : ¬ diskOk d → renameT d n to = (d, 3) := fun a => if_pos (.inl a)
  have e2 : ¬ hasT d.2.1 n → renameT d n to = (d, 3) := fun a => if_pos (.inr a)
  have e3 : diskOk d → hasT d.2.1 n → (¬ nmOk to ∨ n = to) → renameT d n to = (d, 1) := fun a b c => by unfold renameT; rw [if_neg (by simp [a, b]), if_pos c]
  have e4 : diskOk d → hasT d.2.1 n → ¬ (¬ nmOk to ∨ n = to) → renameT d n to = (cleanT (d.1, putT (dropT d.2.1 n) (to, entT d.2.1 n), d.2.2.1, d.2.2.2.1 ++ [strOf [62] ++ n ++ strOf [58] ++ to], d.2.2.2.2), 0) := fun a b c => by unfold renameT; rw [if_neg (by simp [a, b]), if_neg c]
  have hcl := spec_l06Clean_R (d.1, putT (dropT d.2.1 n) (to, entT d.2.1 n), d.2.2.1, d.2.2.2.1 ++ [strOf [62] ++ n ++ strOf [58] ++ to], d.2.2.2.2) ⟨ok.ns, by simp only; omega, ok.os, by simp only [List.length_append, List.length_singleton]; omega, ok.nt, putT_mem (dropT_mem ok.et) (by simp only; omega), ok.ot, mem_snoc ok.st (by simp only [ByteArray.size_append, strOf_size, List.length_singleton]; omega)⟩
  have hs0 : strOf [62] = ⟨#[62]⟩ := rfl
  have hs1 : strOf [58] = ⟨#[58]⟩ := rfl
  rw [hs0, hs1] at hcl e4
  have hcc : ∀ x y, (cleanT (y, x)) = ((cleanT (y, x)).1, x) := fun x y => rfl
  rw [hcc] at e4
  generalize (cleanT (d.1, putT (dropT d.2.1 n) (to, entT d.2.1 n), d.2.2.1, d.2.2.2.1 ++ [⟨#[62]⟩ ++ n ++ ⟨#[58]⟩ ++ to], d.2.2.2.2)).1 = C at *
  generalize renameT d n to = q at *
  generalize entT d.2.1 n = en at *
  unfold dkP dkR dkH at *
  simp only [List.length_append, List.length_singleton] at hcl
  refine fn_e tok (n := 56) (rs := [.cell 6 32, .tmp 7]) Tryz.func221 (by decide) rfl rfl rfl rfl (low_of rfl) ?_
  refine Wr.go ?_
  repeat' ((first | (have ee := True.intro; refine Wr.mk ?_) | ((first | refine br_go ?_ ?_ | refine pick_go ?_ ?_) <;> intro ee f <;> (try simp only [BB] at f) <;> (try simp only [numOk, verOk] at f)) | (have ee := True.intro; first | (refine call_h [] [] (hc) (by decide) rfl rfl ?_; rintro _ _ ⟨rfl, rfl⟩) | (refine call_hx [] [704,705,706,707] (hO) (by decide) ?_ rfl ?_; (focus (first | rfl | (simp (maxSteps := 1000000) (disch := first | omega | (simp only [LN, numOk, verOk, rfP, rvP, rhP, frP, elOk_en, elOk_nd, nfx_en, nfx_nd] <;> omega) | exact Ck.mk rfl) only [VC, T, Nat.reduceMul, Nat.reduceAdd, Nat.reduceSub, Nat.reduceLT, Nat.reduceEqDiff, Nat.reduceLeDiff, Nat.reduceBEq, reduceCtorEq, Int.reduceToNat, ↓reduceIte, rfP, rvP, rhP, frP, elOk_en, elOk_nd, nfx_en, nfx_nd]; done)))) | (refine call_hx [] [705] (hH) (by decide) ?_ rfl ?_; (focus (first | rfl | (simp (maxSteps := 1000000) (disch := first | omega | (simp only [LN, numOk, verOk, rfP, rvP, rhP, frP, elOk_en, elOk_nd, nfx_en, nfx_nd] <;> omega) | exact Ck.mk rfl) only [VC, T, Nat.reduceMul, Nat.reduceAdd, Nat.reduceSub, Nat.reduceLT, Nat.reduceEqDiff, Nat.reduceLeDiff, Nat.reduceBEq, reduceCtorEq, Int.reduceToNat, ↓reduceIte, rfP, rvP, rhP, frP, elOk_en, elOk_nd, nfx_en, nfx_nd]; done)))) | refine call_x (hN) rfl ⟨rfl⟩ ?_ | (refine call_hx [] [705] (hE) (by decide) ?_ rfl ?_; (focus (first | rfl | (simp (maxSteps := 1000000) (disch := first | omega | (simp only [LN, numOk, verOk, rfP, rvP, rhP, frP, elOk_en, elOk_nd, nfx_en, nfx_nd] <;> omega) | exact Ck.mk rfl) only [VC, T, Nat.reduceMul, Nat.reduceAdd, Nat.reduceSub, Nat.reduceLT, Nat.reduceEqDiff, Nat.reduceLeDiff, Nat.reduceBEq, reduceCtorEq, Int.reduceToNat, ↓reduceIte, rfP, rvP, rhP, frP, elOk_en, elOk_nd, nfx_en, nfx_nd]; done)))) | (refine call_h [] [705] (hD) (by decide) ?_ rfl ?_; (focus (first | rfl | (simp (maxSteps := 1000000) (disch := first | omega | (simp only [LN, numOk, verOk, rfP, rvP, rhP, frP, elOk_en, elOk_nd, nfx_en, nfx_nd] <;> omega) | exact Ck.mk rfl) only [VC, T, Nat.reduceMul, Nat.reduceAdd, Nat.reduceSub, Nat.reduceLT, Nat.reduceEqDiff, Nat.reduceLeDiff, Nat.reduceBEq, reduceCtorEq, Int.reduceToNat, ↓reduceIte, rfP, rvP, rhP, frP, elOk_en, elOk_nd, nfx_en, nfx_nd]; done))); rintro _ _ ⟨rfl, rfl⟩) | (refine call_h [] [2496] (hP) (by decide) ?_ rfl ?_; (focus (first | rfl | (simp (maxSteps := 1000000) (disch := first | omega | (simp only [LN, numOk, verOk, rfP, rvP, rhP, frP, elOk_en, elOk_nd, nfx_en, nfx_nd] <;> omega) | exact Ck.mk rfl) only [VC, T, Nat.reduceMul, Nat.reduceAdd, Nat.reduceSub, Nat.reduceLT, Nat.reduceEqDiff, Nat.reduceLeDiff, Nat.reduceBEq, reduceCtorEq, Int.reduceToNat, ↓reduceIte, rfP, rvP, rhP, frP, elOk_en, elOk_nd, nfx_en, nfx_nd]; done))); rintro _ _ ⟨rfl, rfl⟩) | (refine call_h [704,2752,706,707] [] (hcl) (by decide) rfl rfl ?_; rintro _ _ ⟨rfl, rfl⟩))) <;> (try simp (maxSteps := 1000000) (disch := first | omega | (simp only [LN, numOk, verOk, rfP, rvP, rhP, frP, elOk_en, elOk_nd, nfx_en, nfx_nd] <;> omega) | exact Ck.mk rfl) only [ee, VC, T, Nat.reduceMul, Nat.reduceAdd, Nat.reduceSub, Nat.reduceLT, Nat.reduceEqDiff, Nat.reduceLeDiff, Nat.reduceBEq, reduceCtorEq, Int.reduceToNat, ↓reduceIte, rfP, rvP, rhP, frP, elOk_en, elOk_nd, nfx_en, nfx_nd]) <;> (try clear ee))
  · cases e3 (by assumption) (by assumption) (.inr f)
    exact fin_t [some 704, some 705, some 706, some 707] (⟨rfl, rfl⟩) rfl (by simp [RV, RV2, RVl, RV1, tau, tget, hget, data1, oneOf]) (by simp [RH, RVl, RV1, tau, hget, data1]) (by simp [Taus, hget])
  · cases e4 (by assumption) (by assumption) (fun k => k.elim (fun q => q (by assumption)) f)
    exact fin_t [some 3584, some 2752, some 706, some 707] (⟨rfl, rfl⟩) rfl (by simp [RV, RV2, RVl, RV1, tau, tget, hget, data1, oneOf, List.length_append]) (by simp [RH, RVl, RV1, tau, hget, data1, List.length_append]) (by simp [Taus, hget, List.length_append])
  · cases e3 (by assumption) (by assumption) (.inl f)
    exact fin_t [some 704, some 705, some 706, some 707] (⟨rfl, rfl⟩) rfl (by simp [RV, RV2, RVl, RV1, tau, tget, hget, data1, oneOf]) (by simp [RH, RVl, RV1, tau, hget, data1]) (by simp [Taus, hget])
  · cases e2 f
    exact fin_t [some 704, some 705, some 706, some 707] (⟨rfl, rfl⟩) rfl (by simp [RV, RV2, RVl, RV1, tau, tget, hget, data1, oneOf]) (by simp [RH, RVl, RV1, tau, hget, data1]) (by simp [Taus, hget])
  · cases e1 f
    exact fin_t [some 704, some 705, some 706, some 707] (⟨rfl, rfl⟩) rfl (by simp [RV, RV2, RVl, RV1, tau, tget, hget, data1, oneOf]) (by simp [RH, RVl, RV1, tau, hget, data1]) (by simp [Taus, hget])
end Go.Pv

/- What functions of the program and of the reference do, in plain values. -/
namespace Go.Pv
open Go.Proofs Go.Mth
set_option linter.unusedSimpArgs false
set_option linter.unusedVariables false
set_option maxHeartbeats 4000000
set_option maxRecDepth 4000

/-! ### draws of disks -/
def isDk (a b : Nat) (r : PV) : Prop := ∃ d, r = dkP d ∧ DkB a b d
theorem l14Put (code : List Int) (hb : Bytes code) (a b : Nat) (d : Dk) (hd : DkB a b d) (n t : ByteArray) (hn : n.size + 24 ≤ b) (hz : b + t.size ≤ 1048576) (ha : a + 2 ≤ 1048575) (i h : Int) (hc : CurOk code i h) : FnE Tryz.prog 187 [.ref 0 0, dkP d, .str n, .str t] [(0, curB code i h)] (CQ code (isDk (a + 2) (b + t.size))) := by
  have k1 := spec_RemoveFile d n (hd.mono (by omega) (by omega)) (by omega)
  have h1 := removeT_B hd n (by omega)
  generalize removeT d n = p1 at *
  obtain ⟨d1, c1⟩ := p1
  simp only at h1
  have k2 := spec_CreateFile d1 n (h1.mono (by omega) (by omega)) (by omega)
  have h2 := createT_B h1 n hn
  generalize createT d1 n = p2 at *
  obtain ⟨d2, c2⟩ := p2
  simp only at h2
  have k3 := spec_AppendFile d2 n t (h2.mono (by omega) (by omega)) (by omega)
  have h3 := appendT_B h2 n t
  generalize appendT d2 n t = p3 at *
  obtain ⟨d3, c3⟩ := p3
  simp only at h3
  have k4 := spec_SyncFile d3 n (h3.mono (by omega) (by omega))
  have h4 := syncT_B h3 n
  generalize syncT d3 n = p4 at *
  obtain ⟨d4, c4⟩ := p4
  simp only at h4
  have k5 := spec_SyncNames d3 (h3.mono (by omega) (by omega))
  have k6 := spec_SyncNames d4 (h4.mono (by omega) (by omega))
  have h5 := syncNamesT_B h3
  have h6 := syncNamesT_B h4
  generalize syncNamesT d3 = d5 at *
  generalize syncNamesT d4 = d6 at *
  unfold dkP at *
  refine fn_e tok (n := 43) (rs := [.cell 8 32]) Tryz.func187 (by decide) rfl rfl rfl rfl (low_of rfl) ?_
  refine Wr.go ?_
  repeat' ((first | (have ee := True.intro; refine Wr.mk ?_) | ((first | refine br_go ?_ ?_ | refine pick_go ?_ ?_) <;> intro ee f <;> (try simp only [BB] at f) <;> (try simp only [numOk, verOk] at f)) | (have ee := True.intro; first | refine call_x (k1) rfl ⟨rfl⟩ ?_ | refine call_x (k2) rfl ⟨rfl⟩ ?_ | refine call_x (k3) rfl ⟨rfl⟩ ?_ | refine call_x (k4) rfl ⟨rfl⟩ ?_ | refine call_x (k5) rfl ⟨rfl⟩ ?_ | refine call_x (k6) rfl ⟨rfl⟩ ?_ | (refine call_h [0] [] (l01Once code hb 4 (by decide) _ _ (by assumption)) (by decide) rfl rfl ?_; rintro _ _ ⟨⟨x, rfl⟩, i', h', rfl, hc'⟩))) <;> (try simp (maxSteps := 1000000) (disch := first | omega | (simp only [LN, numOk, verOk, rfP, rvP, rhP, frP, curB, bkd, elOk_en, elOk_nd, nfx_en, nfx_nd] <;> omega) | exact Ck.mk rfl) only [ee, VC, T, Nat.reduceMul, Nat.reduceAdd, Nat.reduceSub, Nat.reduceLT, Nat.reduceEqDiff, Nat.reduceLeDiff, Nat.reduceBEq, reduceCtorEq, Int.reduceToNat, ↓reduceIte, rfP, rvP, rhP, frP, curB, bkd, elOk_en, elOk_nd, nfx_en, nfx_nd]) <;> (try clear ee))
  all_goals
    refine fin_c rfl (by first | rfl | (simp (maxSteps := 1000000) (disch := first | omega | (simp only [LN, numOk, verOk, rfP, rvP, rhP, frP, curB, bkd, elOk_en, elOk_nd, nfx_en, nfx_nd] <;> omega) | exact Ck.mk rfl) only [VC, T, Nat.reduceMul, Nat.reduceAdd, Nat.reduceSub, Nat.reduceLT, Nat.reduceEqDiff, Nat.reduceLeDiff, Nat.reduceBEq, reduceCtorEq, Int.reduceToNat, ↓reduceIte, rfP, rvP, rhP, frP, curB, bkd, elOk_en, elOk_nd, nfx_en, nfx_nd]; done)) rfl rfl ?_
    first
      | exact ⟨⟨d3, rfl, h3⟩, _, _, rfl, by assumption⟩
      | exact ⟨⟨d4, rfl, h4⟩, _, _, rfl, by assumption⟩
      | exact ⟨⟨d5, rfl, h5⟩, _, _, rfl, by assumption⟩
      | exact ⟨⟨d6, rfl, h6⟩, _, _, rfl, by assumption⟩
def isDkR (code : List Int) (a b : Nat) (r : PV) (m : Hp) : Prop := ∃ (d : Dk) (i h : Int), r = dkR 64 d ∧ m = (0, curB code i h) :: dkH d ∧ DkB a b d ∧ CurOk code i h
theorem names_le (t : ByteArray) (h : MemT [⟨#[97]⟩, ⟨#[98]⟩, ⟨#[115, 48, 48, 48, 48, 48, 48, 48, 48, 46, 115, 101, 103]⟩, ⟨#[115, 48, 48, 48, 48, 48, 48, 48, 51, 46, 115, 101, 103]⟩, ⟨#[115, 48, 48, 48, 48, 48, 48, 48, 48, 46, 115, 101, 103, 46, 116, 109, 112]⟩, ⟨#[99]⟩] t) : t.size ≤ 17 := by
  simp only [MemT, List.mem_cons, List.not_mem_nil, or_false] at h
  rcases h with rfl | rfl | rfl | rfl | rfl | rfl <;> decide
theorem tos_le (t : ByteArray) (h : MemT [⟨#[98]⟩, ⟨#[120]⟩, ⟨#[115, 48, 48, 48, 48, 48, 48, 48, 51, 46, 115, 101, 103]⟩] t) : t.size ≤ 13 := by
  simp only [MemT, List.mem_cons, List.not_mem_nil, or_false] at h
  rcases h with rfl | rfl | rfl <;> decide
set_option maxRecDepth 20000 in
theorem l05Disk_R (code : List Int) (hb : Bytes code) (i h : Int) (hc : CurOk code i h) : FnE Tryz.prog 181 [.ref 0 0] [(0, curB code i h)] (isDkR code 16 160) := by
  refine fn_e tok (n := 78) (rs := [.cell 2 32]) Tryz.func181 (by decide) rfl rfl rfl rfl (low_of rfl) ?_
  refine Wr.go ?_
  repeat' ((first | (have ee := True.intro; refine Wr.mk ?_) | ((first | refine br_go ?_ ?_ | refine pick_go ?_ ?_) <;> intro ee f <;> (try simp only [BB] at f) <;> (try simp only [numOk, verOk] at f)) | (have ee := True.intro; first | (refine call_hd [0] [512] (l01PickInt code hb [4000, 4000, 4000, 300, 100] (by simp) (by simp) _ _ (by assumption)) (by decide) ?_ rfl ?_; (focus (first | rfl | (simp (maxSteps := 1000000) (disch := first | omega | (simp only [LN, numOk, verOk, rfP, rvP, rhP, frP, curB, bkd, elOk_en, elOk_nd, nfx_en, nfx_nd] <;> omega) | exact Ck.mk rfl) only [VC, T, Nat.reduceMul, Nat.reduceAdd, Nat.reduceSub, Nat.reduceLT, Nat.reduceEqDiff, Nat.reduceLeDiff, Nat.reduceBEq, reduceCtorEq, Int.reduceToNat, ↓reduceIte, rfP, rvP, rhP, frP, curB, bkd, elOk_en, elOk_nd, nfx_en, nfx_nd]; done))); rintro _ _ ⟨⟨y, rfl, hy⟩, i', h', rfl, hc'⟩) | (refine call_h [] [] (spec_DiskNew_N _) (by decide) rfl rfl ?_; rintro _ _ ⟨rfl, rfl⟩))) <;> (try simp (maxSteps := 1000000) (disch := first | omega | (simp only [LN, numOk, verOk, rfP, rvP, rhP, frP, curB, bkd, elOk_en, elOk_nd, nfx_en, nfx_nd] <;> omega) | exact Ck.mk rfl) only [ee, VC, T, Nat.reduceMul, Nat.reduceAdd, Nat.reduceSub, Nat.reduceLT, Nat.reduceEqDiff, Nat.reduceLeDiff, Nat.reduceBEq, reduceCtorEq, Int.reduceToNat, ↓reduceIte, rfP, rvP, rhP, frP, curB, bkd, elOk_en, elOk_nd, nfx_en, nfx_nd]) <;> (try clear ee))
  refine lp_im (fun x : Nat × Dk × Int × Int => ⟨78, [(0, .ref 0 0), (2, .ref 192 0), (3, .ref 256 0), (4, .int .i64 x.1)], [(0, curB code x.2.2.1 x.2.2.2), (192, .box 32 [.nils, .nils, .nils, .nils, .int .i64 0, .int .i64 0]), (256, .box 32 [.row 9000 x.2.1.1.length, .row 9001 x.2.1.2.1.length, .row 9002 x.2.1.2.2.1.length, .row 9003 x.2.1.2.2.2.1.length, .int .i64 x.2.1.2.2.2.2.1, .int .i64 x.2.1.2.2.2.2.2]), (9000, .row ⟨3, 0⟩ (x.2.1.1.map ndP)), (9001, .row ⟨2, 0⟩ (x.2.1.2.1.map enP)), (9002, .row ⟨2, 0⟩ (x.2.1.2.2.1.map enP)), (9003, .row ⟨1, 0⟩ (x.2.1.2.2.2.1.map .str))]⟩) (fun x => x.1 ≤ 8 ∧ DkB (2 * x.1) (64 + 12 * x.1) x.2.1 ∧ CurOk code x.2.2.1 x.2.2.2) (fun x => 8 - x.1) (0, newT y, i', h') ?_ ⟨Nat.zero_le _, newT_B _ _ _, hc'⟩ ?_
  · refine Im.trans ?_ (Im.nilB 256 9000 ⟨3, 0⟩ 0 (by decide) rfl rfl rfl)
    refine Im.trans ?_ (Im.nilB 256 9001 ⟨2, 0⟩ 1 (by decide) rfl rfl rfl)
    refine Im.trans ?_ (Im.nilB 256 9002 ⟨2, 0⟩ 2 (by decide) rfl rfl rfl)
    refine Im.trans ?_ (Im.nilB 256 9003 ⟨1, 0⟩ 3 (by decide) rfl rfl rfl)
    refine Im.sub ?_
    unfold newT
    (simp (disch := first | omega | (simp only [LN, numOk, verOk, curB] <;> omega) | exact Ck.mk rfl) only [SB, EQ, Nat.reduceMul, Nat.reduceAdd, Nat.reduceSub, Nat.reduceLT, Nat.reduceEqDiff, Nat.reduceLeDiff, Nat.reduceBEq, reduceCtorEq, Int.reduceToNat, ↓reduceIte, curB]; try omega)
    rfl
  · rintro ⟨k, d, i, h⟩ ⟨hk, hd, hc⟩ N hN
    simp only at hk hd hc hN ⊢
    refine Wr.go ?_
    repeat' ((first | (have ee := True.intro; refine Wr.mk ?_) | ((first | refine br_go ?_ ?_ | refine pick_go ?_ ?_) <;> intro ee f <;> (try simp only [BB] at f) <;> (try simp only [numOk, verOk] at f)) | (have ee := True.intro; first | refine dr_go mixed (id := 16) [([], [3], [0, 4096]), ([], [5], []), ([], [0], []), ([], [], []), ([2, 3], [62, 63], []), ([0, 1, 2, 3, 4], [60, 61, 64], []), ([0, 1, 2, 3, 4, 5], [65], []), ([0, 1, 2, 3, 4, 5, 6], [59], []), ([0, 1, 2, 3, 4, 5, 6], [59], [256]), ([0, 1, 2, 3, 4, 5, 6, 7], [3, 66], [])] rfl rfl rfl ?_ | refine dr_go mixed (id := 8) [([], [3], [0]), ([], [5], []), ([], [0], []), ([], [0], []), ([3], [31], []), ([2, 3, 4], [30, 32], []), ([0, 1, 2, 3, 4, 5], [28, 29, 33], []), ([0, 1, 2, 3, 4, 5, 6], [34], []), ([0, 1, 2, 3, 4, 5, 6, 7], [27], []), ([0, 1, 2, 3, 4, 5, 6, 7], [27], [256]), ([0, 1, 2, 3, 4, 5, 6, 7, 8], [3, 35], [])] rfl rfl rfl ?_ | (refine call_h [0] [] (l01Below code hb _ (by omega) _ _ (by assumption)) (by decide) rfl rfl ?_; rintro _ _ ⟨⟨x, rfl, hx1, hx2⟩, i', h', rfl, hc'⟩) | (refine call_hd [0] [1152] (l01Pick code hb [⟨#[97]⟩, ⟨#[98]⟩, ⟨#[115, 48, 48, 48, 48, 48, 48, 48, 48, 46, 115, 101, 103]⟩, ⟨#[115, 48, 48, 48, 48, 48, 48, 48, 51, 46, 115, 101, 103]⟩, ⟨#[115, 48, 48, 48, 48, 48, 48, 48, 48, 46, 115, 101, 103, 46, 116, 109, 112]⟩, ⟨#[99]⟩] (by simp) (by simp) _ _ (by assumption)) (by decide) ?_ rfl ?_; (focus (first | rfl | (simp (maxSteps := 1000000) (disch := first | omega | (simp only [LN, numOk, verOk, rfP, rvP, rhP, frP, curB, bkd, elOk_en, elOk_nd, nfx_en, nfx_nd, dkP, dkR, dkH] <;> omega) | exact Ck.mk rfl) only [VC, T, Nat.reduceMul, Nat.reduceAdd, Nat.reduceSub, Nat.reduceLT, Nat.reduceEqDiff, Nat.reduceLeDiff, Nat.reduceBEq, reduceCtorEq, Int.reduceToNat, ↓reduceIte, rfP, rvP, rhP, frP, curB, bkd, elOk_en, elOk_nd, nfx_en, nfx_nd, dkP, dkR, dkH]; done))); rintro _ _ ⟨⟨t, rfl, ht⟩, i', h', rfl, hc'⟩) | (refine call_hd [0] [4096] (l01Pick code hb [⟨#[98]⟩, ⟨#[120]⟩, ⟨#[115, 48, 48, 48, 48, 48, 48, 48, 51, 46, 115, 101, 103]⟩] (by simp) (by simp) _ _ (by assumption)) (by decide) ?_ rfl ?_; (focus (first | rfl | (simp (maxSteps := 1000000) (disch := first | omega | (simp only [LN, numOk, verOk, rfP, rvP, rhP, frP, curB, bkd, elOk_en, elOk_nd, nfx_en, nfx_nd, dkP, dkR, dkH] <;> omega) | exact Ck.mk rfl) only [VC, T, Nat.reduceMul, Nat.reduceAdd, Nat.reduceSub, Nat.reduceLT, Nat.reduceEqDiff, Nat.reduceLeDiff, Nat.reduceBEq, reduceCtorEq, Int.reduceToNat, ↓reduceIte, rfP, rvP, rhP, frP, curB, bkd, elOk_en, elOk_nd, nfx_en, nfx_nd, dkP, dkR, dkH]; done))); rintro _ _ ⟨⟨t2, rfl, ht2⟩, i', h', rfl, hc'⟩) | (refine call_h [0] [] (l01Text code hb _ (by omega) _ _ (by assumption)) (by decide) rfl rfl ?_; rintro _ _ ⟨⟨u, rfl, hu⟩, i', h', rfl, hc'⟩) | (refine call_h [] [9000,9001,9002,9003] (spec_RemoveFile_R d t (hd.mono (by omega) (by omega)) (by have := names_le t ht; omega)) (by decide) ?_ rfl ?_; (focus (first | rfl | (simp (maxSteps := 1000000) (disch := first | omega | (simp only [LN, numOk, verOk, rfP, rvP, rhP, frP, curB, bkd, elOk_en, elOk_nd, nfx_en, nfx_nd, dkP, dkR, dkH] <;> omega) | exact Ck.mk rfl) only [VC, T, Nat.reduceMul, Nat.reduceAdd, Nat.reduceSub, Nat.reduceLT, Nat.reduceEqDiff, Nat.reduceLeDiff, Nat.reduceBEq, reduceCtorEq, Int.reduceToNat, ↓reduceIte, rfP, rvP, rhP, frP, curB, bkd, elOk_en, elOk_nd, nfx_en, nfx_nd, dkP, dkR, dkH]; done))); rintro _ _ ⟨rfl, rfl⟩) | (refine call_h [] [9000,9001,9002,9003] (spec_SyncNames_R d (hd.mono (by omega) (by omega))) (by decide) ?_ rfl ?_; (focus (first | rfl | (simp (maxSteps := 1000000) (disch := first | omega | (simp only [LN, numOk, verOk, rfP, rvP, rhP, frP, curB, bkd, elOk_en, elOk_nd, nfx_en, nfx_nd, dkP, dkR, dkH] <;> omega) | exact Ck.mk rfl) only [VC, T, Nat.reduceMul, Nat.reduceAdd, Nat.reduceSub, Nat.reduceLT, Nat.reduceEqDiff, Nat.reduceLeDiff, Nat.reduceBEq, reduceCtorEq, Int.reduceToNat, ↓reduceIte, rfP, rvP, rhP, frP, curB, bkd, elOk_en, elOk_nd, nfx_en, nfx_nd, dkP, dkR, dkH]; done))); rintro _ _ ⟨rfl, rfl⟩) | (refine call_h [] [9000,9001,9002,9003] (spec_SyncFile_R d t (hd.mono (by omega) (by omega))) (by decide) ?_ rfl ?_; (focus (first | rfl | (simp (maxSteps := 1000000) (disch := first | omega | (simp only [LN, numOk, verOk, rfP, rvP, rhP, frP, curB, bkd, elOk_en, elOk_nd, nfx_en, nfx_nd, dkP, dkR, dkH] <;> omega) | exact Ck.mk rfl) only [VC, T, Nat.reduceMul, Nat.reduceAdd, Nat.reduceSub, Nat.reduceLT, Nat.reduceEqDiff, Nat.reduceLeDiff, Nat.reduceBEq, reduceCtorEq, Int.reduceToNat, ↓reduceIte, rfP, rvP, rhP, frP, curB, bkd, elOk_en, elOk_nd, nfx_en, nfx_nd, dkP, dkR, dkH]; done))); rintro _ _ ⟨rfl, rfl⟩) | (refine call_h [] [9000,9001,9002,9003] (spec_RenameFile_R d t t2 (hd.mono (by omega) (by omega)) (by have := names_le t ht; have := tos_le t2 ht2; omega)) (by decide) ?_ rfl ?_; (focus (first | rfl | (simp (maxSteps := 1000000) (disch := first | omega | (simp only [LN, numOk, verOk, rfP, rvP, rhP, frP, curB, bkd, elOk_en, elOk_nd, nfx_en, nfx_nd, dkP, dkR, dkH] <;> omega) | exact Ck.mk rfl) only [VC, T, Nat.reduceMul, Nat.reduceAdd, Nat.reduceSub, Nat.reduceLT, Nat.reduceEqDiff, Nat.reduceLeDiff, Nat.reduceBEq, reduceCtorEq, Int.reduceToNat, ↓reduceIte, rfP, rvP, rhP, frP, curB, bkd, elOk_en, elOk_nd, nfx_en, nfx_nd, dkP, dkR, dkH]; done))); rintro _ _ ⟨rfl, rfl⟩) | (refine call_h [] [9000,9001,9002,9003] (spec_CreateFile_R d t (hd.mono (by omega) (by omega)) (by have := names_le t ht; omega)) (by decide) ?_ rfl ?_; (focus (first | rfl | (simp (maxSteps := 1000000) (disch := first | omega | (simp only [LN, numOk, verOk, rfP, rvP, rhP, frP, curB, bkd, elOk_en, elOk_nd, nfx_en, nfx_nd, dkP, dkR, dkH] <;> omega) | exact Ck.mk rfl) only [VC, T, Nat.reduceMul, Nat.reduceAdd, Nat.reduceSub, Nat.reduceLT, Nat.reduceEqDiff, Nat.reduceLeDiff, Nat.reduceBEq, reduceCtorEq, Int.reduceToNat, ↓reduceIte, rfP, rvP, rhP, frP, curB, bkd, elOk_en, elOk_nd, nfx_en, nfx_nd, dkP, dkR, dkH]; done))); rintro _ _ ⟨rfl, rfl⟩) | (refine call_h [] [1600,1601,1602,1603] (spec_AppendFile_R (createT d t).1 t u ((createT_B hd t (by have := names_le t ht; omega)).mono (by omega) (by omega)) (by unfold SzIn at hu; omega)) (by decide) ?_ rfl ?_; (focus (first | rfl | (simp (maxSteps := 1000000) (disch := first | omega | (simp only [LN, numOk, verOk, rfP, rvP, rhP, frP, curB, bkd, elOk_en, elOk_nd, nfx_en, nfx_nd, dkP, dkR, dkH] <;> omega) | exact Ck.mk rfl) only [VC, T, Nat.reduceMul, Nat.reduceAdd, Nat.reduceSub, Nat.reduceLT, Nat.reduceEqDiff, Nat.reduceLeDiff, Nat.reduceBEq, reduceCtorEq, Int.reduceToNat, ↓reduceIte, rfP, rvP, rhP, frP, curB, bkd, elOk_en, elOk_nd, nfx_en, nfx_nd, dkP, dkR, dkH]; done))); rintro _ _ ⟨rfl, rfl⟩))) <;> (try simp (maxSteps := 1000000) (disch := first | omega | (simp only [LN, numOk, verOk, rfP, rvP, rhP, frP, curB, bkd, elOk_en, elOk_nd, nfx_en, nfx_nd, dkP, dkR, dkH] <;> omega) | exact Ck.mk rfl) only [ee, VC, T, Nat.reduceMul, Nat.reduceAdd, Nat.reduceSub, Nat.reduceLT, Nat.reduceEqDiff, Nat.reduceLeDiff, Nat.reduceBEq, reduceCtorEq, Int.reduceToNat, ↓reduceIte, rfP, rvP, rhP, frP, curB, bkd, elOk_en, elOk_nd, nfx_en, nfx_nd, dkP, dkR, dkH]) <;> (try clear ee))
    · refine hN (k + 1, (removeT d t).1, i', h') _ ⟨by simp only; omega, (removeT_B hd t (by have := names_le t ht; omega)).mono (by simp only; omega) (by simp only; omega), by assumption⟩ (by simp only; omega) (Im.trans (Im.sub ?_) (Im.trans (Im.renB 256 2755 9003 (by rfl) (by rfl) (by rfl) (by decide)) (Im.trans (Im.renB 256 2754 9002 (by rfl) (by rfl) (by rfl) (by decide)) (Im.trans (Im.renB 256 2753 9001 (by rfl) (by rfl) (by rfl) (by decide)) (Im.trans (Im.renB 256 2752 9000 (by rfl) (by rfl) (by rfl) (by decide)) (Im.sub (s' := ⟨78, [(0, .ref 0 0), (2, .ref 192 0), (3, .ref 256 0), (4, .int .i64 ((k : Int) + 1))], [(0, curB code i' h'), (192, .box 32 [.nils, .nils, .nils, .nils, .int .i64 0, .int .i64 0]), (256, .box 32 [.row 2752 (removeT d t).1.1.length, .row 2753 (removeT d t).1.2.1.length, .row 2754 (removeT d t).1.2.2.1.length, .row 2755 (removeT d t).1.2.2.2.1.length, .int .i64 (removeT d t).1.2.2.2.2.1, .int .i64 (removeT d t).1.2.2.2.2.2]), (2752, .row ⟨3, 0⟩ ((removeT d t).1.1.map ndP)), (2753, .row ⟨2, 0⟩ ((removeT d t).1.2.1.map enP)), (2754, .row ⟨2, 0⟩ ((removeT d t).1.2.2.1.map enP)), (2755, .row ⟨1, 0⟩ ((removeT d t).1.2.2.2.1.map .str))]⟩) ?_))))))
      · (simp (disch := first | omega | (simp only [LN, numOk, verOk, mvH, rn1, curB] <;> omega) | exact Ck.mk rfl) only [SB, EQ, Nat.reduceMul, Nat.reduceAdd, Nat.reduceSub, Nat.reduceLT, Nat.reduceEqDiff, Nat.reduceLeDiff, Nat.reduceBEq, reduceCtorEq, Int.reduceToNat, ↓reduceIte, mvH, rn1, curB]; try omega)
        rfl
      · (simp (disch := first | omega | (simp only [LN, numOk, verOk, curB] <;> omega) | exact Ck.mk rfl) only [SB, EQ, Nat.reduceMul, Nat.reduceAdd, Nat.reduceSub, Nat.reduceLT, Nat.reduceEqDiff, Nat.reduceLeDiff, Nat.reduceBEq, reduceCtorEq, Int.reduceToNat, ↓reduceIte, curB]; try omega)
    · refine hN (k + 1, (syncNamesT d), i', h') _ ⟨by simp only; omega, (syncNamesT_B hd).mono (by simp only; omega) (by simp only; omega), by assumption⟩ (by simp only; omega) (Im.trans (Im.sub ?_) (Im.trans (Im.renB 256 3139 9003 (by rfl) (by rfl) (by rfl) (by decide)) (Im.trans (Im.renB 256 3138 9002 (by rfl) (by rfl) (by rfl) (by decide)) (Im.trans (Im.renB 256 3137 9001 (by rfl) (by rfl) (by rfl) (by decide)) (Im.trans (Im.renB 256 3136 9000 (by rfl) (by rfl) (by rfl) (by decide)) (Im.sub (s' := ⟨78, [(0, .ref 0 0), (2, .ref 192 0), (3, .ref 256 0), (4, .int .i64 ((k : Int) + 1))], [(0, curB code i' h'), (192, .box 32 [.nils, .nils, .nils, .nils, .int .i64 0, .int .i64 0]), (256, .box 32 [.row 3136 (syncNamesT d).1.length, .row 3137 (syncNamesT d).2.1.length, .row 3138 (syncNamesT d).2.2.1.length, .row 3139 (syncNamesT d).2.2.2.1.length, .int .i64 (syncNamesT d).2.2.2.2.1, .int .i64 (syncNamesT d).2.2.2.2.2]), (3136, .row ⟨3, 0⟩ ((syncNamesT d).1.map ndP)), (3137, .row ⟨2, 0⟩ ((syncNamesT d).2.1.map enP)), (3138, .row ⟨2, 0⟩ ((syncNamesT d).2.2.1.map enP)), (3139, .row ⟨1, 0⟩ ((syncNamesT d).2.2.2.1.map .str))]⟩) ?_))))))
      · (simp (disch := first | omega | (simp only [LN, numOk, verOk, mvH, rn1, curB] <;> omega) | exact Ck.mk rfl) only [SB, EQ, Nat.reduceMul, Nat.reduceAdd, Nat.reduceSub, Nat.reduceLT, Nat.reduceEqDiff, Nat.reduceLeDiff, Nat.reduceBEq, reduceCtorEq, Int.reduceToNat, ↓reduceIte, mvH, rn1, curB]; try omega)
        rfl
      · (simp (disch := first | omega | (simp only [LN, numOk, verOk, curB] <;> omega) | exact Ck.mk rfl) only [SB, EQ, Nat.reduceMul, Nat.reduceAdd, Nat.reduceSub, Nat.reduceLT, Nat.reduceEqDiff, Nat.reduceLeDiff, Nat.reduceBEq, reduceCtorEq, Int.reduceToNat, ↓reduceIte, curB]; try omega)
    · refine hN (k + 1, (syncT d t).1, i', h') _ ⟨by simp only; omega, (syncT_B hd t).mono (by simp only; omega) (by simp only; omega), by assumption⟩ (by simp only; omega) (Im.trans (Im.sub ?_) (Im.trans (Im.renB 256 3523 9003 (by rfl) (by rfl) (by rfl) (by decide)) (Im.trans (Im.renB 256 3522 9002 (by rfl) (by rfl) (by rfl) (by decide)) (Im.trans (Im.renB 256 3521 9001 (by rfl) (by rfl) (by rfl) (by decide)) (Im.trans (Im.renB 256 3520 9000 (by rfl) (by rfl) (by rfl) (by decide)) (Im.sub (s' := ⟨78, [(0, .ref 0 0), (2, .ref 192 0), (3, .ref 256 0), (4, .int .i64 ((k : Int) + 1))], [(0, curB code i' h'), (192, .box 32 [.nils, .nils, .nils, .nils, .int .i64 0, .int .i64 0]), (256, .box 32 [.row 3520 (syncT d t).1.1.length, .row 3521 (syncT d t).1.2.1.length, .row 3522 (syncT d t).1.2.2.1.length, .row 3523 (syncT d t).1.2.2.2.1.length, .int .i64 (syncT d t).1.2.2.2.2.1, .int .i64 (syncT d t).1.2.2.2.2.2]), (3520, .row ⟨3, 0⟩ ((syncT d t).1.1.map ndP)), (3521, .row ⟨2, 0⟩ ((syncT d t).1.2.1.map enP)), (3522, .row ⟨2, 0⟩ ((syncT d t).1.2.2.1.map enP)), (3523, .row ⟨1, 0⟩ ((syncT d t).1.2.2.2.1.map .str))]⟩) ?_))))))
      · (simp (disch := first | omega | (simp only [LN, numOk, verOk, mvH, rn1, curB] <;> omega) | exact Ck.mk rfl) only [SB, EQ, Nat.reduceMul, Nat.reduceAdd, Nat.reduceSub, Nat.reduceLT, Nat.reduceEqDiff, Nat.reduceLeDiff, Nat.reduceBEq, reduceCtorEq, Int.reduceToNat, ↓reduceIte, mvH, rn1, curB]; try omega)
        rfl
      · (simp (disch := first | omega | (simp only [LN, numOk, verOk, curB] <;> omega) | exact Ck.mk rfl) only [SB, EQ, Nat.reduceMul, Nat.reduceAdd, Nat.reduceSub, Nat.reduceLT, Nat.reduceEqDiff, Nat.reduceLeDiff, Nat.reduceBEq, reduceCtorEq, Int.reduceToNat, ↓reduceIte, curB]; try omega)
    · refine hN (k + 1, (renameT d t t2).1, i', h') _ ⟨by simp only; omega, (renameT_B hd t t2 (by have := names_le t ht; have := tos_le t2 ht2; omega)).mono (by simp only; omega) (by simp only; omega), by assumption⟩ (by simp only; omega) (Im.trans (Im.sub ?_) (Im.trans (Im.renB 256 4227 9003 (by rfl) (by rfl) (by rfl) (by decide)) (Im.trans (Im.renB 256 4226 9002 (by rfl) (by rfl) (by rfl) (by decide)) (Im.trans (Im.renB 256 4225 9001 (by rfl) (by rfl) (by rfl) (by decide)) (Im.trans (Im.renB 256 4224 9000 (by rfl) (by rfl) (by rfl) (by decide)) (Im.sub (s' := ⟨78, [(0, .ref 0 0), (2, .ref 192 0), (3, .ref 256 0), (4, .int .i64 ((k : Int) + 1))], [(0, curB code i' h'), (192, .box 32 [.nils, .nils, .nils, .nils, .int .i64 0, .int .i64 0]), (256, .box 32 [.row 4224 (renameT d t t2).1.1.length, .row 4225 (renameT d t t2).1.2.1.length, .row 4226 (renameT d t t2).1.2.2.1.length, .row 4227 (renameT d t t2).1.2.2.2.1.length, .int .i64 (renameT d t t2).1.2.2.2.2.1, .int .i64 (renameT d t t2).1.2.2.2.2.2]), (4224, .row ⟨3, 0⟩ ((renameT d t t2).1.1.map ndP)), (4225, .row ⟨2, 0⟩ ((renameT d t t2).1.2.1.map enP)), (4226, .row ⟨2, 0⟩ ((renameT d t t2).1.2.2.1.map enP)), (4227, .row ⟨1, 0⟩ ((renameT d t t2).1.2.2.2.1.map .str))]⟩) ?_))))))
      · (simp (disch := first | omega | (simp only [LN, numOk, verOk, mvH, rn1, curB] <;> omega) | exact Ck.mk rfl) only [SB, EQ, Nat.reduceMul, Nat.reduceAdd, Nat.reduceSub, Nat.reduceLT, Nat.reduceEqDiff, Nat.reduceLeDiff, Nat.reduceBEq, reduceCtorEq, Int.reduceToNat, ↓reduceIte, mvH, rn1, curB]; try omega)
        rfl
      · (simp (disch := first | omega | (simp only [LN, numOk, verOk, curB] <;> omega) | exact Ck.mk rfl) only [SB, EQ, Nat.reduceMul, Nat.reduceAdd, Nat.reduceSub, Nat.reduceLT, Nat.reduceEqDiff, Nat.reduceLeDiff, Nat.reduceBEq, reduceCtorEq, Int.reduceToNat, ↓reduceIte, curB]; try omega)
    · refine hN (k + 1, (createT d t).1, i', h') _ ⟨by simp only; omega, (createT_B hd t (by have := names_le t ht; omega)).mono (by simp only; omega) (by simp only; omega), by assumption⟩ (by simp only; omega) (Im.trans (Im.sub ?_) (Im.trans (Im.renB 256 4803 9003 (by rfl) (by rfl) (by rfl) (by decide)) (Im.trans (Im.renB 256 4802 9002 (by rfl) (by rfl) (by rfl) (by decide)) (Im.trans (Im.renB 256 4801 9001 (by rfl) (by rfl) (by rfl) (by decide)) (Im.trans (Im.renB 256 4800 9000 (by rfl) (by rfl) (by rfl) (by decide)) (Im.sub (s' := ⟨78, [(0, .ref 0 0), (2, .ref 192 0), (3, .ref 256 0), (4, .int .i64 ((k : Int) + 1))], [(0, curB code i' h'), (192, .box 32 [.nils, .nils, .nils, .nils, .int .i64 0, .int .i64 0]), (256, .box 32 [.row 4800 (createT d t).1.1.length, .row 4801 (createT d t).1.2.1.length, .row 4802 (createT d t).1.2.2.1.length, .row 4803 (createT d t).1.2.2.2.1.length, .int .i64 (createT d t).1.2.2.2.2.1, .int .i64 (createT d t).1.2.2.2.2.2]), (4800, .row ⟨3, 0⟩ ((createT d t).1.1.map ndP)), (4801, .row ⟨2, 0⟩ ((createT d t).1.2.1.map enP)), (4802, .row ⟨2, 0⟩ ((createT d t).1.2.2.1.map enP)), (4803, .row ⟨1, 0⟩ ((createT d t).1.2.2.2.1.map .str))]⟩) ?_))))))
      · (simp (disch := first | omega | (simp only [LN, numOk, verOk, mvH, rn1, curB] <;> omega) | exact Ck.mk rfl) only [SB, EQ, Nat.reduceMul, Nat.reduceAdd, Nat.reduceSub, Nat.reduceLT, Nat.reduceEqDiff, Nat.reduceLeDiff, Nat.reduceBEq, reduceCtorEq, Int.reduceToNat, ↓reduceIte, mvH, rn1, curB]; try omega)
        rfl
      · (simp (disch := first | omega | (simp only [LN, numOk, verOk, curB] <;> omega) | exact Ck.mk rfl) only [SB, EQ, Nat.reduceMul, Nat.reduceAdd, Nat.reduceSub, Nat.reduceLT, Nat.reduceEqDiff, Nat.reduceLeDiff, Nat.reduceBEq, reduceCtorEq, Int.reduceToNat, ↓reduceIte, curB]; try omega)
    · refine hN (k + 1, (createT d t).1, i', h') _ ⟨by simp only; omega, (createT_B hd t (by have := names_le t ht; omega)).mono (by simp only; omega) (by simp only; omega), by assumption⟩ (by simp only; omega) (Im.trans (Im.sub ?_) (Im.trans (Im.renB 256 4803 9003 (by rfl) (by rfl) (by rfl) (by decide)) (Im.trans (Im.renB 256 4802 9002 (by rfl) (by rfl) (by rfl) (by decide)) (Im.trans (Im.renB 256 4801 9001 (by rfl) (by rfl) (by rfl) (by decide)) (Im.trans (Im.renB 256 4800 9000 (by rfl) (by rfl) (by rfl) (by decide)) (Im.sub (s' := ⟨78, [(0, .ref 0 0), (2, .ref 192 0), (3, .ref 256 0), (4, .int .i64 ((k : Int) + 1))], [(0, curB code i' h'), (192, .box 32 [.nils, .nils, .nils, .nils, .int .i64 0, .int .i64 0]), (256, .box 32 [.row 4800 (createT d t).1.1.length, .row 4801 (createT d t).1.2.1.length, .row 4802 (createT d t).1.2.2.1.length, .row 4803 (createT d t).1.2.2.2.1.length, .int .i64 (createT d t).1.2.2.2.2.1, .int .i64 (createT d t).1.2.2.2.2.2]), (4800, .row ⟨3, 0⟩ ((createT d t).1.1.map ndP)), (4801, .row ⟨2, 0⟩ ((createT d t).1.2.1.map enP)), (4802, .row ⟨2, 0⟩ ((createT d t).1.2.2.1.map enP)), (4803, .row ⟨1, 0⟩ ((createT d t).1.2.2.2.1.map .str))]⟩) ?_))))))
      · (simp (disch := first | omega | (simp only [LN, numOk, verOk, mvH, rn1, curB] <;> omega) | exact Ck.mk rfl) only [SB, EQ, Nat.reduceMul, Nat.reduceAdd, Nat.reduceSub, Nat.reduceLT, Nat.reduceEqDiff, Nat.reduceLeDiff, Nat.reduceBEq, reduceCtorEq, Int.reduceToNat, ↓reduceIte, mvH, rn1, curB]; try omega)
        rfl
      · (simp (disch := first | omega | (simp only [LN, numOk, verOk, curB] <;> omega) | exact Ck.mk rfl) only [SB, EQ, Nat.reduceMul, Nat.reduceAdd, Nat.reduceSub, Nat.reduceLT, Nat.reduceEqDiff, Nat.reduceLeDiff, Nat.reduceBEq, reduceCtorEq, Int.reduceToNat, ↓reduceIte, curB]; try omega)
    · refine hN (k + 1, (appendT (createT d t).1 t u).1, i', h') _ ⟨by simp only; omega, (appendT_B (createT_B hd t (by have := names_le t ht; omega)) t u).mono (by simp only; omega) (by unfold SzIn at hu; simp only; omega), by assumption⟩ (by simp only; omega) (Im.trans (Im.sub ?_) (Im.trans (Im.renB 256 2243 9003 (by rfl) (by rfl) (by rfl) (by decide)) (Im.trans (Im.renB 256 2242 9002 (by rfl) (by rfl) (by rfl) (by decide)) (Im.trans (Im.renB 256 2241 9001 (by rfl) (by rfl) (by rfl) (by decide)) (Im.trans (Im.renB 256 2240 9000 (by rfl) (by rfl) (by rfl) (by decide)) (Im.sub (s' := ⟨78, [(0, .ref 0 0), (2, .ref 192 0), (3, .ref 256 0), (4, .int .i64 ((k : Int) + 1))], [(0, curB code i' h'), (192, .box 32 [.nils, .nils, .nils, .nils, .int .i64 0, .int .i64 0]), (256, .box 32 [.row 2240 (appendT (createT d t).1 t u).1.1.length, .row 2241 (appendT (createT d t).1 t u).1.2.1.length, .row 2242 (appendT (createT d t).1 t u).1.2.2.1.length, .row 2243 (appendT (createT d t).1 t u).1.2.2.2.1.length, .int .i64 (appendT (createT d t).1 t u).1.2.2.2.2.1, .int .i64 (appendT (createT d t).1 t u).1.2.2.2.2.2]), (2240, .row ⟨3, 0⟩ ((appendT (createT d t).1 t u).1.1.map ndP)), (2241, .row ⟨2, 0⟩ ((appendT (createT d t).1 t u).1.2.1.map enP)), (2242, .row ⟨2, 0⟩ ((appendT (createT d t).1 t u).1.2.2.1.map enP)), (2243, .row ⟨1, 0⟩ ((appendT (createT d t).1 t u).1.2.2.2.1.map .str))]⟩) ?_))))))
      · (simp (disch := first | omega | (simp only [LN, numOk, verOk, mvH, rn1, curB] <;> omega) | exact Ck.mk rfl) only [SB, EQ, Nat.reduceMul, Nat.reduceAdd, Nat.reduceSub, Nat.reduceLT, Nat.reduceEqDiff, Nat.reduceLeDiff, Nat.reduceBEq, reduceCtorEq, Int.reduceToNat, ↓reduceIte, mvH, rn1, curB]; try omega)
        rfl
      · (simp (disch := first | omega | (simp only [LN, numOk, verOk, curB] <;> omega) | exact Ck.mk rfl) only [SB, EQ, Nat.reduceMul, Nat.reduceAdd, Nat.reduceSub, Nat.reduceLT, Nat.reduceEqDiff, Nat.reduceLeDiff, Nat.reduceBEq, reduceCtorEq, Int.reduceToNat, ↓reduceIte, curB]; try omega)
    · exact fin_t [some 9000, some 9001, some 9002, some 9003] (⟨d, _, _, rfl, rfl, hd.mono (by omega) (by omega), by assumption⟩) rfl (by simp [RV, RV2, RVl, RV1, tau, tget, hget, data1, oneOf, curB, dkR, dkH]) (by simp [RH, RVl, RV1, tau, hget, data1, curB, dkR, dkH]) (by simp [Taus, hget, curB, dkR, dkH])
end Go.Pv

/- What functions of the program and of the reference do, in plain values. -/
namespace Go.Pv
open Go.Proofs Go.Mth
set_option linter.unusedSimpArgs false
set_option linter.unusedVariables false
set_option maxHeartbeats 4000000
set_option maxRecDepth 4000

/-! ### draws of disks: any disk -/
theorem steps_le (t : ByteArray) (h : MemT [⟨#[45, 97]⟩, ⟨#[43, 113, 58, 49]⟩, ⟨#[120]⟩, ⟨#[]⟩, ⟨#[43, 113, 58, 57]⟩, ⟨#[45, 122, 122]⟩, ⟨#[43, 58, 49]⟩, ⟨#[43, 113, 58]⟩] t) : t.size ≤ 4 := by
  simp only [MemT, List.mem_cons, List.not_mem_nil, or_false] at h
  rcases h with rfl | rfl | rfl | rfl | rfl | rfl | rfl | rfl <;> decide
set_option maxRecDepth 20000 in
theorem l05Any (code : List Int) (hb : Bytes code) (i h : Int) (hc : CurOk code i h) : FnE Tryz.prog 138 [.ref 0 0] [(0, curB code i h)] (CQ code (isDk 17 160)) := by
  have hg : ∀ (d : Dk) (j : Nat), j < d.1.length → (d.1.map ndP).getD j .junk = .agg [.int .i64 (d.1.getD j default).1, .str (d.1.getD j default).2.1, .int .i64 (d.1.getD j default).2.2] := fun d j h => by
    rw [List.getD_eq_getElem?_getD, List.getElem?_map, List.getElem?_eq_getElem h, List.getD_eq_getElem?_getD, List.getElem?_eq_getElem h]; rfl
  have hu0 : ∀ a b c z : PV, upd (.agg [a, b, c]) 0 [z] = .agg [z, b, c] := fun _ _ _ _ => rfl
  have hu2 : ∀ a b c z : PV, upd (.agg [a, b, c]) 2 [z] = .agg [a, b, z] := fun _ _ _ _ => rfl
  refine fn_e tok (n := 77) (rs := [.cell 2 32]) Tryz.func138 (by decide) rfl rfl rfl rfl (low_of rfl) ?_
  refine Wr.go ?_
  repeat' ((first | (have ee := True.intro; refine Wr.mk ?_) | ((first | refine br_go ?_ ?_ | refine pick_go ?_ ?_) <;> intro ee f <;> (try simp only [BB] at f) <;> (try simp only [numOk, verOk] at f)) | (have ee := True.intro; first | (refine call_h [0] [] (l05Disk_R code hb _ _ (by assumption)) (by decide) rfl rfl ?_; rintro _ _ ⟨d, i', h', rfl, rfl, hd, hc'⟩))) <;> (try simp (maxSteps := 1000000) (disch := first | omega | (simp only [LN, numOk, verOk, rfP, rvP, rhP, frP, curB, bkd, elOk_en, elOk_nd, nfx_en, nfx_nd, dkR, dkH] <;> omega) | exact Ck.mk rfl) only [ee, VC, T, Nat.reduceMul, Nat.reduceAdd, Nat.reduceSub, Nat.reduceLT, Nat.reduceEqDiff, Nat.reduceLeDiff, Nat.reduceBEq, reduceCtorEq, Int.reduceToNat, ↓reduceIte, rfP, rvP, rhP, frP, curB, bkd, elOk_en, elOk_nd, nfx_en, nfx_nd, dkR, dkH]) <;> (try clear ee))
  have hq := (hd.mono (by decide) (by decide) : DkB 17 160 d)
  have hd1 := hd.ns
  have hd2 := hd.es
  have hd3 := hd.os
  have hd4 := hd.ss
  refine Wr.go ?_
  repeat' ((first | (have ee := True.intro; refine Wr.mk ?_) | ((first | refine br_go ?_ ?_ | refine pick_go ?_ ?_) <;> intro ee f <;> (try simp only [BB] at f) <;> (try simp only [numOk, verOk] at f)) | (have ee := True.intro; first | refine dr_go mixed (id := 8) [([], [3], [0]), ([0], [22], [0]), ([], [0], []), ([2], [24], []), ([2, 3], [25], []), ([2, 3, 4], [26], []), ([0, 1, 2, 3, 4, 5], [23, 27], []), ([0, 1, 2, 3, 4, 5, 6], [3], []), ([0, 1, 2, 3, 4, 5, 6, 7], [28, 29], [])] rfl rfl rfl ?_ | refine dr_go mixed (id := 12) [([], [3], [0, 2816]), ([0], [40], [0, 2816]), ([], [0], []), ([], [], []), ([2, 3], [42, 43], []), ([2, 3, 4], [44], []), ([0, 1, 2, 3, 4, 5], [41, 45], []), ([0, 1, 2, 3, 4, 5, 6], [3], []), ([0, 1, 2, 3, 4, 5, 6, 7], [46, 47], [])] rfl rfl rfl ?_ | refine dr_go mixed (id := 15) [([], [3], [0, 3712]), ([0], [54], [0, 3712]), ([], [0], []), ([], [], []), ([2, 3], [56, 57], []), ([0, 1, 2, 3, 4], [55], []), ([0, 1, 2, 3, 4, 5], [59], []), ([0, 1, 2, 3, 4, 5, 6], [58, 60], [])] rfl rfl rfl ?_ | refine dr_go mixed (id := 18) [([], [3], []), ([0], [67], []), ([], [3], []), ([2], [69], []), ([2, 3], [70], []), ([2, 3, 4], [71], []), ([2, 3, 4, 5], [72], []), ([0, 1, 2, 3, 4, 5, 6], [68], []), ([0, 1, 2, 3, 4, 5, 6, 7], [74], []), ([0, 1, 2, 3, 4, 5, 6, 7, 8], [73, 75], [])] rfl rfl rfl ?_ | (refine call_h [0] [] (l01Below code hb _ (by omega) _ _ (by assumption)) (by decide) rfl rfl ?_; rintro _ _ ⟨⟨x, rfl, hx1, hx2⟩, i', h', rfl, hc'⟩) | (refine call_hd [0] [768] (l01PickInt code hb [-1, 0, 5, 1000000001] (by simp) (by simp) _ _ (by assumption)) (by decide) ?_ rfl ?_; (focus (first | rfl | (simp (maxSteps := 1000000) (disch := first | omega | (simp only [LN, numOk, verOk, rfP, rvP, rhP, frP, curB, bkd, elOk_en, elOk_nd, nfx_en, nfx_nd, hg, hu0, hu2] <;> omega) | exact Ck.mk rfl) only [VC, T, Nat.reduceMul, Nat.reduceAdd, Nat.reduceSub, Nat.reduceLT, Nat.reduceEqDiff, Nat.reduceLeDiff, Nat.reduceBEq, reduceCtorEq, Int.reduceToNat, ↓reduceIte, rfP, rvP, rhP, frP, curB, bkd, elOk_en, elOk_nd, nfx_en, nfx_nd, hg, hu0, hu2]; done))); rintro _ _ ⟨⟨y, rfl, hy⟩, i', h', rfl, hc'⟩) | (refine call_hd [0] [1152] (l01PickInt code hb [0, 1, 2, -1, 9223372036854775807] (by simp) (by simp) _ _ (by assumption)) (by decide) ?_ rfl ?_; (focus (first | rfl | (simp (maxSteps := 1000000) (disch := first | omega | (simp only [LN, numOk, verOk, rfP, rvP, rhP, frP, curB, bkd, elOk_en, elOk_nd, nfx_en, nfx_nd, hg, hu0, hu2] <;> omega) | exact Ck.mk rfl) only [VC, T, Nat.reduceMul, Nat.reduceAdd, Nat.reduceSub, Nat.reduceLT, Nat.reduceEqDiff, Nat.reduceLeDiff, Nat.reduceBEq, reduceCtorEq, Int.reduceToNat, ↓reduceIte, rfP, rvP, rhP, frP, curB, bkd, elOk_en, elOk_nd, nfx_en, nfx_nd, hg, hu0, hu2]; done))); rintro _ _ ⟨⟨y, rfl, hy⟩, i', h', rfl, hc'⟩) | (refine call_hd [0] [2816] (l01Pick code hb [⟨#[45, 97]⟩, ⟨#[43, 113, 58, 49]⟩, ⟨#[120]⟩, ⟨#[]⟩, ⟨#[43, 113, 58, 57]⟩, ⟨#[45, 122, 122]⟩, ⟨#[43, 58, 49]⟩, ⟨#[43, 113, 58]⟩] (by simp) (by simp) _ _ (by assumption)) (by decide) ?_ rfl ?_; (focus (first | rfl | (simp (maxSteps := 1000000) (disch := first | omega | (simp only [LN, numOk, verOk, rfP, rvP, rhP, frP, curB, bkd, elOk_en, elOk_nd, nfx_en, nfx_nd, hg, hu0, hu2] <;> omega) | exact Ck.mk rfl) only [VC, T, Nat.reduceMul, Nat.reduceAdd, Nat.reduceSub, Nat.reduceLT, Nat.reduceEqDiff, Nat.reduceLeDiff, Nat.reduceBEq, reduceCtorEq, Int.reduceToNat, ↓reduceIte, rfP, rvP, rhP, frP, curB, bkd, elOk_en, elOk_nd, nfx_en, nfx_nd, hg, hu0, hu2]; done))); rintro _ _ ⟨⟨u, rfl, hu⟩, i', h', rfl, hc'⟩) | (refine call_hd [0] [3712] (l01PickInt code hb [-1, 0, 99] (by simp) (by simp) _ _ (by assumption)) (by decide) ?_ rfl ?_; (focus (first | rfl | (simp (maxSteps := 1000000) (disch := first | omega | (simp only [LN, numOk, verOk, rfP, rvP, rhP, frP, curB, bkd, elOk_en, elOk_nd, nfx_en, nfx_nd, hg, hu0, hu2] <;> omega) | exact Ck.mk rfl) only [VC, T, Nat.reduceMul, Nat.reduceAdd, Nat.reduceSub, Nat.reduceLT, Nat.reduceEqDiff, Nat.reduceLeDiff, Nat.reduceBEq, reduceCtorEq, Int.reduceToNat, ↓reduceIte, rfP, rvP, rhP, frP, curB, bkd, elOk_en, elOk_nd, nfx_en, nfx_nd, hg, hu0, hu2]; done))); rintro _ _ ⟨⟨y, rfl, hy⟩, i', h', rfl, hc'⟩))) <;> (try simp (maxSteps := 1000000) (disch := first | omega | (simp only [LN, numOk, verOk, rfP, rvP, rhP, frP, curB, bkd, elOk_en, elOk_nd, nfx_en, nfx_nd, hg, hu0, hu2] <;> omega) | exact Ck.mk rfl) only [ee, VC, T, Nat.reduceMul, Nat.reduceAdd, Nat.reduceSub, Nat.reduceLT, Nat.reduceEqDiff, Nat.reduceLeDiff, Nat.reduceBEq, reduceCtorEq, Int.reduceToNat, ↓reduceIte, rfP, rvP, rhP, frP, curB, bkd, elOk_en, elOk_nd, nfx_en, nfx_nd, hg, hu0, hu2]) <;> (try clear ee))
  · refine fin_c (y := .agg [.far (d.1.map ndP), .far (d.2.1.map enP), .far (d.2.2.1.map enP), .far (d.2.2.2.1.map .str), .int .i64 (y), .int .i64 (d.2.2.2.2.2)]) rfl (by first | rfl | (simp (maxSteps := 1000000) (disch := first | omega | (simp only [LN, numOk, verOk, rfP, rvP, rhP, frP, curB, bkd, elOk_en, elOk_nd, nfx_en, nfx_nd] <;> omega) | exact Ck.mk rfl) only [VC, T, Nat.reduceMul, Nat.reduceAdd, Nat.reduceSub, Nat.reduceLT, Nat.reduceEqDiff, Nat.reduceLeDiff, Nat.reduceBEq, reduceCtorEq, Int.reduceToNat, ↓reduceIte, rfP, rvP, rhP, frP, curB, bkd, elOk_en, elOk_nd, nfx_en, nfx_nd]; done)) rfl rfl ?_
    exact ⟨⟨(d.1, d.2.1, d.2.2.1, d.2.2.2.1, y, d.2.2.2.2.2), rfl, ⟨hq.ns, hq.es, hq.os, hq.ss, hq.nt, hq.et, hq.ot, hq.st⟩⟩, _, _, rfl, by assumption⟩
  · refine fin_c (y := .agg [.far (d.1.map ndP), .far (d.2.1.map enP), .far (d.2.2.1.map enP), .far (d.2.2.2.1.map .str), .int .i64 (d.2.2.2.2.1), .int .i64 (y)]) rfl (by first | rfl | (simp (maxSteps := 1000000) (disch := first | omega | (simp only [LN, numOk, verOk, rfP, rvP, rhP, frP, curB, bkd, elOk_en, elOk_nd, nfx_en, nfx_nd] <;> omega) | exact Ck.mk rfl) only [VC, T, Nat.reduceMul, Nat.reduceAdd, Nat.reduceSub, Nat.reduceLT, Nat.reduceEqDiff, Nat.reduceLeDiff, Nat.reduceBEq, reduceCtorEq, Int.reduceToNat, ↓reduceIte, rfP, rvP, rhP, frP, curB, bkd, elOk_en, elOk_nd, nfx_en, nfx_nd]; done)) rfl rfl ?_
    exact ⟨⟨(d.1, d.2.1, d.2.2.1, d.2.2.2.1, d.2.2.2.2.1, y), rfl, ⟨hq.ns, hq.es, hq.os, hq.ss, hq.nt, hq.et, hq.ot, hq.st⟩⟩, _, _, rfl, by assumption⟩
  · refine fin_c (y := .agg [.far (d.1.map ndP), .far (d.2.1.map enP ++ [.agg [.str ⟨#[122]⟩, .int .i64 x]]), .far (d.2.2.1.map enP), .far (d.2.2.2.1.map .str), .int .i64 (d.2.2.2.2.1), .int .i64 (d.2.2.2.2.2)]) rfl (by first | rfl | (simp (maxSteps := 1000000) (disch := first | omega | (simp only [LN, numOk, verOk, rfP, rvP, rhP, frP, curB, bkd, elOk_en, elOk_nd, nfx_en, nfx_nd] <;> omega) | exact Ck.mk rfl) only [VC, T, Nat.reduceMul, Nat.reduceAdd, Nat.reduceSub, Nat.reduceLT, Nat.reduceEqDiff, Nat.reduceLeDiff, Nat.reduceBEq, reduceCtorEq, Int.reduceToNat, ↓reduceIte, rfP, rvP, rhP, frP, curB, bkd, elOk_en, elOk_nd, nfx_en, nfx_nd]; done)) rfl rfl ?_
    exact ⟨⟨(d.1, d.2.1 ++ [(⟨#[122]⟩, x)], d.2.2.1, d.2.2.2.1, d.2.2.2.2.1, d.2.2.2.2.2), by unfold dkP; rw [List.map_append]; rfl, ⟨hq.ns, by rw [List.length_append, List.length_singleton]; omega, hq.os, hq.ss, hq.nt, mem_snoc hq.et (y := ((⟨#[122]⟩ : ByteArray), x)) (by show 1 ≤ 160; decide), hq.ot, hq.st⟩⟩, _, _, rfl, by assumption⟩
  · refine fin_c (y := .agg [.far (d.1.map ndP), .far (d.2.1.map enP), .far (d.2.2.1.map enP ++ [.agg [.str ⟨#[122]⟩, .int .i64 1]]), .far (d.2.2.2.1.map .str), .int .i64 (d.2.2.2.2.1), .int .i64 (d.2.2.2.2.2)]) rfl (by first | rfl | (simp (maxSteps := 1000000) (disch := first | omega | (simp only [LN, numOk, verOk, rfP, rvP, rhP, frP, curB, bkd, elOk_en, elOk_nd, nfx_en, nfx_nd] <;> omega) | exact Ck.mk rfl) only [VC, T, Nat.reduceMul, Nat.reduceAdd, Nat.reduceSub, Nat.reduceLT, Nat.reduceEqDiff, Nat.reduceLeDiff, Nat.reduceBEq, reduceCtorEq, Int.reduceToNat, ↓reduceIte, rfP, rvP, rhP, frP, curB, bkd, elOk_en, elOk_nd, nfx_en, nfx_nd]; done)) rfl rfl ?_
    exact ⟨⟨(d.1, d.2.1, d.2.2.1 ++ [(⟨#[122]⟩, 1)], d.2.2.2.1, d.2.2.2.2.1, d.2.2.2.2.2), by unfold dkP; rw [List.map_append]; rfl, ⟨hq.ns, hq.es, by rw [List.length_append, List.length_singleton]; omega, hq.ss, hq.nt, hq.et, mem_snoc hq.ot (by decide), hq.st⟩⟩, _, _, rfl, by assumption⟩
  · refine fin_c (y := .agg [.far (d.1.map ndP), .far (d.2.1.map enP), .far (d.2.2.1.map enP), .far ((d.2.2.2.1 ++ [u]).map .str), .int .i64 (d.2.2.2.2.1), .int .i64 (d.2.2.2.2.2)]) rfl (by first | rfl | (simp (maxSteps := 1000000) (disch := first | omega | (simp only [LN, numOk, verOk, rfP, rvP, rhP, frP, curB, bkd, elOk_en, elOk_nd, nfx_en, nfx_nd] <;> omega) | exact Ck.mk rfl) only [VC, T, Nat.reduceMul, Nat.reduceAdd, Nat.reduceSub, Nat.reduceLT, Nat.reduceEqDiff, Nat.reduceLeDiff, Nat.reduceBEq, reduceCtorEq, Int.reduceToNat, ↓reduceIte, rfP, rvP, rhP, frP, curB, bkd, elOk_en, elOk_nd, nfx_en, nfx_nd]; done)) rfl rfl ?_
    exact ⟨⟨(d.1, d.2.1, d.2.2.1, d.2.2.2.1 ++ [u], d.2.2.2.2.1, d.2.2.2.2.2), rfl, ⟨hq.ns, hq.es, hq.os, by rw [List.length_append, List.length_singleton]; omega, hq.nt, hq.et, hq.ot, mem_snoc hq.st (by have := steps_le u hu; omega)⟩⟩, _, _, rfl, by assumption⟩
  · refine fin_c (y := .agg [.far ((d.1.map ndP).set 0 (.agg [.int .i64 (d.1.getD 0 default).1, .str (d.1.getD 0 default).2.1, .int .i64 y])), .far (d.2.1.map enP), .far (d.2.2.1.map enP), .far (d.2.2.2.1.map .str), .int .i64 (d.2.2.2.2.1), .int .i64 (d.2.2.2.2.2)]) rfl (by first | rfl | (simp (maxSteps := 1000000) (disch := first | omega | (simp only [LN, numOk, verOk, rfP, rvP, rhP, frP, curB, bkd, elOk_en, elOk_nd, nfx_en, nfx_nd] <;> omega) | exact Ck.mk rfl) only [VC, T, Nat.reduceMul, Nat.reduceAdd, Nat.reduceSub, Nat.reduceLT, Nat.reduceEqDiff, Nat.reduceLeDiff, Nat.reduceBEq, reduceCtorEq, Int.reduceToNat, ↓reduceIte, rfP, rvP, rhP, frP, curB, bkd, elOk_en, elOk_nd, nfx_en, nfx_nd]; done)) rfl rfl ?_
    exact ⟨⟨(d.1.set 0 ((d.1.getD 0 default).1, (d.1.getD 0 default).2.1, y), d.2.1, d.2.2.1, d.2.2.2.1, d.2.2.2.2.1, d.2.2.2.2.2), by unfold dkP; rw [List.map_set]; rfl, setNd_B hq 0 _ (nd_le hq 0)⟩, _, _, rfl, by assumption⟩
  · refine fin_c (y := .agg [.far (d.1.map ndP), .far (d.2.1.map enP), .far (d.2.2.1.map enP), .far (d.2.2.2.1.map .str), .int .i64 (d.2.2.2.2.1), .int .i64 (d.2.2.2.2.2)]) rfl (by first | rfl | (simp (maxSteps := 1000000) (disch := first | omega | (simp only [LN, numOk, verOk, rfP, rvP, rhP, frP, curB, bkd, elOk_en, elOk_nd, nfx_en, nfx_nd] <;> omega) | exact Ck.mk rfl) only [VC, T, Nat.reduceMul, Nat.reduceAdd, Nat.reduceSub, Nat.reduceLT, Nat.reduceEqDiff, Nat.reduceLeDiff, Nat.reduceBEq, reduceCtorEq, Int.reduceToNat, ↓reduceIte, rfP, rvP, rhP, frP, curB, bkd, elOk_en, elOk_nd, nfx_en, nfx_nd]; done)) rfl rfl ?_
    exact ⟨⟨d, rfl, hq⟩, _, _, rfl, by assumption⟩
  · refine fin_c (y := .agg [.far ((d.1.map ndP).set 1 (.agg [.int .i64 (d.1.getD 0 default).1, .str (d.1.getD 1 default).2.1, .int .i64 (d.1.getD 1 default).2.2])), .far (d.2.1.map enP), .far (d.2.2.1.map enP), .far (d.2.2.2.1.map .str), .int .i64 (d.2.2.2.2.1), .int .i64 (d.2.2.2.2.2)]) rfl (by first | rfl | (simp (maxSteps := 1000000) (disch := first | omega | (simp only [LN, numOk, verOk, rfP, rvP, rhP, frP, curB, bkd, elOk_en, elOk_nd, nfx_en, nfx_nd] <;> omega) | exact Ck.mk rfl) only [VC, T, Nat.reduceMul, Nat.reduceAdd, Nat.reduceSub, Nat.reduceLT, Nat.reduceEqDiff, Nat.reduceLeDiff, Nat.reduceBEq, reduceCtorEq, Int.reduceToNat, ↓reduceIte, rfP, rvP, rhP, frP, curB, bkd, elOk_en, elOk_nd, nfx_en, nfx_nd]; done)) rfl rfl ?_
    exact ⟨⟨(d.1.set 1 ((d.1.getD 0 default).1, (d.1.getD 1 default).2.1, (d.1.getD 1 default).2.2), d.2.1, d.2.2.1, d.2.2.2.1, d.2.2.2.2.1, d.2.2.2.2.2), by unfold dkP; rw [List.map_set]; rfl, setNd_B hq 1 _ (nd_le hq 1)⟩, _, _, rfl, by assumption⟩
  · refine fin_c (y := .agg [.far (d.1.map ndP), .far (d.2.1.map enP), .far (d.2.2.1.map enP), .far (d.2.2.2.1.map .str), .int .i64 (d.2.2.2.2.1), .int .i64 (d.2.2.2.2.2)]) rfl (by first | rfl | (simp (maxSteps := 1000000) (disch := first | omega | (simp only [LN, numOk, verOk, rfP, rvP, rhP, frP, curB, bkd, elOk_en, elOk_nd, nfx_en, nfx_nd] <;> omega) | exact Ck.mk rfl) only [VC, T, Nat.reduceMul, Nat.reduceAdd, Nat.reduceSub, Nat.reduceLT, Nat.reduceEqDiff, Nat.reduceLeDiff, Nat.reduceBEq, reduceCtorEq, Int.reduceToNat, ↓reduceIte, rfP, rvP, rhP, frP, curB, bkd, elOk_en, elOk_nd, nfx_en, nfx_nd]; done)) rfl rfl ?_
    exact ⟨⟨d, rfl, hq⟩, _, _, rfl, by assumption⟩
  · refine fin_c (y := .agg [.far (d.1.map ndP), .far (d.2.1.map enP), .far (d.2.2.1.map enP), .far (d.2.2.2.1.map .str), .int .i64 (d.2.2.2.2.1), .int .i64 (d.2.2.2.2.2)]) rfl (by first | rfl | (simp (maxSteps := 1000000) (disch := first | omega | (simp only [LN, numOk, verOk, rfP, rvP, rhP, frP, curB, bkd, elOk_en, elOk_nd, nfx_en, nfx_nd] <;> omega) | exact Ck.mk rfl) only [VC, T, Nat.reduceMul, Nat.reduceAdd, Nat.reduceSub, Nat.reduceLT, Nat.reduceEqDiff, Nat.reduceLeDiff, Nat.reduceBEq, reduceCtorEq, Int.reduceToNat, ↓reduceIte, rfP, rvP, rhP, frP, curB, bkd, elOk_en, elOk_nd, nfx_en, nfx_nd]; done)) rfl rfl ?_
    exact ⟨⟨d, rfl, hq⟩, _, _, rfl, by assumption⟩
end Go.Pv

/- What functions of the program and of the reference do, in plain values. -/
namespace Go.Pv
open Go.Proofs Go.Mth
set_option linter.unusedSimpArgs false
set_option linter.unusedVariables false
set_option maxHeartbeats 4000000
set_option maxRecDepth 4000

/-! ### the files that go on from one another -/
def lkP (d : Dk) (b : Int) : PV := .agg (.int .i64 b :: .str (textT d b) :: flat (scanP (scan (textT d b))))
theorem goOk_iff (t : ByteArray) (b l : Int) (g : Bool) (h : ((rHead t).2.2.2.2 && decide ((rHead t).2.2.1 = b) && decide ((rHead t).2.2.2.1 = l)) = g) : goOk t b l ↔ g = true ∧ 0 < (recs t).length := by
  subst h
  unfold goOk
  simp only [Bool.and_eq_true, decide_eq_true_eq, and_assoc]
theorem impl_links (d : Dk) (h : DkOk d) : Fn Tryz.prog 87 [dkP d] [] (.far ((chainT d).map (lkP d))) [] := by
  have hT := fun b hb => impl_TextAt d b h hb
  have hle := textT_le h
  have hsn := chGo_snoc d
  have hsp := chGo_stop d
  have hlk : ∀ b, lkP d b = .agg (.int .i64 b :: .str (textT d b) :: flat (scanP (scan (textT d b)))) := fun _ => rfl
  obtain ⟨ns, es, os, ss, r, x⟩ := d
  generalize hd : ((ns, es, os, ss, r, x) : Dk) = d at *
  have hdk : dkP d = .agg [.far (ns.map ndP), .far (es.map enP), .far (os.map enP), .far (ss.map .str), .int .i64 r, .int .i64 x] := by rw [← hd]; rfl
  rw [hdk] at hT ⊢
  refine fn_x tok (n := 45) (rs := [.tmp 2]) Tryz.func87 (by decide) rfl rfl rfl rfl ?_
  refine Wr.go ?_
  repeat' ((first | (have ee := True.intro; refine Wr.mk ?_) | ((first | refine br_go ?_ ?_ | refine pick_go ?_ ?_) <;> intro ee f <;> (try simp only [BB] at f) <;> (try simp only [numOk, verOk] at f))) <;> (try simp (maxSteps := 1000000) (disch := first | omega | (simp only [LN, numOk, verOk, rfP, rvP, rhP, frP] <;> omega) | exact Ck.mk rfl) only [ee, VC, T, Nat.reduceMul, Nat.reduceAdd, Nat.reduceSub, Nat.reduceLT, Nat.reduceEqDiff, Nat.reduceLeDiff, Nat.reduceBEq, reduceCtorEq, Int.reduceToNat, ↓reduceIte, rfP, rvP, rhP, frP]) <;> (try clear ee))
  refine lp_go (fun x' : List Int × Int × Int => ⟨45, [(1, .ref 128 0), (3, .row 576 x'.1.length), (4, .int .i64 x'.2.1), (5, .int .i64 x'.2.2)], [(128, .box 32 [.far (ns.map ndP), .far (es.map enP), .far (os.map enP), .far (ss.map .str), .int .i64 r, .int .i64 x]), (576, .row ⟨11, 0⟩ (x'.1.map (lkP d)))]⟩) (fun x => x.1.length ≤ 16 ∧ (0 ≤ x.2.1 ∧ x.2.1 ≤ 1048576 * x.1.length) ∧ chainT d = x.1 ++ chGo d (16 - x.1.length) x.2.1 x.2.2) (fun x => 16 - x.1.length) ([], 0, 0) ?_ ⟨by simp, by simp, rfl⟩ ?_
  · (simp (disch := first | omega | (simp only [LN, numOk, verOk] <;> omega) | exact Ck.mk rfl) only [SB, EQ, Nat.reduceMul, Nat.reduceAdd, Nat.reduceSub, Nat.reduceLT, Nat.reduceEqDiff, Nat.reduceLeDiff, Nat.reduceBEq, reduceCtorEq, Int.reduceToNat, ↓reduceIte]; try omega)
  · rintro ⟨L, b, l⟩ ⟨h1, h2, h3⟩ N hN
    simp only at h1 h2 h3 hN
    have hT := hT b ⟨by omega, by omega⟩
    have hle := hle b
    have hsn := hsn L b l h3
    have hsp := hsp L b l h3
    have hlk := hlk b
    have hnx := fun s1 (q1 : L.length < 16) (q2 : goOk (textT d b) b l) => hN (L ++ [b], b + (recs (textT d b)).length, linkAll l (recs (textT d b))) s1 ⟨by simp only [List.length_append, List.length_singleton]; omega, ⟨by simp only; omega, by have := (recs_le (textT d b)).1; simp only [List.length_append, List.length_singleton]; omega⟩, hsn q1 q2⟩ (by simp only [List.length_append, List.length_singleton]; omega)
    generalize textT d b = t at *
    have hS := impl_Scan t (by omega)
    have hG := impl_GoesOn t b l (by omega)
    obtain ⟨z1, z2⟩ := recs_le t
    generalize hg : ((rHead t).2.2.2.2 && decide ((rHead t).2.2.1 = b) && decide ((rHead t).2.2.2.1 = l)) = g at *
    have hgo := goOk_iff t b l g hg
    have hA := impl_linkAll l (recs t) (by omega) (fun r hr => by have := z2 r hr; omega)
    unfold recs at *
    generalize scan t = sc at *
    obtain ⟨ok, v, s, base, lk, rs, ofs, e, m⟩ := sc
    simp only [scanP, flat] at *
    have hmap : (L ++ [b]).map (lkP d) = L.map (lkP d) ++ [.agg [.int .i64 b, .str t, .bool ok, .int .i64 v, .int .i64 s, .int .i64 base, .int .i64 lk, .far (rs.map .str), .far (ofs.map (.int .i64)), .int .i64 e, .bool m]] := by rw [List.map_append, List.map_singleton, hlk]
    cases g
    · have hn : ¬ goOk t b l := fun q => by have := (hgo.1 q).1; cases this
      refine Wr.go ?_
      repeat' ((first | (have ee := True.intro; refine Wr.mk ?_) | ((first | refine br_go ?_ ?_ | refine pick_go ?_ ?_) <;> intro ee f <;> (try simp only [BB] at f) <;> (try simp only [numOk, verOk] at f)) | (have ee := True.intro; first | refine dr_go mixed (id := 8) [([], [4], []), ([], [7], []), ([1], [36], []), ([1, 2], [37], []), ([0, 1, 2, 3], [35, 38], []), ([], [5], []), ([], [7], []), ([6], [41], []), ([5, 6, 7], [40, 42], []), ([0, 1, 2, 3, 4, 5, 6, 7, 8], [39], []), ([0, 1, 2, 3, 4, 5, 6, 7, 8, 9], [43], [])] rfl rfl rfl ?_ | refine call_x (hT) rfl ⟨rfl⟩ ?_ | refine call_x (hS) rfl ⟨rfl⟩ ?_ | refine call_x (hG) rfl ⟨rfl⟩ ?_ | refine call_x (hA) rfl ⟨rfl⟩ ?_)) <;> (try simp (maxSteps := 1000000) (disch := first | omega | (simp only [LN, numOk, verOk, rfP, rvP, rhP, frP] <;> omega) | exact Ck.mk rfl) only [ee, VC, T, Nat.reduceMul, Nat.reduceAdd, Nat.reduceSub, Nat.reduceLT, Nat.reduceEqDiff, Nat.reduceLeDiff, Nat.reduceBEq, reduceCtorEq, Int.reduceToNat, ↓reduceIte, rfP, rvP, rhP, frP]) <;> (try clear ee))
      · rw [hsp (.inr hn)]
      · rw [hsp (.inr hn)]
    · refine Wr.go ?_
      repeat' ((first | (have ee := True.intro; refine Wr.mk ?_) | ((first | refine br_go ?_ ?_ | refine pick_go ?_ ?_) <;> intro ee f <;> (try simp only [BB] at f) <;> (try simp only [numOk, verOk] at f)) | (have ee := True.intro; first | refine dr_go mixed (id := 8) [([], [4], []), ([], [7], []), ([1], [36], []), ([1, 2], [37], []), ([0, 1, 2, 3], [35, 38], []), ([], [5], []), ([], [7], []), ([6], [41], []), ([5, 6, 7], [40, 42], []), ([0, 1, 2, 3, 4, 5, 6, 7, 8], [39], []), ([0, 1, 2, 3, 4, 5, 6, 7, 8, 9], [43], [])] rfl rfl rfl ?_ | refine call_x (hT) rfl ⟨rfl⟩ ?_ | refine call_x (hS) rfl ⟨rfl⟩ ?_ | refine call_x (hG) rfl ⟨rfl⟩ ?_ | refine call_x (hA) rfl ⟨rfl⟩ ?_)) <;> (try simp (maxSteps := 1000000) (disch := first | omega | (simp only [LN, numOk, verOk, rfP, rvP, rhP, frP] <;> omega) | exact Ck.mk rfl) only [ee, VC, T, Nat.reduceMul, Nat.reduceAdd, Nat.reduceSub, Nat.reduceLT, Nat.reduceEqDiff, Nat.reduceLeDiff, Nat.reduceBEq, reduceCtorEq, Int.reduceToNat, ↓reduceIte, rfP, rvP, rhP, frP]) <;> (try clear ee))
      · rw [hsp (.inr fun q => by have := (hgo.1 q).2; omega)]
      · refine hnx _ (by omega) (hgo.2 ⟨rfl, by omega⟩) ?_
        rw [hmap]
        (simp (disch := first | omega | (simp only [LN, numOk, verOk] <;> omega) | exact Ck.mk rfl) only [SB, EQ, Nat.reduceMul, Nat.reduceAdd, Nat.reduceSub, Nat.reduceLT, Nat.reduceEqDiff, Nat.reduceLeDiff, Nat.reduceBEq, reduceCtorEq, Int.reduceToNat, ↓reduceIte]; try omega)
      · rw [hsp (.inl (by omega))]
theorem impl_Chain_G (d : Dk) (h : DkOk d) : FnE Tryz.prog 48 [dkP d] [] (fun r m => r = .row 64 (chainT d).length ∧ m = [(64, .row ⟨1, 0⟩ ((chainT d).map (fun b => .int .i64 b)))]) := by
  have hL := impl_links d h
  have hlen := chainT_length d
  have hlk : ∀ b, lkP d b = .agg (.int .i64 b :: .str (textT d b) :: flat (scanP (scan (textT d b)))) := fun _ => rfl
  have hv := fun b => scan_ver (textT d b)
  generalize hG : (fun b => .int .i64 b : Int → PV) = G
  have hGb := fun b => congrFun hG b
  try simp only at hGb
  generalize chainT d = L at *
  obtain ⟨ns, es, os, ss, r, x⟩ := d
  generalize hd : ((ns, es, os, ss, r, x) : Dk) = d at *
  have hdk : dkP d = .agg [.far (ns.map ndP), .far (es.map enP), .far (os.map enP), .far (ss.map .str), .int .i64 r, .int .i64 x] := by rw [← hd]; rfl
  rw [hdk] at hL ⊢
  refine fn_e tok (n := 21) (rs := [.tmp 2]) Tryz.func48 (by decide) rfl rfl rfl rfl (low_of rfl) ?_
  refine Wr.go ?_
  repeat' ((first | (have ee := True.intro; refine Wr.mk ?_) | ((first | refine br_go ?_ ?_ | refine pick_go ?_ ?_) <;> intro ee f <;> (try simp only [BB] at f) <;> (try simp only [numOk, verOk] at f)) | (have ee := True.intro; first | refine call_x (hL) rfl ⟨rfl⟩ ?_)) <;> (try simp (maxSteps := 1000000) (disch := first | omega | (simp only [LN, numOk, verOk, rfP, rvP, rhP, frP] <;> omega) | exact Ck.mk rfl) only [ee, VC, T, Nat.reduceMul, Nat.reduceAdd, Nat.reduceSub, Nat.reduceLT, Nat.reduceEqDiff, Nat.reduceLeDiff, Nat.reduceBEq, reduceCtorEq, Int.reduceToNat, ↓reduceIte, rfP, rvP, rhP, frP]) <;> (try clear ee))
  refine lp_go (fun i : Nat => ⟨21, [(3, .row 448 i), (8, .far (L.map (lkP d))), (9, .int .i64 L.length), (10, .int .i64 i)], [(448, .row ⟨1, 0⟩ ((L.take i).map G))]⟩) (fun i => i ≤ L.length) (fun i => L.length - i) 0 ?_ (Nat.zero_le _) ?_
  · (simp (disch := first | omega | (simp only [LN, numOk, verOk] <;> omega) | exact Ck.mk rfl) only [SB, EQ, Nat.reduceMul, Nat.reduceAdd, Nat.reduceSub, Nat.reduceLT, Nat.reduceEqDiff, Nat.reduceLeDiff, Nat.reduceBEq, reduceCtorEq, Int.reduceToNat, ↓reduceIte]; try omega)
    rfl
  · intro i hi N hN
    have hg : i < L.length → (L.map (lkP d)).getD i .junk = lkP d (L.getD i default) := fun h => by
      rw [List.getD_eq_getElem?_getD, List.getElem?_map, List.getElem?_eq_getElem h, List.getD_eq_getElem?_getD, List.getElem?_eq_getElem h]; rfl
    have ht : (L.take i).length = i := by rw [List.length_take]; omega
    have hsn : i < L.length → (L.take (i + 1)).map G = (L.take i).map G ++ [G (L.getD i default)] := fun h => by
      rw [take_snoc default L i h, List.map_append]; rfl
    generalize L.getD i default = b at *
    have hlk := hlk b
    have hGb := hGb b
    have hv := hv b
    generalize textT d b = t at *
    generalize scan t = sc at *
    obtain ⟨ok, v, s, base, lk, rs, ofs, e, m⟩ := sc
    simp only at hv
    try rw [← hv] at hGb
    simp only [scanP, flat] at *
    rw [hlk] at hg
    refine Wr.go ?_
    repeat' ((first | (have ee := True.intro; refine Wr.mk ?_) | ((first | refine br_go ?_ ?_ | refine pick_go ?_ ?_) <;> intro ee f <;> (try simp only [BB] at f) <;> (try simp only [numOk, verOk] at f))) <;> (try simp (maxSteps := 1000000) (disch := first | omega | (simp only [LN, numOk, verOk, rfP, rvP, rhP, frP, hg, ht] <;> omega) | exact Ck.mk rfl) only [ee, VC, T, Nat.reduceMul, Nat.reduceAdd, Nat.reduceSub, Nat.reduceLT, Nat.reduceEqDiff, Nat.reduceLeDiff, Nat.reduceBEq, reduceCtorEq, Int.reduceToNat, ↓reduceIte, rfP, rvP, rhP, frP, hg, ht]) <;> (try clear ee))
    · refine hN (i + 1) _ (by omega) (by omega) ?_
      rw [hsn (by omega), ← hGb]
      (simp (disch := first | omega | (simp only [LN, numOk, verOk] <;> omega) | exact Ck.mk rfl) only [SB, EQ, Nat.reduceMul, Nat.reduceAdd, Nat.reduceSub, Nat.reduceLT, Nat.reduceEqDiff, Nat.reduceLeDiff, Nat.reduceBEq, reduceCtorEq, Int.reduceToNat, ↓reduceIte]; try omega)
    · obtain rfl : i = L.length := by omega
      rw [List.take_length]
      exact fin_t [some 448] (⟨rfl, rfl⟩) rfl (by simp [RV, RV2, RVl, RV1, tau, tget, hget, data1, oneOf]) (by simp [RH, RVl, RV1, tau, hget, data1]) (by simp [Taus, hget])
end Go.Pv

/- What functions of the program and of the reference do, in plain values. -/
namespace Go.Pv
open Go.Proofs Go.Mth
set_option linter.unusedSimpArgs false
set_option linter.unusedVariables false
set_option maxHeartbeats 4000000
set_option maxRecDepth 4000

/-! ### rows of records, texts, versions -/
theorem impl_Chain_R (d : Dk) (h : DkOk d) : FnE Tryz.prog 48 [dkP d] [] (fun r m => r = .row 64 (chainT d).length ∧ m = [(64, .row ⟨1, 0⟩ ((chainT d).map (.int .i64)))]) := impl_Chain_G d h
theorem impl_Chain (d : Dk) (h : DkOk d) : Fn Tryz.prog 48 [dkP d] [] (.far ((chainT d).map (.int .i64))) [] := by
  obtain ⟨_, _, ⟨rfl, rfl⟩, k⟩ := impl_Chain_R d h
  refine k.far ?_
  simp [fz, fz2, fz1, cvtl, elems, hget, data1]
def flR (d : Dk) (L : List Int) : List ByteArray := L.flatMap fun b => recs (textT d b)
theorem flR_snoc (d : Dk) (L : List Int) (i : Nat) (h : i < L.length) : flR d (L.take (i + 1)) = flR d (L.take i) ++ recs (textT d (L.getD i default)) := by
  unfold flR
  rw [take_snoc default L i h, List.flatMap_append, List.flatMap_cons, List.flatMap_nil, List.append_nil]
  rfl
theorem impl_RowOf_R (d : Dk) (h : DkOk d) : FnE Tryz.prog 47 [dkP d] [] (fun r m => r = .row 64 (rowT d).length ∧ m = [(64, .row ⟨1, 0⟩ ((rowT d).map .str))]) := by
  have hL := impl_links d h
  have hlen := chainT_length d
  have hlk : ∀ b, lkP d b = .agg (.int .i64 b :: .str (textT d b) :: flat (scanP (scan (textT d b)))) := fun _ => rfl
  have hR : rowT d = flR d (chainT d) := rfl
  have hfl := fun L => flat_le d h L
  have hle := textT_le h
  rw [hR]
  generalize chainT d = L at *
  obtain ⟨ns, es, os, ss, r, x⟩ := d
  generalize hd : ((ns, es, os, ss, r, x) : Dk) = d at *
  have hdk : dkP d = .agg [.far (ns.map ndP), .far (es.map enP), .far (os.map enP), .far (ss.map .str), .int .i64 r, .int .i64 x] := by rw [← hd]; rfl
  rw [hdk] at hL ⊢
  refine fn_e tok (n := 21) (rs := [.tmp 2]) Tryz.func47 (by decide) rfl rfl rfl rfl (low_of rfl) ?_
  refine Wr.go ?_
  repeat' ((first | (have ee := True.intro; refine Wr.mk ?_) | ((first | refine br_go ?_ ?_ | refine pick_go ?_ ?_) <;> intro ee f <;> (try simp only [BB] at f) <;> (try simp only [numOk, verOk] at f)) | (have ee := True.intro; first | refine call_x (hL) rfl ⟨rfl⟩ ?_)) <;> (try simp (maxSteps := 1000000) (disch := first | omega | (simp only [LN, numOk, verOk, rfP, rvP, rhP, frP] <;> omega) | exact Ck.mk rfl) only [ee, VC, T, Nat.reduceMul, Nat.reduceAdd, Nat.reduceSub, Nat.reduceLT, Nat.reduceEqDiff, Nat.reduceLeDiff, Nat.reduceBEq, reduceCtorEq, Int.reduceToNat, ↓reduceIte, rfP, rvP, rhP, frP]) <;> (try clear ee))
  refine lp_go (fun i : Nat => ⟨21, [(3, .row 448 (flR d (L.take i)).length), (8, .far (L.map (lkP d))), (9, .int .i64 L.length), (10, .int .i64 i)], [(448, .row ⟨1, 0⟩ ((flR d (L.take i)).map .str))]⟩) (fun i => i ≤ L.length) (fun i => L.length - i) 0 ?_ (Nat.zero_le _) ?_
  · (simp (disch := first | omega | (simp only [LN, numOk, verOk] <;> omega) | exact Ck.mk rfl) only [SB, EQ, Nat.reduceMul, Nat.reduceAdd, Nat.reduceSub, Nat.reduceLT, Nat.reduceEqDiff, Nat.reduceLeDiff, Nat.reduceBEq, reduceCtorEq, Int.reduceToNat, ↓reduceIte]; try omega)
    exact ⟨rfl, rfl⟩
  · intro i hi N hN
    have hg : i < L.length → (L.map (lkP d)).getD i .junk = lkP d (L.getD i default) := fun h => by
      rw [List.getD_eq_getElem?_getD, List.getElem?_map, List.getElem?_eq_getElem h, List.getD_eq_getElem?_getD, List.getElem?_eq_getElem h]; rfl
    have ht : (flR d (L.take i)).length ≤ 1048576 * 16 := by
      have := (hfl (L.take i)).1
      rw [List.length_take] at this
      unfold flR
      omega
    have hsn := flR_snoc d L i
    generalize hM : flR d (L.take i) = M at *
    generalize L.getD i default = b at *
    have hlk := hlk b
    have hle := hle b
    have hre := (recs_le (textT d b)).1
    generalize textT d b = t at *
    unfold recs at *
    generalize scan t = sc at *
    obtain ⟨ok, v, s, base, lk, rs, ofs, e, m⟩ := sc
    simp only [scanP, flat] at *
    rw [hlk] at hg
    refine Wr.go ?_
    repeat' ((first | (have ee := True.intro; refine Wr.mk ?_) | ((first | refine br_go ?_ ?_ | refine pick_go ?_ ?_) <;> intro ee f <;> (try simp only [BB] at f) <;> (try simp only [numOk, verOk] at f))) <;> (try simp (maxSteps := 1000000) (disch := first | omega | (simp only [LN, numOk, verOk, rfP, rvP, rhP, frP, hg] <;> omega) | exact Ck.mk rfl) only [ee, VC, T, Nat.reduceMul, Nat.reduceAdd, Nat.reduceSub, Nat.reduceLT, Nat.reduceEqDiff, Nat.reduceLeDiff, Nat.reduceBEq, reduceCtorEq, Int.reduceToNat, ↓reduceIte, rfP, rvP, rhP, frP, hg]) <;> (try clear ee))
    · refine hN (i + 1) _ (by omega) (by omega) ?_
      rw [hsn (by omega)]
      (simp (disch := first | omega | (simp only [LN, numOk, verOk] <;> omega) | exact Ck.mk rfl) only [SB, EQ, Nat.reduceMul, Nat.reduceAdd, Nat.reduceSub, Nat.reduceLT, Nat.reduceEqDiff, Nat.reduceLeDiff, Nat.reduceBEq, reduceCtorEq, Int.reduceToNat, ↓reduceIte]; try omega)
      exact List.map_append.symm
    · obtain rfl : i = L.length := by omega
      rw [List.take_length] at hM
      rw [hM]
      exact fin_t [some 448] (⟨rfl, rfl⟩) rfl (by simp [RV, RV2, RVl, RV1, tau, tget, hget, data1, oneOf]) (by simp [RH, RVl, RV1, tau, hget, data1]) (by simp [Taus, hget])
theorem impl_RowOf (d : Dk) (h : DkOk d) : Fn Tryz.prog 47 [dkP d] [] (.far ((rowT d).map .str)) [] := by
  obtain ⟨_, _, ⟨rfl, rfl⟩, k⟩ := impl_RowOf_R d h
  refine k.far ?_
  simp [fz, fz2, fz1, cvtl, elems, hget, data1]
theorem spec_LinkOf (rs : List ByteArray) (hl : rs.length < 9223372036854775808) (hr : ∀ r ∈ rs, r.size ≤ 140737488355000) : Fn Tryz.prog 53 [.far (rs.map .str)] [] (.int .i64 (linkAll 0 rs)) [] := by
  refine fn_x tok (n := 18) (rs := [.tmp 2]) Tryz.func53 (by decide) rfl rfl rfl rfl ?_
  refine Wr.go ?_
  repeat' ((first | (have ee := True.intro; refine Wr.mk ?_) | ((first | refine br_go ?_ ?_ | refine pick_go ?_ ?_) <;> intro ee f <;> (try simp only [BB] at f) <;> (try simp only [numOk, verOk] at f))) <;> (try simp (maxSteps := 1000000) (disch := first | omega | (simp only [LN, numOk, verOk, rfP, rvP, rhP, frP] <;> omega) | exact Ck.mk rfl) only [ee, VC, T, Nat.reduceMul, Nat.reduceAdd, Nat.reduceSub, Nat.reduceLT, Nat.reduceEqDiff, Nat.reduceLeDiff, Nat.reduceBEq, reduceCtorEq, Int.reduceToNat, ↓reduceIte, rfP, rvP, rhP, frP]) <;> (try clear ee))
  refine lp_go (fun i : Nat => ⟨18, [(0, .far (rs.map .str)), (3, .int .i64 (linkAll 0 (rs.take i))), (4, .int .i64 i)], []⟩) (fun i => i ≤ rs.length) (fun i => rs.length - i) 0 ?_ (by omega) ?_
  · (simp (disch := first | omega | (simp only [LN, numOk, verOk] <;> omega) | exact Ck.mk rfl) only [SB, EQ, Nat.reduceMul, Nat.reduceAdd, Nat.reduceSub, Nat.reduceLT, Nat.reduceEqDiff, Nat.reduceLeDiff, Nat.reduceBEq, reduceCtorEq, Int.reduceToNat, ↓reduceIte]; try omega)
    rfl
  · intro i hi N hN
    refine Wr.go ?_
    repeat' ((first | (have ee := True.intro; refine Wr.mk ?_) | ((first | refine br_go ?_ ?_ | refine pick_go ?_ ?_) <;> intro ee f <;> (try simp only [BB] at f) <;> (try simp only [numOk, verOk] at f)) | (have ee := True.intro; first | refine call_x (spec_LinkMore _ _ (hr _ (getD_mem _ _ (by omega)))) rfl ⟨rfl⟩ ?_)) <;> (try simp (maxSteps := 1000000) (disch := first | omega | (simp only [LN, numOk, verOk, rfP, rvP, rhP, frP, linkAll_snoc] <;> omega) | exact Ck.mk rfl) only [ee, VC, T, Nat.reduceMul, Nat.reduceAdd, Nat.reduceSub, Nat.reduceLT, Nat.reduceEqDiff, Nat.reduceLeDiff, Nat.reduceBEq, reduceCtorEq, Int.reduceToNat, ↓reduceIte, rfP, rvP, rhP, frP, linkAll_snoc]) <;> (try clear ee))
    · refine hN (i + 1) _ (by omega) (by omega) ?_
      (simp (disch := first | omega | (simp only [LN, numOk, verOk] <;> omega) | exact Ck.mk rfl) only [SB, EQ, Nat.reduceMul, Nat.reduceAdd, Nat.reduceSub, Nat.reduceLT, Nat.reduceEqDiff, Nat.reduceLeDiff, Nat.reduceBEq, reduceCtorEq, Int.reduceToNat, ↓reduceIte]; try omega)
    · obtain rfl : i = rs.length := by omega
      rw [List.take_length]
theorem impl_RowLink (d : Dk) (h : DkOk d) (hR : Fn Tryz.prog 47 [dkP d] [] (.far ((rowT d).map .str)) []) : Fn Tryz.prog 54 [dkP d] [] (.int .i64 (linkT d)) [] := by
  obtain ⟨r1, r2⟩ := rowT_le h
  unfold linkT
  generalize rowT d = rs at *
  have hL := impl_LinkOf rs (by omega) (fun r hr => by have := r2 r hr; omega)
  unfold dkP at *
  refine fn_x tok (n := 6) (rs := [.tmp 2]) Tryz.func54 (by decide) rfl rfl rfl rfl ?_
  refine Wr.go ?_
  repeat' ((first | (have ee := True.intro; refine Wr.mk ?_) | ((first | refine br_go ?_ ?_ | refine pick_go ?_ ?_) <;> intro ee f <;> (try simp only [BB] at f) <;> (try simp only [numOk, verOk] at f)) | (have ee := True.intro; first | refine call_x (hR) rfl ⟨rfl⟩ ?_ | refine call_x (hL) rfl ⟨rfl⟩ ?_)) <;> (try simp (maxSteps := 1000000) (disch := first | omega | (simp only [LN, numOk, verOk, rfP, rvP, rhP, frP] <;> omega) | exact Ck.mk rfl) only [ee, VC, T, Nat.reduceMul, Nat.reduceAdd, Nat.reduceSub, Nat.reduceLT, Nat.reduceEqDiff, Nat.reduceLeDiff, Nat.reduceBEq, reduceCtorEq, Int.reduceToNat, ↓reduceIte, rfP, rvP, rhP, frP]) <;> (try clear ee))
end Go.Pv

/- What functions of the program and of the reference do, in plain values. -/
namespace Go.Pv
open Go.Proofs Go.Mth
set_option linter.unusedSimpArgs false
set_option linter.unusedVariables false
set_option maxHeartbeats 4000000
set_option maxRecDepth 4000

/-! ### the reference's rows -/
theorem spec_LinkAfter (b : ByteArray) (hb : b.size ≤ 1073741824) : Fn Tryz.prog 91 [.str b] [] (.int .i64 (linkAll (scan b).2.2.2.2.1 (scan b).2.2.2.2.2.1)) [] := by
  have hS := spec_Scan b hb
  have hF := scan_f b
  generalize scan b = t at *
  obtain ⟨ok, v, s, base, l, rs, os, e, m⟩ := t
  obtain ⟨f1, f2, f3, f4, f5, f6, f7, f8, f9⟩ := hF
  simp only [scanP] at f1 f2 f3 f4 f5 f6 f7 f8 f9 hS ⊢
  refine fn_x tok (n := 26) (rs := [.tmp 2]) Tryz.func91 (by decide) rfl rfl rfl rfl ?_
  refine Wr.go ?_
  repeat' ((first | (have ee := True.intro; refine Wr.mk ?_) | ((first | refine br_go ?_ ?_ | refine pick_go ?_ ?_) <;> intro ee f <;> (try simp only [BB] at f) <;> (try simp only [numOk, verOk] at f)) | (have ee := True.intro; first | refine call_x (hS) rfl ⟨rfl⟩ ?_)) <;> (try simp (maxSteps := 1000000) (disch := first | omega | (simp only [LN, numOk, verOk, rfP, rvP, rhP, frP] <;> omega) | exact Ck.mk rfl) only [ee, VC, T, Nat.reduceMul, Nat.reduceAdd, Nat.reduceSub, Nat.reduceLT, Nat.reduceEqDiff, Nat.reduceLeDiff, Nat.reduceBEq, reduceCtorEq, Int.reduceToNat, ↓reduceIte, rfP, rvP, rhP, frP]) <;> (try clear ee))
  refine lp_go (fun i : Nat => ⟨26, [(3, .ref 256 0), (4, .int .i64 (linkAll l (rs.take i))), (5, .int .i64 i)], [(256, .box 95 [.bool ok, .int .i64 v, .int .i64 s, .int .i64 base, .int .i64 l, .far (rs.map .str), .far (os.map (.int .i64)), .int .i64 e, .bool m])]⟩) (fun i => i ≤ rs.length) (fun i => rs.length - i) 0 ?_ (by omega) ?_
  · (simp (disch := first | omega | (simp only [LN, numOk, verOk] <;> omega) | exact Ck.mk rfl) only [SB, EQ, Nat.reduceMul, Nat.reduceAdd, Nat.reduceSub, Nat.reduceLT, Nat.reduceEqDiff, Nat.reduceLeDiff, Nat.reduceBEq, reduceCtorEq, Int.reduceToNat, ↓reduceIte]; try omega)
    rfl
  · intro i hi N hN
    refine Wr.go ?_
    repeat' ((first | (have ee := True.intro; refine Wr.mk ?_) | ((first | refine br_go ?_ ?_ | refine pick_go ?_ ?_) <;> intro ee f <;> (try simp only [BB] at f) <;> (try simp only [numOk, verOk] at f)) | (have ee := True.intro; first | refine call_x (spec_LinkMore _ _ (by have := f6 _ (getD_mem rs i (by omega)); omega)) rfl ⟨rfl⟩ ?_)) <;> (try simp (maxSteps := 1000000) (disch := first | omega | (simp only [LN, numOk, verOk, rfP, rvP, rhP, frP, linkAll_snoc] <;> omega) | exact Ck.mk rfl) only [ee, VC, T, Nat.reduceMul, Nat.reduceAdd, Nat.reduceSub, Nat.reduceLT, Nat.reduceEqDiff, Nat.reduceLeDiff, Nat.reduceBEq, reduceCtorEq, Int.reduceToNat, ↓reduceIte, rfP, rvP, rhP, frP, linkAll_snoc]) <;> (try clear ee))
    · refine hN (i + 1) _ (by omega) (by omega) ?_
      (simp (disch := first | omega | (simp only [LN, numOk, verOk] <;> omega) | exact Ck.mk rfl) only [SB, EQ, Nat.reduceMul, Nat.reduceAdd, Nat.reduceSub, Nat.reduceLT, Nat.reduceEqDiff, Nat.reduceLeDiff, Nat.reduceBEq, reduceCtorEq, Int.reduceToNat, ↓reduceIte]; try omega)
    · obtain rfl : i = rs.length := by omega
      rw [List.take_length]
theorem spec_Chain (d : Dk) (h : DkOk d) : Fn Tryz.prog 34 [dkP d] [] (.far ((chainT d).map (.int .i64))) [] := by
  have hT := fun b hb => spec_TextAt d b h hb
  have hle := textT_le h
  have hsn := chGo_snoc d
  have hsp := chGo_stop d
  obtain ⟨ns, es, os, ss, r, x⟩ := d
  generalize hd : ((ns, es, os, ss, r, x) : Dk) = d at *
  have hdk : dkP d = .agg [.far (ns.map ndP), .far (es.map enP), .far (os.map enP), .far (ss.map .str), .int .i64 r, .int .i64 x] := by rw [← hd]; rfl
  rw [hdk] at hT ⊢
  refine fn_x tok (n := 38) (rs := [.tmp 2]) Tryz.func34 (by decide) rfl rfl rfl rfl ?_
  refine Wr.go ?_
  repeat' ((first | (have ee := True.intro; refine Wr.mk ?_) | ((first | refine br_go ?_ ?_ | refine pick_go ?_ ?_) <;> intro ee f <;> (try simp only [BB] at f) <;> (try simp only [numOk, verOk] at f))) <;> (try simp (maxSteps := 1000000) (disch := first | omega | (simp only [LN, numOk, verOk, rfP, rvP, rhP, frP] <;> omega) | exact Ck.mk rfl) only [ee, VC, T, Nat.reduceMul, Nat.reduceAdd, Nat.reduceSub, Nat.reduceLT, Nat.reduceEqDiff, Nat.reduceLeDiff, Nat.reduceBEq, reduceCtorEq, Int.reduceToNat, ↓reduceIte, rfP, rvP, rhP, frP]) <;> (try clear ee))
  refine lp_go (fun x' : List Int × Int × Int => ⟨38, [(1, .ref 128 0), (3, .row 576 x'.1.length), (4, .int .i64 x'.2.1), (5, .int .i64 x'.2.2)], [(128, .box 32 [.far (ns.map ndP), .far (es.map enP), .far (os.map enP), .far (ss.map .str), .int .i64 r, .int .i64 x]), (576, .row ⟨1, 0⟩ (x'.1.map (.int .i64)))]⟩) (fun x => x.1.length ≤ 16 ∧ (0 ≤ x.2.1 ∧ x.2.1 ≤ 1048576 * x.1.length) ∧ chainT d = x.1 ++ chGo d (16 - x.1.length) x.2.1 x.2.2) (fun x => 16 - x.1.length) ([], 0, 0) ?_ ⟨by simp, by simp, rfl⟩ ?_
  · (simp (disch := first | omega | (simp only [LN, numOk, verOk] <;> omega) | exact Ck.mk rfl) only [SB, EQ, Nat.reduceMul, Nat.reduceAdd, Nat.reduceSub, Nat.reduceLT, Nat.reduceEqDiff, Nat.reduceLeDiff, Nat.reduceBEq, reduceCtorEq, Int.reduceToNat, ↓reduceIte]; try omega)
  · rintro ⟨L, b, l⟩ ⟨h1, h2, h3⟩ N hN
    simp only at h1 h2 h3 hN
    have hT := hT b ⟨by omega, by omega⟩
    have hle := hle b
    have hsn := hsn L b l h3
    have hsp := hsp L b l h3
    have hnx := fun s1 (q1 : L.length < 16) (q2 : goOk (textT d b) b l) => hN (L ++ [b], b + (recs (textT d b)).length, linkAll l (recs (textT d b))) s1 ⟨by simp only [List.length_append, List.length_singleton]; omega, ⟨by simp only; omega, by have := (recs_le (textT d b)).1; simp only [List.length_append, List.length_singleton]; omega⟩, hsn q1 q2⟩ (by simp only [List.length_append, List.length_singleton]; omega)
    generalize textT d b = t at *
    have hS := spec_RecordsIn t (by omega)
    have hG := spec_GoesOn t b l (by omega)
    have hA := spec_LinkAfter t (by omega)
    have hlk := scan_link t
    obtain ⟨z1, z2⟩ := recs_le t
    generalize hg : ((rHead t).2.2.2.2 && decide ((rHead t).2.2.1 = b) && decide ((rHead t).2.2.2.1 = l)) = g at *
    have hgo := goOk_iff t b l g hg
    have hll : goOk t b l → (scan t).2.2.2.2.1 = l := fun q => by rw [hlk]; exact q.1.2.2
    unfold recs at *
    generalize scan t = sc at *
    obtain ⟨ok, v, s, base, lk, rs, ofs, e, m⟩ := sc
    simp only at *
    cases g
    · have hn : ¬ goOk t b l := fun q => by have := (hgo.1 q).1; cases this
      refine Wr.go ?_
      repeat' ((first | (have ee := True.intro; refine Wr.mk ?_) | ((first | refine br_go ?_ ?_ | refine pick_go ?_ ?_) <;> intro ee f <;> (try simp only [BB] at f) <;> (try simp only [numOk, verOk] at f)) | (have ee := True.intro; first | refine call_x (hT) rfl ⟨rfl⟩ ?_ | refine call_x (hS) rfl ⟨rfl⟩ ?_ | refine call_x (hG) rfl ⟨rfl⟩ ?_ | refine call_x (hA) rfl ⟨rfl⟩ ?_)) <;> (try simp (maxSteps := 1000000) (disch := first | omega | (simp only [LN, numOk, verOk, rfP, rvP, rhP, frP] <;> omega) | exact Ck.mk rfl) only [ee, VC, T, Nat.reduceMul, Nat.reduceAdd, Nat.reduceSub, Nat.reduceLT, Nat.reduceEqDiff, Nat.reduceLeDiff, Nat.reduceBEq, reduceCtorEq, Int.reduceToNat, ↓reduceIte, rfP, rvP, rhP, frP]) <;> (try clear ee))
      · rw [hsp (.inr hn)]
      · rw [hsp (.inr hn)]
      · rw [hsp (.inl (by omega))]
    · refine Wr.go ?_
      repeat' ((first | (have ee := True.intro; refine Wr.mk ?_) | ((first | refine br_go ?_ ?_ | refine pick_go ?_ ?_) <;> intro ee f <;> (try simp only [BB] at f) <;> (try simp only [numOk, verOk] at f)) | (have ee := True.intro; first | refine call_x (hT) rfl ⟨rfl⟩ ?_ | refine call_x (hS) rfl ⟨rfl⟩ ?_ | refine call_x (hG) rfl ⟨rfl⟩ ?_ | refine call_x (hA) rfl ⟨rfl⟩ ?_)) <;> (try simp (maxSteps := 1000000) (disch := first | omega | (simp only [LN, numOk, verOk, rfP, rvP, rhP, frP] <;> omega) | exact Ck.mk rfl) only [ee, VC, T, Nat.reduceMul, Nat.reduceAdd, Nat.reduceSub, Nat.reduceLT, Nat.reduceEqDiff, Nat.reduceLeDiff, Nat.reduceBEq, reduceCtorEq, Int.reduceToNat, ↓reduceIte, rfP, rvP, rhP, frP]) <;> (try clear ee))
      · rw [hsp (.inr fun q => by have := (hgo.1 q).2; omega)]
      · have q := hgo.2 ⟨rfl, by omega⟩
        refine hnx _ (by omega) q ?_
        rw [← hll q]
        (simp (disch := first | omega | (simp only [LN, numOk, verOk] <;> omega) | exact Ck.mk rfl) only [SB, EQ, Nat.reduceMul, Nat.reduceAdd, Nat.reduceSub, Nat.reduceLT, Nat.reduceEqDiff, Nat.reduceLeDiff, Nat.reduceBEq, reduceCtorEq, Int.reduceToNat, ↓reduceIte]; try omega)
      · rw [hsp (.inl (by omega))]
theorem spec_RowOf (d : Dk) (h : DkOk d) : Fn Tryz.prog 42 [dkP d] [] (.far ((rowT d).map .str)) [] := by
  have hL := spec_Chain d h
  have hT := fun b hb => spec_TextAt d b h hb
  have hlen := chainT_length d
  have hR : rowT d = flR d (chainT d) := rfl
  have hfl := fun L => flat_le d h L
  have hle := textT_le h
  rw [hR]
  have hbs := chainT_range h
  generalize chainT d = L at *
  obtain ⟨ns, es, os, ss, r, x⟩ := d
  generalize hd : ((ns, es, os, ss, r, x) : Dk) = d at *
  have hdk : dkP d = .agg [.far (ns.map ndP), .far (es.map enP), .far (os.map enP), .far (ss.map .str), .int .i64 r, .int .i64 x] := by rw [← hd]; rfl
  rw [hdk] at hL hT ⊢
  refine fn_x tok (n := 25) (rs := [.tmp 2]) Tryz.func42 (by decide) rfl rfl rfl rfl ?_
  refine Wr.go ?_
  repeat' ((first | (have ee := True.intro; refine Wr.mk ?_) | ((first | refine br_go ?_ ?_ | refine pick_go ?_ ?_) <;> intro ee f <;> (try simp only [BB] at f) <;> (try simp only [numOk, verOk] at f)) | (have ee := True.intro; first | refine call_x (hL) rfl ⟨rfl⟩ ?_)) <;> (try simp (maxSteps := 1000000) (disch := first | omega | (simp only [LN, numOk, verOk, rfP, rvP, rhP, frP] <;> omega) | exact Ck.mk rfl) only [ee, VC, T, Nat.reduceMul, Nat.reduceAdd, Nat.reduceSub, Nat.reduceLT, Nat.reduceEqDiff, Nat.reduceLeDiff, Nat.reduceBEq, reduceCtorEq, Int.reduceToNat, ↓reduceIte, rfP, rvP, rhP, frP]) <;> (try clear ee))
  refine lp_go (fun i : Nat => ⟨25, [(1, .ref 128 0), (3, .row 448 (flR d (L.take i)).length), (4, .far (L.map (.int .i64))), (5, .int .i64 i)], [(128, .box 32 [.far (ns.map ndP), .far (es.map enP), .far (os.map enP), .far (ss.map .str), .int .i64 r, .int .i64 x]), (448, .row ⟨1, 0⟩ ((flR d (L.take i)).map .str))]⟩) (fun i => i ≤ L.length) (fun i => L.length - i) 0 ?_ (Nat.zero_le _) ?_
  · (simp (disch := first | omega | (simp only [LN, numOk, verOk] <;> omega) | exact Ck.mk rfl) only [SB, EQ, Nat.reduceMul, Nat.reduceAdd, Nat.reduceSub, Nat.reduceLT, Nat.reduceEqDiff, Nat.reduceLeDiff, Nat.reduceBEq, reduceCtorEq, Int.reduceToNat, ↓reduceIte]; try omega)
    exact ⟨rfl, rfl⟩
  · intro i hi N hN
    have ht : (flR d (L.take i)).length ≤ 1048576 * 16 := by
      have := (hfl (L.take i)).1
      rw [List.length_take] at this
      unfold flR
      omega
    have hsn := flR_snoc d L i
    have hb : i < L.length → 0 ≤ L.getD i default ∧ L.getD i default ≤ 16777216 := fun h => hbs _ (getD_mem _ _ h)
    generalize hM : flR d (L.take i) = M at *
    generalize hbb : L.getD i default = b at *
    have hT := fun hb => hT b hb
    have hle := hle b
    have hre := (recs_le (textT d b)).1
    generalize textT d b = t at *
    have hS := spec_RecordsIn t (by omega)
    unfold recs at *
    generalize (scan t).2.2.2.2.2.1 = rs at *
    refine Wr.go ?_
    repeat' ((first | (have ee := True.intro; refine Wr.mk ?_) | ((first | refine br_go ?_ ?_ | refine pick_go ?_ ?_) <;> intro ee f <;> (try simp only [BB] at f) <;> (try simp only [numOk, verOk] at f)) | (have ee := True.intro; first | refine dr_go mixed (id := 6) [([], [3], []), ([], [1], []), ([], [4], []), ([], [5], []), ([2, 3], [17, 18], []), ([2, 3, 4], [19], []), ([1, 2, 3, 4, 5], [16, 20], []), ([1, 2, 3, 4, 5, 6], [21], []), ([0, 1, 2, 3, 4, 5, 6, 7], [15, 22], []), ([0, 1, 2, 3, 4, 5, 6, 7, 8], [23], [])] rfl rfl rfl ?_ | refine call_x (hT ⟨by omega, by omega⟩) rfl ⟨rfl⟩ ?_ | refine call_x (hS) rfl ⟨rfl⟩ ?_)) <;> (try simp (maxSteps := 1000000) (disch := first | omega | (simp only [LN, numOk, verOk, rfP, rvP, rhP, frP, hbb] <;> omega) | exact Ck.mk rfl) only [ee, VC, T, Nat.reduceMul, Nat.reduceAdd, Nat.reduceSub, Nat.reduceLT, Nat.reduceEqDiff, Nat.reduceLeDiff, Nat.reduceBEq, reduceCtorEq, Int.reduceToNat, ↓reduceIte, rfP, rvP, rhP, frP, hbb]) <;> (try clear ee))
    · refine hN (i + 1) _ (by omega) (by omega) ?_
      rw [hsn (by omega)]
      (simp (disch := first | omega | (simp only [LN, numOk, verOk] <;> omega) | exact Ck.mk rfl) only [SB, EQ, Nat.reduceMul, Nat.reduceAdd, Nat.reduceSub, Nat.reduceLT, Nat.reduceEqDiff, Nat.reduceLeDiff, Nat.reduceBEq, reduceCtorEq, Int.reduceToNat, ↓reduceIte]; try omega)
      exact List.map_append.symm
    · obtain rfl : i = L.length := by omega
      rw [List.take_length] at hM
      rw [hM]
end Go.Pv

/- What functions of the program and of the reference do, in plain values. -/
namespace Go.Pv
open Go.Proofs Go.Mth
set_option linter.unusedSimpArgs false
set_option linter.unusedVariables false
set_option maxHeartbeats 4000000
set_option maxRecDepth 4000

/-! ### names made -/
theorem impl_TempName (n : Int) (hn : i64 n) : Fn Tryz.prog 130 [.int .i64 n] [] (.str (tmpT n)) [] := by
  have hS := impl_SegmentName n hn
  by_cases h : numOk n
  · have e : tmpT n = segT n ++ ⟨#[46, 116, 109, 112]⟩ := by unfold tmpT segT; rw [if_pos h, if_pos h, strOf_app]; rfl
    have hz := segT_size n h
    rw [e]
    generalize segT n = q at *
    obtain ⟨h0, h1⟩ := h
    refine fn_x tok (n := 9) (rs := [.tmp 2]) Tryz.func130 (by decide) rfl rfl rfl rfl ?_
    refine Wr.go ?_
    repeat' ((first | (have ee := True.intro; refine Wr.mk ?_) | ((first | refine br_go ?_ ?_ | refine pick_go ?_ ?_) <;> intro ee f <;> (try simp only [BB] at f) <;> (try simp only [numOk, verOk] at f)) | (have ee := True.intro; first | refine call_x (impl_isNumber n) rfl ⟨rfl⟩ ?_ | refine call_x (hS) rfl ⟨rfl⟩ ?_)) <;> (try simp (maxSteps := 1000000) (disch := first | omega | (simp only [LN, numOk, verOk, rfP, rvP, rhP, frP, bkd] <;> omega) | exact Ck.mk rfl) only [ee, VC, T, Nat.reduceMul, Nat.reduceAdd, Nat.reduceSub, Nat.reduceLT, Nat.reduceEqDiff, Nat.reduceLeDiff, Nat.reduceBEq, reduceCtorEq, Int.reduceToNat, ↓reduceIte, rfP, rvP, rhP, frP, bkd]) <;> (try clear ee))
  · have e : tmpT n = ⟨#[]⟩ := if_neg h
    rw [e]
    refine fn_x tok (n := 9) (rs := [.tmp 2]) Tryz.func130 (by decide) rfl rfl rfl rfl ?_
    refine Wr.go ?_
    repeat' ((first | (have ee := True.intro; refine Wr.mk ?_) | ((first | refine br_go ?_ ?_ | refine pick_go ?_ ?_) <;> intro ee f <;> (try simp only [BB] at f) <;> (try simp only [numOk, verOk] at f)) | (have ee := True.intro; first | refine call_x (impl_isNumber n) rfl ⟨rfl⟩ ?_)) <;> (try simp (maxSteps := 1000000) (disch := first | omega | (simp only [LN, numOk, verOk, rfP, rvP, rhP, frP, bkd] <;> omega) | exact Ck.mk rfl) only [ee, VC, T, Nat.reduceMul, Nat.reduceAdd, Nat.reduceSub, Nat.reduceLT, Nat.reduceEqDiff, Nat.reduceLeDiff, Nat.reduceBEq, reduceCtorEq, Int.reduceToNat, ↓reduceIte, rfP, rvP, rhP, frP, bkd]) <;> (try clear ee))
theorem spec_TempName (n : Int) (hn : i64 n) : Fn Tryz.prog 127 [.int .i64 n] [] (.str (tmpT n)) [] := by
  have hS := spec_SegmentName n hn
  by_cases h : numOk n
  · have e : tmpT n = segT n ++ ⟨#[46, 116, 109, 112]⟩ := by unfold tmpT segT; rw [if_pos h, if_pos h, strOf_app]; rfl
    have hz := segT_size n h
    have hne : ¬ segT n = ⟨#[]⟩ := fun e => by rw [e] at hz; cases hz
    rw [e]
    generalize segT n = q at *
    refine fn_x tok (n := 10) (rs := [.tmp 2]) Tryz.func127 (by decide) rfl rfl rfl rfl ?_
    refine Wr.go ?_
    repeat' ((first | (have ee := True.intro; refine Wr.mk ?_) | ((first | refine br_go ?_ ?_ | refine pick_go ?_ ?_) <;> intro ee f <;> (try simp only [BB] at f) <;> (try simp only [numOk, verOk] at f)) | (have ee := True.intro; first | refine call_x (hS) rfl ⟨rfl⟩ ?_)) <;> (try simp (maxSteps := 1000000) (disch := first | omega | (simp only [LN, numOk, verOk, rfP, rvP, rhP, frP, bkd, hne] <;> omega) | exact Ck.mk rfl) only [ee, VC, T, Nat.reduceMul, Nat.reduceAdd, Nat.reduceSub, Nat.reduceLT, Nat.reduceEqDiff, Nat.reduceLeDiff, Nat.reduceBEq, reduceCtorEq, Int.reduceToNat, ↓reduceIte, rfP, rvP, rhP, frP, bkd, hne]) <;> (try clear ee))
  · have e : tmpT n = ⟨#[]⟩ := if_neg h
    have e2 : segT n = ⟨#[]⟩ := if_neg h
    rw [e]
    rw [e2] at hS
    refine fn_x tok (n := 10) (rs := [.tmp 2]) Tryz.func127 (by decide) rfl rfl rfl rfl ?_
    refine Wr.go ?_
    repeat' ((first | (have ee := True.intro; refine Wr.mk ?_) | ((first | refine br_go ?_ ?_ | refine pick_go ?_ ?_) <;> intro ee f <;> (try simp only [BB] at f) <;> (try simp only [numOk, verOk] at f)) | (have ee := True.intro; first | refine call_x (hS) rfl ⟨rfl⟩ ?_)) <;> (try simp (maxSteps := 1000000) (disch := first | omega | (simp only [LN, numOk, verOk, rfP, rvP, rhP, frP, bkd] <;> omega) | exact Ck.mk rfl) only [ee, VC, T, Nat.reduceMul, Nat.reduceAdd, Nat.reduceSub, Nat.reduceLT, Nat.reduceEqDiff, Nat.reduceLeDiff, Nat.reduceBEq, reduceCtorEq, Int.reduceToNat, ↓reduceIte, rfP, rvP, rhP, frP, bkd]) <;> (try clear ee))
end Go.Pv

/- What functions of the program and of the reference do, in plain values. -/
namespace Go.Pv
open Go.Proofs Go.Mth
set_option linter.unusedSimpArgs false
set_option linter.unusedVariables false
set_option maxHeartbeats 4000000
set_option maxRecDepth 4000

/-! ### draws of disks with a row of files -/
theorem seal_v (v s b l : Int) (rs : List ByteArray) (hl : rs.length ≤ 1000) (hz : ∀ r ∈ rs, r.size ≤ 60) : FnV Tryz.prog 39 [.agg [.int .i64 v, .int .i64 s, .int .i64 b, .int .i64 l], .far (rs.map .str)] (isStr' (SzIn 100000)) :=
  (spec_SealText v s b l rs (by omega) (fun r hr => by have := hz r hr; omega)).v.mono fun _ e => ⟨_, e, by have := sealT_le v s b l rs; unfold SzIn; omega⟩
theorem frames_v (v s b l : Int) (rs : List ByteArray) (hb : 0 ≤ b ∧ b ≤ 1000) (hl : rs.length ≤ 1000) (hz : ∀ r ∈ rs, r.size ≤ 60) : FnV Tryz.prog 185 [.agg [.int .i64 v, .int .i64 s, .int .i64 b, .int .i64 l], .far (rs.map .str)] (isStr' (SzIn 100000)) :=
  (l10Frames v s b l rs hb ⟨by omega, hz⟩).mono fun _ ⟨x, e, h⟩ => ⟨x, e, by unfold SzIn at *; omega⟩
theorem cons_60 {r : ByteArray} {rs : List ByteArray} (h : Rec r) (hr : ∀ x ∈ rs, x.size ≤ 60) : ∀ x ∈ r :: rs, x.size ≤ 60 := fun x hx => by
  rcases List.mem_cons.1 hx with rfl | hx
  · exact h
  · exact hr x hx
theorem none_60 : ∀ x ∈ ([] : List ByteArray), x.size ≤ 60 := fun x h => absurd h (by simp)
set_option maxRecDepth 20000 in
theorem l14Disk (code : List Int) (hb : Bytes code) (i h : Int) (hc : CurOk code i h) : FnE Tryz.prog 139 [.ref 0 0] [(0, curB code i h)] (CQ code (isDk 12 700000)) := by
  have hD := fun n => spec_DiskNew n
  unfold dkP at hD
  refine fn_e tok (n := 107) (rs := [.cell 2 32]) Tryz.func139 (by decide) rfl rfl rfl rfl (low_of rfl) ?_
  refine Wr.go ?_
  repeat' ((first | (have ee := True.intro; refine Wr.mk ?_) | ((first | refine br_go ?_ ?_ | refine pick_go ?_ ?_) <;> intro ee f <;> (try simp only [BB] at f) <;> (try simp only [numOk, verOk] at f)) | (have ee := True.intro; first | (refine call_hd [0] [832] (l01PickInt code hb [6000, 6000, 6000, 900] (by simp) (by simp) _ _ (by assumption)) (by decide) ?_ rfl ?_; (focus (first | rfl | (simp (maxSteps := 1000000) (disch := first | omega | (simp only [LN, numOk, verOk, rfP, rvP, rhP, frP, curB, bkd, elOk_en, elOk_nd, nfx_en, nfx_nd] <;> omega) | exact Ck.mk rfl) only [VC, T, Nat.reduceMul, Nat.reduceAdd, Nat.reduceSub, Nat.reduceLT, Nat.reduceEqDiff, Nat.reduceLeDiff, Nat.reduceBEq, reduceCtorEq, Int.reduceToNat, ↓reduceIte, rfP, rvP, rhP, frP, curB, bkd, elOk_en, elOk_nd, nfx_en, nfx_nd]; done))); rintro _ _ ⟨⟨y, rfl, hy⟩, i', h', rfl, hc'⟩) | refine call_x (hD _) rfl ⟨rfl⟩ ?_)) <;> (try simp (maxSteps := 1000000) (disch := first | omega | (simp only [LN, numOk, verOk, rfP, rvP, rhP, frP, curB, bkd, elOk_en, elOk_nd, nfx_en, nfx_nd] <;> omega) | exact Ck.mk rfl) only [ee, VC, T, Nat.reduceMul, Nat.reduceAdd, Nat.reduceSub, Nat.reduceLT, Nat.reduceEqDiff, Nat.reduceLeDiff, Nat.reduceBEq, reduceCtorEq, Int.reduceToNat, ↓reduceIte, rfP, rvP, rhP, frP, curB, bkd, elOk_en, elOk_nd, nfx_en, nfx_nd]) <;> (try clear ee))
  refine lp_go (fun x : Nat × Dk × Int × Int × Int × Int => ⟨107, [(0, .ref 0 0), (2, .ref 192 0), (3, .ref 256 0), (4, .int .i64 x.2.2.1), (5, .int .i64 x.2.2.2.1), (6, .int .i64 x.1)], [(0, curB code x.2.2.2.2.1 x.2.2.2.2.2), (192, .box 32 [.nils, .nils, .nils, .nils, .int .i64 0, .int .i64 0]), (256, .box 32 [.far (x.2.1.1.map ndP), .far (x.2.1.2.1.map enP), .far (x.2.1.2.2.1.map enP), .far (x.2.1.2.2.2.1.map .str), .int .i64 x.2.1.2.2.2.2.1, .int .i64 x.2.1.2.2.2.2.2])]⟩) (fun x => x.1 ≤ 4 ∧ DkB (2 * x.1) (64 + 100004 * x.1) x.2.1 ∧ (0 ≤ x.2.2.1 ∧ x.2.2.1 ≤ 4 * x.1) ∧ CurOk code x.2.2.2.2.1 x.2.2.2.2.2) (fun x => 4 - x.1) (0, newT y, 0, 0, i', h') ?_ ⟨Nat.zero_le _, newT_B _ _ _, by simp, hc'⟩ ?_
  · (simp (disch := first | omega | (simp only [LN, numOk, verOk, curB] <;> omega) | exact Ck.mk rfl) only [SB, EQ, Nat.reduceMul, Nat.reduceAdd, Nat.reduceSub, Nat.reduceLT, Nat.reduceEqDiff, Nat.reduceLeDiff, Nat.reduceBEq, reduceCtorEq, Int.reduceToNat, ↓reduceIte, curB]; try omega)
    try rfl
  · rintro ⟨k, d, base, link, i, h⟩ ⟨hk, hd, hbs, hc⟩ N hN
    simp only at hk hd hbs hc hN ⊢
    have hS := spec_SegmentName base (by unfold i64; omega)
    have hsl := segT_le base
    refine Wr.go ?_
    repeat' ((first | (have ee := True.intro; refine Wr.mk ?_) | ((first | refine br_go ?_ ?_ | refine pick_go ?_ ?_) <;> intro ee f <;> (try simp only [BB] at f) <;> (try simp only [numOk, verOk] at f)) | (have ee := True.intro; first | refine dr_go mixed (id := 18) [([], [0], []), ([], [3], []), ([], [4], []), ([2], [60], []), ([], [9], []), ([0, 1, 2, 3, 4], [58, 59, 61, 62], []), ([0, 1, 2, 3, 4, 5], [3, 63], [])] rfl rfl rfl ?_ | refine dr_go mixed (id := 26) [([], [0], []), ([], [3], [0]), ([], [0], []), ([2], [86], []), ([2, 3], [87], []), ([0, 1, 2, 3, 4], [84, 85, 88], []), ([0, 1, 2, 3, 4, 5], [3, 89], [])] rfl rfl rfl ?_ | refine dr_go mixed (id := 28) [([], [0], []), ([], [3], [0]), ([], [0], []), ([2], [94], []), ([2, 3], [95], []), ([2, 3, 4], [96], []), ([], [0], []), ([2, 3, 4, 5, 6], [98], []), ([0, 1, 2, 3, 4, 5, 6, 7], [92, 93, 97, 99], []), ([0, 1, 2, 3, 4, 5, 6, 7, 8], [3, 100], [])] rfl rfl rfl ?_ | (refine call_h [0] [] (l01Below code hb 2 (by decide) _ _ (by assumption)) (by decide) rfl rfl ?_; rintro _ _ ⟨⟨v0, rfl, hv1, hv2⟩, i', h', rfl, hc'⟩) | (refine call_h [0] [] (l01Below code hb 3 (by decide) _ _ (by assumption)) (by decide) rfl rfl ?_; rintro _ _ ⟨⟨s0, rfl, hs1, hs2⟩, i', h', rfl, hc'⟩) | (refine call_h [0] [] (l01Below code hb _ (by omega) _ _ (by assumption)) (by decide) rfl rfl ?_; rintro _ _ ⟨⟨x, rfl, hx1, hx2⟩, i', h', rfl, hc'⟩) | (refine call_h [0] [] (l08Record code hb _ _ (by assumption)) (by decide) rfl rfl ?_; rintro _ _ ⟨⟨r, rfl, hr0⟩, i', h', rfl, hc'⟩) | (refine call_h [0] [] (l08Records code hb 3 (by decide) _ _ (by assumption)) (by decide) rfl rfl ?_; rintro _ _ ⟨⟨rs, rfl, hr1, hr2⟩, i', h', rfl, hc'⟩) | (refine call_h [0] [] (l01Once code hb _ (by decide) _ _ (by assumption)) (by decide) rfl rfl ?_; rintro _ _ ⟨⟨z, rfl⟩, i', h', rfl, hc'⟩) | (refine call_h [] [2496] ((seal_v (1 + v0) (1 + s0) base (link) [] (by decide) none_60).e) (by decide) ?_ rfl ?_; (focus (first | rfl | (simp (maxSteps := 1000000) (disch := first | omega | (simp only [LN, numOk, verOk, rfP, rvP, rhP, frP, curB, bkd, elOk_en, elOk_nd, nfx_en, nfx_nd, dkP, List.map_cons, List.map_nil, List.length_cons, List.length_nil] <;> omega) | exact Ck.mk rfl) only [VC, T, Nat.reduceMul, Nat.reduceAdd, Nat.reduceSub, Nat.reduceLT, Nat.reduceEqDiff, Nat.reduceLeDiff, Nat.reduceBEq, reduceCtorEq, Int.reduceToNat, ↓reduceIte, rfP, rvP, rhP, frP, curB, bkd, elOk_en, elOk_nd, nfx_en, nfx_nd, dkP, List.map_cons, List.map_nil, List.length_cons, List.length_nil]; done))); rintro _ _ ⟨⟨t, rfl, ht⟩, rfl⟩) | (refine call_h [] [2112] ((seal_v (1 + v0) (1 + s0) base (link) (r :: rs) (by simp only [List.length_cons]; omega) (cons_60 hr0 hr2)).e) (by decide) ?_ rfl ?_; (focus (first | rfl | (simp (maxSteps := 1000000) (disch := first | omega | (simp only [LN, numOk, verOk, rfP, rvP, rhP, frP, curB, bkd, elOk_en, elOk_nd, nfx_en, nfx_nd, dkP, List.map_cons, List.map_nil, List.length_cons, List.length_nil] <;> omega) | exact Ck.mk rfl) only [VC, T, Nat.reduceMul, Nat.reduceAdd, Nat.reduceSub, Nat.reduceLT, Nat.reduceEqDiff, Nat.reduceLeDiff, Nat.reduceBEq, reduceCtorEq, Int.reduceToNat, ↓reduceIte, rfP, rvP, rhP, frP, curB, bkd, elOk_en, elOk_nd, nfx_en, nfx_nd, dkP, List.map_cons, List.map_nil, List.length_cons, List.length_nil]; done))); rintro _ _ ⟨⟨t, rfl, ht⟩, rfl⟩) | (refine call_h [] [2496] ((seal_v (1 + v0) (1 + s0) base (Go.bits .xor .i64 link 1) [] (by decide) none_60).e) (by decide) ?_ rfl ?_; (focus (first | rfl | (simp (maxSteps := 1000000) (disch := first | omega | (simp only [LN, numOk, verOk, rfP, rvP, rhP, frP, curB, bkd, elOk_en, elOk_nd, nfx_en, nfx_nd, dkP, List.map_cons, List.map_nil, List.length_cons, List.length_nil] <;> omega) | exact Ck.mk rfl) only [VC, T, Nat.reduceMul, Nat.reduceAdd, Nat.reduceSub, Nat.reduceLT, Nat.reduceEqDiff, Nat.reduceLeDiff, Nat.reduceBEq, reduceCtorEq, Int.reduceToNat, ↓reduceIte, rfP, rvP, rhP, frP, curB, bkd, elOk_en, elOk_nd, nfx_en, nfx_nd, dkP, List.map_cons, List.map_nil, List.length_cons, List.length_nil]; done))); rintro _ _ ⟨⟨t, rfl, ht⟩, rfl⟩) | (refine call_h [] [2112] ((seal_v (1 + v0) (1 + s0) base (Go.bits .xor .i64 link 1) (r :: rs) (by simp only [List.length_cons]; omega) (cons_60 hr0 hr2)).e) (by decide) ?_ rfl ?_; (focus (first | rfl | (simp (maxSteps := 1000000) (disch := first | omega | (simp only [LN, numOk, verOk, rfP, rvP, rhP, frP, curB, bkd, elOk_en, elOk_nd, nfx_en, nfx_nd, dkP, List.map_cons, List.map_nil, List.length_cons, List.length_nil] <;> omega) | exact Ck.mk rfl) only [VC, T, Nat.reduceMul, Nat.reduceAdd, Nat.reduceSub, Nat.reduceLT, Nat.reduceEqDiff, Nat.reduceLeDiff, Nat.reduceBEq, reduceCtorEq, Int.reduceToNat, ↓reduceIte, rfP, rvP, rhP, frP, curB, bkd, elOk_en, elOk_nd, nfx_en, nfx_nd, dkP, List.map_cons, List.map_nil, List.length_cons, List.length_nil]; done))); rintro _ _ ⟨⟨t, rfl, ht⟩, rfl⟩) | (refine call_h [] [2496] ((frames_v (1 + v0) (1 + s0) base (link) [] (by omega) (by decide) none_60).e) (by decide) ?_ rfl ?_; (focus (first | rfl | (simp (maxSteps := 1000000) (disch := first | omega | (simp only [LN, numOk, verOk, rfP, rvP, rhP, frP, curB, bkd, elOk_en, elOk_nd, nfx_en, nfx_nd, dkP, List.map_cons, List.map_nil, List.length_cons, List.length_nil] <;> omega) | exact Ck.mk rfl) only [VC, T, Nat.reduceMul, Nat.reduceAdd, Nat.reduceSub, Nat.reduceLT, Nat.reduceEqDiff, Nat.reduceLeDiff, Nat.reduceBEq, reduceCtorEq, Int.reduceToNat, ↓reduceIte, rfP, rvP, rhP, frP, curB, bkd, elOk_en, elOk_nd, nfx_en, nfx_nd, dkP, List.map_cons, List.map_nil, List.length_cons, List.length_nil]; done))); rintro _ _ ⟨⟨t, rfl, ht⟩, rfl⟩) | (refine call_h [] [2112] ((frames_v (1 + v0) (1 + s0) base (link) (r :: rs) (by omega) (by simp only [List.length_cons]; omega) (cons_60 hr0 hr2)).e) (by decide) ?_ rfl ?_; (focus (first | rfl | (simp (maxSteps := 1000000) (disch := first | omega | (simp only [LN, numOk, verOk, rfP, rvP, rhP, frP, curB, bkd, elOk_en, elOk_nd, nfx_en, nfx_nd, dkP, List.map_cons, List.map_nil, List.length_cons, List.length_nil] <;> omega) | exact Ck.mk rfl) only [VC, T, Nat.reduceMul, Nat.reduceAdd, Nat.reduceSub, Nat.reduceLT, Nat.reduceEqDiff, Nat.reduceLeDiff, Nat.reduceBEq, reduceCtorEq, Int.reduceToNat, ↓reduceIte, rfP, rvP, rhP, frP, curB, bkd, elOk_en, elOk_nd, nfx_en, nfx_nd, dkP, List.map_cons, List.map_nil, List.length_cons, List.length_nil]; done))); rintro _ _ ⟨⟨t, rfl, ht⟩, rfl⟩) | (refine call_h [] [2496] ((frames_v (1 + v0) (1 + s0) base (Go.bits .xor .i64 link 1) [] (by omega) (by decide) none_60).e) (by decide) ?_ rfl ?_; (focus (first | rfl | (simp (maxSteps := 1000000) (disch := first | omega | (simp only [LN, numOk, verOk, rfP, rvP, rhP, frP, curB, bkd, elOk_en, elOk_nd, nfx_en, nfx_nd, dkP, List.map_cons, List.map_nil, List.length_cons, List.length_nil] <;> omega) | exact Ck.mk rfl) only [VC, T, Nat.reduceMul, Nat.reduceAdd, Nat.reduceSub, Nat.reduceLT, Nat.reduceEqDiff, Nat.reduceLeDiff, Nat.reduceBEq, reduceCtorEq, Int.reduceToNat, ↓reduceIte, rfP, rvP, rhP, frP, curB, bkd, elOk_en, elOk_nd, nfx_en, nfx_nd, dkP, List.map_cons, List.map_nil, List.length_cons, List.length_nil]; done))); rintro _ _ ⟨⟨t, rfl, ht⟩, rfl⟩) | (refine call_h [] [2112] ((frames_v (1 + v0) (1 + s0) base (Go.bits .xor .i64 link 1) (r :: rs) (by omega) (by simp only [List.length_cons]; omega) (cons_60 hr0 hr2)).e) (by decide) ?_ rfl ?_; (focus (first | rfl | (simp (maxSteps := 1000000) (disch := first | omega | (simp only [LN, numOk, verOk, rfP, rvP, rhP, frP, curB, bkd, elOk_en, elOk_nd, nfx_en, nfx_nd, dkP, List.map_cons, List.map_nil, List.length_cons, List.length_nil] <;> omega) | exact Ck.mk rfl) only [VC, T, Nat.reduceMul, Nat.reduceAdd, Nat.reduceSub, Nat.reduceLT, Nat.reduceEqDiff, Nat.reduceLeDiff, Nat.reduceBEq, reduceCtorEq, Int.reduceToNat, ↓reduceIte, rfP, rvP, rhP, frP, curB, bkd, elOk_en, elOk_nd, nfx_en, nfx_nd, dkP, List.map_cons, List.map_nil, List.length_cons, List.length_nil]; done))); rintro _ _ ⟨⟨t, rfl, ht⟩, rfl⟩) | (refine call_h [0] [] (l08Bent code hb t (by unfold SzIn at ht; omega) _ _ (by assumption)) (by decide) rfl rfl ?_; rintro _ _ ⟨⟨t, rfl, ht⟩, i', h', rfl, hc'⟩) | refine call_x (hS) rfl ⟨rfl⟩ ?_ | (refine call_h [0] [] (l14Put code hb (2 * k) (64 + 100004 * k) d hd (segT base) t (by omega) (by unfold SzIn at *; omega) (by omega) _ _ (by assumption)) (by decide) rfl rfl ?_; rintro _ _ ⟨⟨d2, rfl, hd2⟩, i', h', rfl, hc'⟩) | refine call_x (spec_TempName x (by unfold i64; omega)) rfl ⟨rfl⟩ ?_ | (refine call_h [0] [] (l14Put code hb (2 * k) (64 + 100004 * k) d hd (tmpT x) ⟨#[104, 97, 108, 102]⟩ (by have := tmpT_le x; omega) (by show 64 + 100004 * k + 4 ≤ 1048576; omega) (by omega) _ _ (by assumption)) (by decide) rfl rfl ?_; rintro _ _ ⟨⟨d2, rfl, hd2⟩, i', h', rfl, hc'⟩) | refine call_x (spec_SegmentName (20 + x) (by unfold i64; omega)) rfl ⟨rfl⟩ ?_ | (refine call_h [0] [] (l10File code hb _ _ (by assumption)) (by decide) rfl rfl ?_; rintro _ _ ⟨⟨t, rfl, ht⟩, i', h', rfl, hc'⟩) | (refine call_h [0] [] (l14Put code hb (2 * k) (64 + 100004 * k) d hd (segT (20 + x)) t (by have := segT_le (20 + x); omega) (by unfold SzIn at *; omega) (by omega) _ _ (by assumption)) (by decide) rfl rfl ?_; rintro _ _ ⟨⟨d2, rfl, hd2⟩, i', h', rfl, hc'⟩) | (refine call_h [0] [] (l14Put code hb (2 * k) (64 + 100004 * k) d hd (⟨#[114, 101, 97, 100, 109, 101]⟩) ⟨#[115, 111, 109, 101, 32, 116, 101, 120, 116]⟩ (by show 6 + 24 ≤ 64 + 100004 * k; omega) (by show 64 + 100004 * k + 9 ≤ 1048576; omega) (by omega) _ _ (by assumption)) (by decide) rfl rfl ?_; rintro _ _ ⟨⟨d2, rfl, hd2⟩, i', h', rfl, hc'⟩))) <;> (try simp (maxSteps := 1000000) (disch := first | omega | (simp only [LN, numOk, verOk, rfP, rvP, rhP, frP, curB, bkd, elOk_en, elOk_nd, nfx_en, nfx_nd, dkP, List.map_cons, List.map_nil, List.length_cons, List.length_nil] <;> omega) | exact Ck.mk rfl) only [ee, VC, T, Nat.reduceMul, Nat.reduceAdd, Nat.reduceSub, Nat.reduceLT, Nat.reduceEqDiff, Nat.reduceLeDiff, Nat.reduceBEq, reduceCtorEq, Int.reduceToNat, ↓reduceIte, rfP, rvP, rhP, frP, curB, bkd, elOk_en, elOk_nd, nfx_en, nfx_nd, dkP, List.map_cons, List.map_nil, List.length_cons, List.length_nil]) <;> (try clear ee))
    all_goals first
      | (obtain ⟨ws, hws⟩ : ∃ ws : List ByteArray, ws = r :: rs := ⟨_, rfl⟩
         have hw4 : ws.length ≤ 4 := by rw [hws]; simp only [List.length_cons]; omega
         have hw60 : ∀ x ∈ ws, x.size ≤ 60 := by rw [hws]; exact cons_60 hr0 hr2
         refine lp_go (fun x : Nat × Int => ⟨107, [(0, .ref 0 0), (2, .ref 192 0), (3, .ref 256 0), (4, .int .i64 (base + ws.length)), (5, .int .i64 x.2), (6, .int .i64 k), (8, .row 2112 ws.length), (10, .int .i64 x.1)], [(0, curB code i' h'), (192, .box 32 [.nils, .nils, .nils, .nils, .int .i64 0, .int .i64 0]), (256, .box 32 [.far (d2.1.map ndP), .far (d2.2.1.map enP), .far (d2.2.2.1.map enP), .far (d2.2.2.2.1.map .str), .int .i64 d2.2.2.2.2.1, .int .i64 d2.2.2.2.2.2]), (2112, .row ⟨1, 0⟩ (ws.map .str))]⟩) (fun x => x.1 ≤ ws.length) (fun x => ws.length - x.1) (0, link) ?_ (Nat.zero_le _) ?_
         · rw [hws]
           (simp (disch := first | omega | (simp only [LN, numOk, verOk, curB, List.map_cons, List.map_nil, List.length_cons, List.length_nil] <;> omega) | exact Ck.mk rfl) only [SB, EQ, Nat.reduceMul, Nat.reduceAdd, Nat.reduceSub, Nat.reduceLT, Nat.reduceEqDiff, Nat.reduceLeDiff, Nat.reduceBEq, reduceCtorEq, Int.reduceToNat, ↓reduceIte, curB, List.map_cons, List.map_nil, List.length_cons, List.length_nil]; try omega)
         · rintro ⟨j, l⟩ hj N2 hN2
           simp only at hj hN2
           clear hws
           by_cases hjl : j < ws.length
           · have hz := hw60 _ (getD_mem ws j hjl)
             refine Wr.go ?_
             repeat' ((first | (have ee := True.intro; refine Wr.mk ?_) | ((first | refine br_go ?_ ?_ | refine pick_go ?_ ?_) <;> intro ee f <;> (try simp only [BB] at f) <;> (try simp only [numOk, verOk] at f)) | (have ee := True.intro; first | refine call_x (spec_LinkMore _ _ (by omega)) rfl ⟨rfl⟩ ?_)) <;> (try simp (maxSteps := 1000000) (disch := first | omega | (simp only [LN, numOk, verOk, rfP, rvP, rhP, frP, curB, bkd, elOk_en, elOk_nd, nfx_en, nfx_nd] <;> omega) | exact Ck.mk rfl) only [ee, VC, T, Nat.reduceMul, Nat.reduceAdd, Nat.reduceSub, Nat.reduceLT, Nat.reduceEqDiff, Nat.reduceLeDiff, Nat.reduceBEq, reduceCtorEq, Int.reduceToNat, ↓reduceIte, rfP, rvP, rhP, frP, curB, bkd, elOk_en, elOk_nd, nfx_en, nfx_nd]) <;> (try clear ee))
             refine hN2 (j + 1, linkMore l (ws.getD j default)) _ (by simp only; omega) (by simp only; omega) ?_
             (simp (disch := first | omega | (simp only [LN, numOk, verOk, curB] <;> omega) | exact Ck.mk rfl) only [SB, EQ, Nat.reduceMul, Nat.reduceAdd, Nat.reduceSub, Nat.reduceLT, Nat.reduceEqDiff, Nat.reduceLeDiff, Nat.reduceBEq, reduceCtorEq, Int.reduceToNat, ↓reduceIte, curB]; try omega)
           · refine Wr.go ?_
             repeat' ((first | (have ee := True.intro; refine Wr.mk ?_) | ((first | refine br_go ?_ ?_ | refine pick_go ?_ ?_) <;> intro ee f <;> (try simp only [BB] at f) <;> (try simp only [numOk, verOk] at f))) <;> (try simp (maxSteps := 1000000) (disch := first | omega | (simp only [LN, numOk, verOk, rfP, rvP, rhP, frP, curB, bkd, elOk_en, elOk_nd, nfx_en, nfx_nd] <;> omega) | exact Ck.mk rfl) only [ee, VC, T, Nat.reduceMul, Nat.reduceAdd, Nat.reduceSub, Nat.reduceLT, Nat.reduceEqDiff, Nat.reduceLeDiff, Nat.reduceBEq, reduceCtorEq, Int.reduceToNat, ↓reduceIte, rfP, rvP, rhP, frP, curB, bkd, elOk_en, elOk_nd, nfx_en, nfx_nd]) <;> (try clear ee))
             refine hN (k + 1, d2, base + ws.length, l, i', h') _ ⟨by simp only; omega, hd2.mono (by simp only; omega) (by unfold SzIn at *; simp only; omega), by simp only; omega, by assumption⟩ (by simp only; omega) ?_
             (simp (disch := first | omega | (simp only [LN, numOk, verOk, curB] <;> omega) | exact Ck.mk rfl) only [SB, EQ, Nat.reduceMul, Nat.reduceAdd, Nat.reduceSub, Nat.reduceLT, Nat.reduceEqDiff, Nat.reduceLeDiff, Nat.reduceBEq, reduceCtorEq, Int.reduceToNat, ↓reduceIte, curB]; try omega))
      | (obtain ⟨ws, hws⟩ : ∃ ws : List ByteArray, ws = [] := ⟨_, rfl⟩
         have hw4 : ws.length ≤ 4 := by rw [hws]; decide
         have hw60 : ∀ x ∈ ws, x.size ≤ 60 := by rw [hws]; exact none_60
         refine lp_go (fun x : Nat × Int => ⟨107, [(0, .ref 0 0), (2, .ref 192 0), (3, .ref 256 0), (4, .int .i64 (base + ws.length)), (5, .int .i64 x.2), (6, .int .i64 k), (8, .row 2496 ws.length), (10, .int .i64 x.1)], [(0, curB code i' h'), (192, .box 32 [.nils, .nils, .nils, .nils, .int .i64 0, .int .i64 0]), (256, .box 32 [.far (d2.1.map ndP), .far (d2.2.1.map enP), .far (d2.2.2.1.map enP), .far (d2.2.2.2.1.map .str), .int .i64 d2.2.2.2.2.1, .int .i64 d2.2.2.2.2.2]), (2496, .row ⟨1, 0⟩ (ws.map .str))]⟩) (fun x => x.1 ≤ ws.length) (fun x => ws.length - x.1) (0, link) ?_ (Nat.zero_le _) ?_
         · rw [hws]
           (simp (disch := first | omega | (simp only [LN, numOk, verOk, curB, List.map_cons, List.map_nil, List.length_cons, List.length_nil] <;> omega) | exact Ck.mk rfl) only [SB, EQ, Nat.reduceMul, Nat.reduceAdd, Nat.reduceSub, Nat.reduceLT, Nat.reduceEqDiff, Nat.reduceLeDiff, Nat.reduceBEq, reduceCtorEq, Int.reduceToNat, ↓reduceIte, curB, List.map_cons, List.map_nil, List.length_cons, List.length_nil]; try omega)
         · rintro ⟨j, l⟩ hj N2 hN2
           simp only at hj hN2
           clear hws
           by_cases hjl : j < ws.length
           · have hz := hw60 _ (getD_mem ws j hjl)
             refine Wr.go ?_
             repeat' ((first | (have ee := True.intro; refine Wr.mk ?_) | ((first | refine br_go ?_ ?_ | refine pick_go ?_ ?_) <;> intro ee f <;> (try simp only [BB] at f) <;> (try simp only [numOk, verOk] at f)) | (have ee := True.intro; first | refine call_x (spec_LinkMore _ _ (by omega)) rfl ⟨rfl⟩ ?_)) <;> (try simp (maxSteps := 1000000) (disch := first | omega | (simp only [LN, numOk, verOk, rfP, rvP, rhP, frP, curB, bkd, elOk_en, elOk_nd, nfx_en, nfx_nd] <;> omega) | exact Ck.mk rfl) only [ee, VC, T, Nat.reduceMul, Nat.reduceAdd, Nat.reduceSub, Nat.reduceLT, Nat.reduceEqDiff, Nat.reduceLeDiff, Nat.reduceBEq, reduceCtorEq, Int.reduceToNat, ↓reduceIte, rfP, rvP, rhP, frP, curB, bkd, elOk_en, elOk_nd, nfx_en, nfx_nd]) <;> (try clear ee))
             refine hN2 (j + 1, linkMore l (ws.getD j default)) _ (by simp only; omega) (by simp only; omega) ?_
             (simp (disch := first | omega | (simp only [LN, numOk, verOk, curB] <;> omega) | exact Ck.mk rfl) only [SB, EQ, Nat.reduceMul, Nat.reduceAdd, Nat.reduceSub, Nat.reduceLT, Nat.reduceEqDiff, Nat.reduceLeDiff, Nat.reduceBEq, reduceCtorEq, Int.reduceToNat, ↓reduceIte, curB]; try omega)
           · refine Wr.go ?_
             repeat' ((first | (have ee := True.intro; refine Wr.mk ?_) | ((first | refine br_go ?_ ?_ | refine pick_go ?_ ?_) <;> intro ee f <;> (try simp only [BB] at f) <;> (try simp only [numOk, verOk] at f))) <;> (try simp (maxSteps := 1000000) (disch := first | omega | (simp only [LN, numOk, verOk, rfP, rvP, rhP, frP, curB, bkd, elOk_en, elOk_nd, nfx_en, nfx_nd] <;> omega) | exact Ck.mk rfl) only [ee, VC, T, Nat.reduceMul, Nat.reduceAdd, Nat.reduceSub, Nat.reduceLT, Nat.reduceEqDiff, Nat.reduceLeDiff, Nat.reduceBEq, reduceCtorEq, Int.reduceToNat, ↓reduceIte, rfP, rvP, rhP, frP, curB, bkd, elOk_en, elOk_nd, nfx_en, nfx_nd]) <;> (try clear ee))
             refine hN (k + 1, d2, base + ws.length, l, i', h') _ ⟨by simp only; omega, hd2.mono (by simp only; omega) (by unfold SzIn at *; simp only; omega), by simp only; omega, by assumption⟩ (by simp only; omega) ?_
             (simp (disch := first | omega | (simp only [LN, numOk, verOk, curB] <;> omega) | exact Ck.mk rfl) only [SB, EQ, Nat.reduceMul, Nat.reduceAdd, Nat.reduceSub, Nat.reduceLT, Nat.reduceEqDiff, Nat.reduceLeDiff, Nat.reduceBEq, reduceCtorEq, Int.reduceToNat, ↓reduceIte, curB]; try omega))
      | (refine fin_c (y := .agg [.far (d2.1.map ndP), .far (d2.2.1.map enP), .far (d2.2.2.1.map enP), .far (d2.2.2.2.1.map .str), .int .i64 d2.2.2.2.2.1, .int .i64 d2.2.2.2.2.2]) rfl (by rfl) rfl rfl ?_
         exact ⟨⟨d2, rfl, hd2.mono (by omega) (by unfold SzIn at *; omega)⟩, _, _, rfl, by assumption⟩)
      | (refine fin_c (y := .agg [.far (d2.1.map ndP), .far (d2.2.1.map enP), .far (d2.2.2.1.map enP), .far (d2.2.2.2.1.map .str), .int .i64 d2.2.2.2.2.1, .int .i64 d2.2.2.2.2.2]) rfl (by rfl) rfl rfl ?_
         exact ⟨⟨d2, rfl, hd2.mono (by omega) (by first | (show 64 + 100004 * k + 4 ≤ 700000; omega) | (show 64 + 100004 * k + 9 ≤ 700000; omega))⟩, _, _, rfl, by assumption⟩)
      | (refine fin_c (y := .agg [.far (d.1.map ndP), .far (d.2.1.map enP), .far (d.2.2.1.map enP), .far (d.2.2.2.1.map .str), .int .i64 d.2.2.2.2.1, .int .i64 d.2.2.2.2.2]) rfl (by rfl) rfl rfl ?_
         exact ⟨⟨d, rfl, hd.mono (by omega) (by omega)⟩, _, _, rfl, by assumption⟩)
end Go.Pv

/- What functions of the program and of the reference do, in plain values. -/
namespace Go.Pv
open Go.Proofs Go.Mth
set_option linter.unusedSimpArgs false
set_option linter.unusedVariables false
set_option maxHeartbeats 4000000
set_option maxRecDepth 4000

theorem l14Any (code : List Int) (hb : Bytes code) (i h : Int) (hc : CurOk code i h) : FnE Tryz.prog 85 [.ref 0 0] [(0, curB code i h)] (CQ code (isDk 17 700000)) := by
  refine fn_e tok (n := 9) (rs := [.cell 2 32]) Tryz.func85 (by decide) rfl rfl rfl rfl (low_of rfl) ?_
  refine Wr.go ?_
  repeat' ((first | (have ee := True.intro; refine Wr.mk ?_) | ((first | refine br_go ?_ ?_ | refine pick_go ?_ ?_) <;> intro ee f <;> (try simp only [BB] at f) <;> (try simp only [numOk, verOk] at f)) | (have ee := True.intro; first | (refine call_h [0] [] (l01Once code hb _ (by decide) _ _ (by assumption)) (by decide) rfl rfl ?_; rintro _ _ ⟨⟨z, rfl⟩, i', h', rfl, hc'⟩) | (refine call_h [0] [] (l05Any code hb _ _ (by assumption)) (by decide) rfl rfl ?_; rintro _ _ ⟨⟨d, rfl, hd⟩, i', h', rfl, hc'⟩) | (refine call_h [0] [] (l14Disk code hb _ _ (by assumption)) (by decide) rfl rfl ?_; rintro _ _ ⟨⟨d, rfl, hd⟩, i', h', rfl, hc'⟩))) <;> (try simp (maxSteps := 1000000) (disch := first | omega | (simp only [LN, numOk, verOk, rfP, rvP, rhP, frP, curB, bkd, elOk_en, elOk_nd, nfx_en, nfx_nd, dkP] <;> omega) | exact Ck.mk rfl) only [ee, VC, T, Nat.reduceMul, Nat.reduceAdd, Nat.reduceSub, Nat.reduceLT, Nat.reduceEqDiff, Nat.reduceLeDiff, Nat.reduceBEq, reduceCtorEq, Int.reduceToNat, ↓reduceIte, rfP, rvP, rhP, frP, curB, bkd, elOk_en, elOk_nd, nfx_en, nfx_nd, dkP]) <;> (try clear ee))
  all_goals
    refine fin_c (y := .agg [.far (d.1.map ndP), .far (d.2.1.map enP), .far (d.2.2.1.map enP), .far (d.2.2.2.1.map .str), .int .i64 d.2.2.2.2.1, .int .i64 d.2.2.2.2.2]) rfl (by rfl) rfl rfl ?_
    exact ⟨⟨d, rfl, hd.mono (by omega) (by omega)⟩, _, _, rfl, by assumption⟩
def isDisk (r : PV) : Prop := ∃ d, r = dkP d ∧ DkOk d
theorem DrawRowOf (code : List Int) (hb : Bytes code) : FnV Tryz.prog 46 [.far (code.map (.int .u8))] isDisk := by
  refine fn_v tok (n := 6) (rs := [.cell 2 32]) Tryz.func46 (by decide) rfl rfl rfl rfl ?_
  refine Wr.go ?_
  repeat' ((first | (have ee := True.intro; refine Wr.mk ?_) | ((first | refine br_go ?_ ?_ | refine pick_go ?_ ?_) <;> intro ee f <;> (try simp only [BB] at f) <;> (try simp only [numOk, verOk] at f)) | (have ee := True.intro; first | (refine call_h [] [] (l01New code hb) (by decide) rfl rfl ?_; rintro _ _ ⟨rfl, h, rfl, hc⟩) | (refine call_h [320] [] (l14Any code hb _ _ (by assumption)) (by decide) rfl rfl ?_; rintro _ _ ⟨⟨d, rfl, hd⟩, i', h', rfl, hc'⟩))) <;> (try simp (maxSteps := 1000000) (disch := first | omega | (simp only [LN, numOk, verOk, rfP, rvP, rhP, frP, curB, bkd, elOk_en, elOk_nd, nfx_en, nfx_nd, dkP] <;> omega) | exact Ck.mk rfl) only [ee, VC, T, Nat.reduceMul, Nat.reduceAdd, Nat.reduceSub, Nat.reduceLT, Nat.reduceEqDiff, Nat.reduceLeDiff, Nat.reduceBEq, reduceCtorEq, Int.reduceToNat, ↓reduceIte, rfP, rvP, rhP, frP, curB, bkd, elOk_en, elOk_nd, nfx_en, nfx_nd, dkP]) <;> (try clear ee))
  exact ⟨d, rfl, hd.ok (by decide) (by decide)⟩
end Go.Pv

/- What functions of the program and of the reference do, in plain values. -/
namespace Go.Pv
open Go.Proofs Go.Mth
set_option linter.unusedSimpArgs false
set_option linter.unusedVariables false
set_option maxHeartbeats 4000000
set_option maxRecDepth 4000

/-- Some of a row, moved to its beginning. -/
structure Kept {α : Type} (p : α → Bool) (L M : List α) (i j : Nat) : Prop where
  len : M.length = L.length
  lt : i < j
  le : j ≤ L.length
  fst : M.take i = (L.take j).filter p
  snd : M.drop j = L.drop j
theorem Kept.first {α : Type} [Inhabited α] {p : α → Bool} {L : List α} {k : Nat} (hk : k < L.length) (h1 : ∀ j, j < k → p (L.getD j default) = true) (h2 : p (L.getD k default) = false) : Kept p L L k (k + 1) := by
  refine ⟨rfl, by omega, by omega, ?_, rfl⟩
  rw [take_snoc default L k hk, List.filter_append]
  have e : (L.take k).filter p = L.take k := by
    rw [List.filter_eq_self]
    intro x hx
    obtain ⟨j, hj, rfl⟩ := List.mem_iff_getElem.1 hx
    rw [List.length_take] at hj
    have := h1 j (by omega)
    rw [List.getD_eq_getElem?_getD, List.getElem?_eq_getElem (by omega)] at this
    rw [List.getElem_take]
    exact this
  have e2 : [rdOf default L (k : Int)].filter p = [] := by
    have : rdOf default L (k : Int) = L.getD k default := rfl
    rw [this, List.filter_cons_of_neg (by rw [h2]; decide)]; rfl
  rw [e]
  show _ = _ ++ List.filter p [_]
  rw [show List.filter p [rdOf default L k] = [] from e2, List.append_nil]
theorem Kept.at {α : Type} [Inhabited α] {p : α → Bool} {L M : List α} {i j : Nat} (h : Kept p L M i j) (hj : j < L.length) : M.getD j default = L.getD j default := by
  have h1 := congrArg (fun l => l.head?) h.snd
  simp only [List.head?_drop] at h1
  rw [List.getD_eq_getElem?_getD, List.getD_eq_getElem?_getD, h1]
theorem Kept.skip {α : Type} [Inhabited α] {p : α → Bool} {L M : List α} {i j : Nat} (h : Kept p L M i j) (hj : j < L.length) (hp : p (L.getD j default) = false) : Kept p L M i (j + 1) := by
  refine ⟨h.len, by have := h.lt; omega, by omega, ?_, ?_⟩
  · rw [h.fst, take_snoc default L j hj, List.filter_append]
    show _ = _ ++ List.filter p [_]
    have e2 : [rdOf default L j].filter p = [] := by
      have : rdOf default L (j : Int) = L.getD j default := rfl
      rw [this, List.filter_cons_of_neg (by rw [hp]; decide)]; rfl
    rw [e2, List.append_nil]
  · have := congrArg (fun l => l.drop 1) h.snd
    simpa [List.drop_drop] using this
theorem Kept.take {α : Type} [Inhabited α] {p : α → Bool} {L M : List α} {i j : Nat} (h : Kept p L M i j) (hj : j < L.length) (hp : p (L.getD j default) = true) : Kept p L (M.set i (L.getD j default)) (i + 1) (j + 1) := by
  have hlt := h.lt
  have hln := h.len
  refine ⟨by rw [List.length_set]; exact h.len, by omega, by omega, ?_, ?_⟩
  · rw [take_snoc default L j hj, List.filter_append, ← h.fst]
    have e2 : [rdOf default L j].filter p = [L.getD j default] := by
      have : rdOf default L (j : Int) = L.getD j default := rfl
      rw [this, List.filter_cons_of_pos hp]; rfl
    rw [e2, List.take_add_one, List.take_set_of_le (Nat.le_refl i), List.getElem?_set_self (by omega)]
    rfl
  · rw [List.drop_set_of_lt (by omega)]
    have := congrArg (fun l => l.drop 1) h.snd
    simpa [List.drop_drop] using this
theorem Kept.done {α : Type} {p : α → Bool} {L M : List α} {i : Nat} (h : Kept p L M i L.length) : M.take i = L.filter p ∧ (L.filter p).length = i ∧ i < L.length := by
  have h1 := h.fst
  rw [List.take_length] at h1
  refine ⟨h1, ?_, h.lt⟩
  rw [← h1, List.length_take]
  have := h.lt
  have := h.len
  omega
/-- A row, or the first part of one. -/
def Jz (k : Nat) : List PV := List.replicate k (.agg (List.replicate 1 .junk))
theorem Jz_len (k : Nat) : (Jz k).length = k := List.length_replicate
theorem nfx_cut {F : List PV} (k : Nat) (h : nfx F) : nfx (F ++ Jz k) := fun x hx y hy => by
  rcases List.mem_append.1 hx with hx | hx
  · exact h x hx y hy
  · rw [List.eq_of_mem_replicate hx] at hy
    have : y = .junk := List.eq_of_mem_replicate (n := 1) hy
    rw [this]; rfl
theorem nfx_cutS (l : List ByteArray) (k : Nat) : nfx (l.map PV.str ++ Jz k) = True := eq_true (nfx_cut k (of_eq_true (nfx_str l)))
def Cut (F : List PV) (r : PV) (m : Hp) : Prop := (r = .row 64 F.length ∧ m = [(64, .row ⟨1, 0⟩ F)]) ∨ ∃ (n z : Nat), r = .view 64 n 0 F.length ∧ (F.length < n ∧ n ≤ 1048576) ∧ n = F.length + z ∧ m = [(64, .row ⟨1, 0⟩ (F ++ Jz z))]
def Cut0 (F : List PV) (n : Nat) (r : PV) (m : Hp) : Prop := (r = .row 0 n ∧ n = F.length ∧ m = [(0, .row ⟨1, 0⟩ F)]) ∨ ∃ z : Nat, r = .view 0 n 0 F.length ∧ F.length < n ∧ n = F.length + z ∧ m = [(0, .row ⟨1, 0⟩ (F ++ Jz z))]
theorem filt_snoc {α : Type} [Inhabited α] (p : α → Bool) (L : List α) (i : Nat) (h : i < L.length) : (L.take (i + 1)).filter p = (L.take i).filter p ++ if p (L.getD i default) = true then [L.getD i default] else [] := by
  rw [take_snoc default L i h, List.filter_append]
  congr 1
  show List.filter p [rdOf default L i] = _
  have : rdOf default L (i : Int) = L.getD i default := rfl
  rw [this]
  cases hp : p (L.getD i default)
  · rw [List.filter_cons_of_neg (by rw [hp]; decide)]; rfl
  · rw [List.filter_cons_of_pos hp]; rfl
end Go.Pv

/- What functions of the program and of the reference do, in plain values. -/
namespace Go.Pv
open Go.Proofs Go.Mth
set_option linter.unusedSimpArgs false
set_option linter.unusedVariables false
set_option maxHeartbeats 4000000
set_option maxRecDepth 4000

/-! ### laws of drawn disks: what they share -/
theorem u8_in {n : Int} (h : (Lit.int .u8 n).wf = true) : 0 ≤ n ∧ n ≤ 255 := by
  simp only [Lit.wf, Bool.and_eq_true, decide_eq_true_eq] at h
  exact h
def CodeOk (code : List Int) : Prop := code.length ≤ 9223372036854775807 ∧ ∀ a ∈ code, (Lit.int .u8 a).wf = true
theorem CodeOk.bytes {code : List Int} (h : CodeOk code) (hl : (code.length : Int) ≤ 1048576) : Bytes code := ⟨by omega, fun x hx => u8_in (h.2 x hx)⟩
theorem laws_bigD (code : List Int) (h : code.length ≤ 9223372036854775807) : Fn Tryz.prog 29 [.far (code.map (.int .u8))] [] (.bool (decide (1048576 < (code.length : Int)))) [] := by
  refine fn_x tok (n := 6) (rs := [.tmp 2]) Tryz.func29 (by decide) rfl rfl rfl rfl ?_
  refine Wr.go ?_
  repeat' ((first | (have ee := True.intro; refine Wr.mk ?_) | ((first | refine br_go ?_ ?_ | refine pick_go ?_ ?_) <;> intro ee f <;> (try simp only [BB] at f) <;> (try simp only [numOk, verOk] at f))) <;> (try simp (maxSteps := 1000000) (disch := first | omega | (simp only [LN, numOk, verOk, dkP, beq_self_eq_true, bkd] <;> omega) | exact Ck.mk rfl) only [ee, VC, T, Nat.reduceMul, Nat.reduceAdd, Nat.reduceSub, Nat.reduceLT, Nat.reduceEqDiff, Nat.reduceLeDiff, Nat.reduceBEq, reduceCtorEq, Int.reduceToNat, ↓reduceIte, dkP, beq_self_eq_true, bkd]) <;> (try clear ee))
theorem dk0_okk (t : ByteArray) (ht : t.size ≤ 1000) : DkOk (dk0 t) := by
  refine ⟨by show 1 ≤ 1048576; decide, by show 1 ≤ 1048576; decide, by show 0 ≤ 1048576; decide, by show 1 ≤ 1048576; decide, fun x hx => ?_, fun x hx => ?_, fun x hx => absurd hx (by simp [dk0]), fun x hx => ?_⟩ <;> simp only [dk0, List.mem_singleton] at hx <;> subst hx
  · simp only; omega
  · decide
  · decide
theorem create_nm0 : Fn Tryz.prog 36 [dkP (newT 500), .str ⟨#[115, 48, 48, 48, 48, 48, 48, 48, 48, 46, 115, 101, 103]⟩] [] (.tup [dkP (dk0 ⟨#[]⟩), .int .i64 0]) [] := by
  have k := spec_CreateFile (newT 500) nm0 (newT_B _ _ _) (by decide)
  rw [create0] at k
  exact k
theorem new500 : Fn Tryz.prog 37 [.int .i64 500] [] (dkP (newT 500)) [] := spec_DiskNew 500
end Go.Pv

/- What functions of the program and of the reference do, in plain values. -/
namespace Go.Pv
open Go.Proofs Go.Mth
set_option linter.unusedSimpArgs false
set_option linter.unusedVariables false
set_option maxHeartbeats 4000000
set_option maxRecDepth 4000

/-! ### laws of drawn disks: chains -/
set_option maxRecDepth 100000 in
theorem seal1_le : (sealT 1 1 0 0 [⟨#[97]⟩]).size ≤ 500 := by decide +kernel
set_option maxRecDepth 100000 in
theorem seal1_go : goOk (sealT 1 1 0 0 [⟨#[97]⟩]) 0 0 ∧ (recs (sealT 1 1 0 0 [⟨#[97]⟩])).length = 1 := by decide +kernel
theorem seal1 : Fn Tryz.prog 39 [.agg [.int .i64 1, .int .i64 1, .int .i64 0, .int .i64 0], .far [.str ⟨#[97]⟩]] [] (.str (sealT 1 1 0 0 [⟨#[97]⟩])) [] := spec_SealText 1 1 0 0 [⟨#[97]⟩] (by decide) (fun r hr => by rw [List.mem_singleton] at hr; subst hr; decide)
theorem append_nm0 (t : ByteArray) (h : t.size ≤ 500) : Fn Tryz.prog 38 [dkP (dk0 ⟨#[]⟩), .str ⟨#[115, 48, 48, 48, 48, 48, 48, 48, 48, 46, 115, 101, 103]⟩, .str t] [] (.tup [dkP (dk0 t), .int .i64 0]) [] := by
  have hB : DkB 1048575 1048576 (dk0 ⟨#[]⟩) := by
    have k := createT_B (newT_B 500 0 100) nm0 (by decide)
    rw [create0] at k
    exact k.mono (by decide) (by decide)
  have k := spec_AppendFile (dk0 ⟨#[]⟩) nm0 t hB (by omega)
  rw [append0 t h] at k
  exact k
end Go.Pv

/-
  DERIVED: THE SHELF's CONTRACTS AT THIS DUMP, IN PLAIN WORDS (tools/lay-plain.mjs out of 'TryzShelf.lean', which tools/lay-shelf.mjs wrote): THE SAME DECLARATIONS UNDER THE SAME NAMES: 'import', 'namespace', 'open', 'def', 'theorem' AND NOTHING ELSE: no command of the shelf's: FOR A HAND-IN. Each laying: the table of numbers ('.._ren') and one theorem, a field a fact of the dump's own or the kernel's comparison; each contract: ONE APPLICATION.
-/
namespace Go.Proofs
open Go.Shelf
def Tryz.laysC245_ren : Go.Shelf.Ren := ⟨fun | 245 => 167 | 279 => 207 | 280 => 208 | 281 => 209 | 282 => 210 | 316 => 243 | 171 => 245 | 205 => 244 | 243 => 266 | 246 => 196 | 283 => 234 | 284 => 235 | 285 => 236 | 286 => 237 | 129 => 178 | 317 => 260 | 318 => 261 | 319 => 262 | 320 => 263 | 337 => 270 | 338 => 271 | n => n, fun | 9 => 9 | 3 => 3 | 75 => 132 | 167 => 201 | 4 => 4 | 168 => 203 | 210 => 227 | 37 => 48 | 0 => 0 | 127 => 224 | 145 => 245 | 143 => 243 | 2 => 2 | 171 => 216 | 53 => 130 | 5 => 5 | 173 => 218 | 212 => 238 | 51 => 177 | 20 => 20 | 213 => 239 | 46 => 137 | 232 => 246 | 233 => 247 | 80 => 199 | n => n, fun | 15 => 0 | 16 => 1 | 17 => 2 | 18 => 4 | 19 => 5 | n => n⟩
theorem Tryz.laysC245 : Go.Proofs.LaysC.n245 Tryz.prog Tryz.laysC245_ren := {
  mixed := by kernel_rfl
  f129 := Tryz.func178.trans (congrArg some (by kernel_rfl))
  f171 := Tryz.func245.trans (congrArg some (by kernel_rfl))
  f205 := Tryz.func244.trans (congrArg some (by kernel_rfl))
  f243 := Tryz.func266.trans (congrArg some (by kernel_rfl))
  f245 := Tryz.func167.trans (congrArg some (by kernel_rfl))
  f246 := Tryz.func196.trans (congrArg some (by kernel_rfl))
  f279 := Tryz.func207.trans (congrArg some (by kernel_rfl))
  f280 := Tryz.func208.trans (congrArg some (by kernel_rfl))
  f281 := Tryz.func209.trans (congrArg some (by kernel_rfl))
  f282 := Tryz.func210.trans (congrArg some (by kernel_rfl))
  f283 := Tryz.func234.trans (congrArg some (by kernel_rfl))
  f284 := Tryz.func235.trans (congrArg some (by kernel_rfl))
  f285 := Tryz.func236.trans (congrArg some (by kernel_rfl))
  f286 := Tryz.func237.trans (congrArg some (by kernel_rfl))
  f316 := Tryz.func243.trans (congrArg some (by kernel_rfl))
  f317 := Tryz.func260.trans (congrArg some (by kernel_rfl))
  f318 := Tryz.func261.trans (congrArg some (by kernel_rfl))
  f319 := Tryz.func262.trans (congrArg some (by kernel_rfl))
  f320 := Tryz.func263.trans (congrArg some (by kernel_rfl))
  f337 := Tryz.func270.trans (congrArg some (by kernel_rfl))
  f338 := Tryz.func271.trans (congrArg some (by kernel_rfl))
  t0 := Tryz.underlying0
  a0 := Tryz.isAgg0
  z0 := Tryz.sizeOf0
  v0 := Tryz.zeroValue0
  t2 := Tryz.underlying2
  a2 := Tryz.isAgg2
  z2 := Tryz.sizeOf2
  v2 := Tryz.zeroValue2
  t3 := Tryz.underlying3
  a3 := Tryz.isAgg3
  z3 := Tryz.sizeOf3
  v3 := Tryz.zeroValue3
  t4 := Tryz.underlying4
  a4 := Tryz.isAgg4
  z4 := Tryz.sizeOf4
  v4 := Tryz.zeroValue4
  t5 := Tryz.underlying5
  a5 := Tryz.isAgg5
  z5 := Tryz.sizeOf5
  v5 := Tryz.zeroValue5
  t9 := Tryz.underlying9
  a9 := Tryz.isAgg9
  z9 := Tryz.sizeOf9
  v9 := Tryz.zeroValue9
  t20 := Tryz.underlying20
  a20 := Tryz.isAgg20
  z20 := Tryz.sizeOf20
  v20 := Tryz.zeroValue20
  t37 := Tryz.underlying48
  a37 := Tryz.isAgg48
  z37 := Tryz.sizeOf48
  v37 := Tryz.zeroValue48
  t46 := Tryz.underlying137
  a46 := Tryz.isAgg137
  z46 := Tryz.sizeOf137
  v46 := Tryz.zeroValue137
  t51 := Tryz.underlying177
  a51 := Tryz.isAgg177
  z51 := Tryz.sizeOf177
  v51 := Tryz.zeroValue177
  t53 := Tryz.underlying130
  a53 := Tryz.isAgg130
  z53 := Tryz.sizeOf130
  v53 := Tryz.zeroValue130
  t75 := Tryz.underlying132
  a75 := Tryz.isAgg132
  z75 := Tryz.sizeOf132
  v75 := Tryz.zeroValue132
  t127 := Tryz.underlying224
  a127 := Tryz.isAgg224
  z127 := Tryz.sizeOf224
  v127 := Tryz.zeroValue224
  t143 := Tryz.underlying243
  a143 := Tryz.isAgg243
  z143 := Tryz.sizeOf243
  v143 := Tryz.zeroValue243
  t145 := Tryz.underlying245
  a145 := Tryz.isAgg245
  z145 := Tryz.sizeOf245
  v145 := Tryz.zeroValue245
  t167 := Tryz.underlying201
  a167 := Tryz.isAgg201
  z167 := Tryz.sizeOf201
  v167 := Tryz.zeroValue201
  t168 := Tryz.underlying203
  a168 := Tryz.isAgg203
  z168 := Tryz.sizeOf203
  v168 := Tryz.zeroValue203
  t171 := Tryz.underlying216
  a171 := Tryz.isAgg216
  z171 := Tryz.sizeOf216
  v171 := Tryz.zeroValue216
  t173 := Tryz.underlying218
  a173 := Tryz.isAgg218
  z173 := Tryz.sizeOf218
  v173 := Tryz.zeroValue218
  t210 := Tryz.underlying227
  a210 := Tryz.isAgg227
  z210 := Tryz.sizeOf227
  v210 := Tryz.zeroValue227
  t212 := Tryz.underlying238
  a212 := Tryz.isAgg238
  z212 := Tryz.sizeOf238
  v212 := Tryz.zeroValue238
  t213 := Tryz.underlying239
  a213 := Tryz.isAgg239
  z213 := Tryz.sizeOf239
  t232 := Tryz.underlying246
  a232 := Tryz.isAgg246
  z232 := Tryz.sizeOf246
  v232 := Tryz.zeroValue246
  t233 := Tryz.underlying247
  a233 := Tryz.isAgg247
  z233 := Tryz.sizeOf247
  v233 := Tryz.zeroValue247
  g15 := by kernel_rfl
  g16 := by kernel_rfl
  g17 := by kernel_rfl
  g18 := by kernel_rfl
  g19 := by kernel_rfl
  t80 := Tryz.underlying199
  a80 := Tryz.isAgg199
  z80 := Tryz.sizeOf199
  v80 := Tryz.zeroValue199
  i0 := by kernel_rfl
  i2 := by kernel_rfl
  i3 := by kernel_rfl
  i4 := by kernel_rfl
  i5 := by kernel_rfl
  i9 := by kernel_rfl
  i20 := by kernel_rfl
  i37 := by kernel_rfl
  i46 := by kernel_rfl
  i51 := by kernel_rfl
  i53 := by kernel_rfl
  i75 := by kernel_rfl
  i80 := by kernel_rfl
  i127 := by kernel_rfl
  i143 := by kernel_rfl
  i145 := by kernel_rfl
  i167 := by kernel_rfl
  i168 := by kernel_rfl
  i171 := by kernel_rfl
  i173 := by kernel_rfl
  i210 := by kernel_rfl
  i212 := by kernel_rfl
  i232 := by kernel_rfl
  i233 := by kernel_rfl
  m15 := by kernel_rfl
  m16 := by kernel_rfl
  m17 := by kernel_rfl
  m18 := by kernel_rfl
  m19 := by kernel_rfl
  c0 := by kernel_rfl
  c2 := by kernel_rfl
  c3 := by kernel_rfl
  c4 := by kernel_rfl
  c5 := by kernel_rfl
  c9 := by kernel_rfl
  c20 := by kernel_rfl
  c37 := by kernel_rfl
  c46 := by kernel_rfl
  c51 := by kernel_rfl
  c53 := by kernel_rfl
  c75 := by kernel_rfl
  c80 := by kernel_rfl
  c127 := by kernel_rfl
  c143 := by kernel_rfl
  c145 := by kernel_rfl
  c167 := by kernel_rfl
  c168 := by kernel_rfl
  c171 := by kernel_rfl
  c173 := by kernel_rfl
  c210 := by kernel_rfl
  c212 := by kernel_rfl
  c213 := by kernel_rfl
  c232 := by kernel_rfl
  c233 := by kernel_rfl }
open Go.RowKit in
/-- strconv.toError, at the inner package's ErrSyntax: 'syntaxError(fn, s)' as an error: A *NumError IN A NEW BLOCK. (LAID: no walk: one application.) -/
theorem Tryz.strconv_toError_syntax (fn s : ByteArray) (base bits : Int) (ev : Value) (w : World) (hlim : s.size ≤ 281474976710656) (hv : w.cell? ⟨0, 0, none⟩ = some ev) (hev : ev = .nilIface ∨ ∃ te pe, ev = .iface te pe) :
    Calls Tryz.prog 167 #[.string fn, .string s, .int .i64 base, .int .i64 bits, .iface 201 (.int .i64 2)] w fun e w' => ∃ N, e = .returned (.iface 203 (.pointer (some ⟨N, 0, none⟩))) ∧ w.heap.size ≤ N ∧ w'.heap[N]? = some (.cells #[.string fn, .string s, ev] 227 (0, 0)) ∧ Below w.heap.size w w' := Any.strconv_toError_syntax Tryz.laysC245 fn s base bits ev w hlim hv hev
end Go.Proofs

/- What functions of the program and of the reference do, in plain values. -/
namespace Go.Pv
open Go.Proofs Go.Mth
set_option linter.unusedSimpArgs false
set_option linter.unusedVariables false
set_option maxHeartbeats 4000000
set_option maxRecDepth 4000

/-! ### names read -/
theorem orLow_all : ∀ n < 256, (0 ≤ Go.bits .or .u8 ((n : Nat) : Int) 32 ∧ Go.bits .or .u8 ((n : Nat) : Int) 32 < 256) ∧ (97 ≤ n → n ≤ 102 → Go.bits .or .u8 ((n : Nat) : Int) 32 = ((n : Nat) : Int)) := by decide +kernel
theorem orLow (c : Int) (h0 : 0 ≤ c) (h1 : c < 256) : (0 ≤ Go.bits .or .u8 c 32 ∧ Go.bits .or .u8 c 32 < 256) ∧ (97 ≤ c → c ≤ 102 → Go.bits .or .u8 c 32 = c) := by
  obtain ⟨n, rfl⟩ := Int.eq_ofNat_of_zero_le h0
  obtain ⟨h2, h3⟩ := orLow_all n (by omega)
  exact ⟨h2, fun a b => h3 (by omega) (by omega)⟩
theorem lowerC (c : Int) : Fn Tryz.prog 205 [.int .u8 c] [] (.int .u8 (Go.bits .or .u8 c 32)) [] := by
  refine fn_x tok (n := 5) (rs := [.tmp 2]) Tryz.func205 (by decide) rfl rfl rfl rfl ?_
  refine Wr.go ?_
  repeat' ((first | (have ee := True.intro; refine Wr.mk ?_) | ((first | refine br_go ?_ ?_ | refine pick_go ?_ ?_) <;> intro ee f <;> (try simp only [BB] at f) <;> (try simp only [numOk, verOk] at f))) <;> (try simp (maxSteps := 1000000) (disch := first | omega | (simp only [LN, numOk, verOk, rfP, rvP, rhP, frP, bkd] <;> omega) | exact Ck.mk rfl) only [ee, VC, T, Nat.reduceMul, Nat.reduceAdd, Nat.reduceSub, Nat.reduceLT, Nat.reduceEqDiff, Nat.reduceLeDiff, Nat.reduceBEq, reduceCtorEq, Int.reduceToNat, ↓reduceIte, rfP, rvP, rhP, frP, bkd]) <;> (try clear ee))
theorem pow16_le : ∀ i : Nat, i ≤ 7 → (16 : Int) ^ i ≤ 268435456
  | 0, _ | 1, _ | 2, _ | 3, _ | 4, _ | 5, _ | 6, _ | 7, _ => by decide
  | n + 8, h => by omega
theorem hexN_step (n : Int) (l : List Int) (i : Nat) (h : i < l.length) : hexN n (l.drop i) = if 0 ≤ hexV (l.getD i default) then hexN (16 * n + hexV (l.getD i default)) (l.drop (i + 1)) else none := by
  rw [List.drop_eq_getElem_cons h, List.getD_eq_getElem?_getD, List.getElem?_eq_getElem h]; rfl
theorem hexV_dig (c : Int) (h : 48 ≤ c) (h2 : c ≤ 57) : hexV c = c - 48 := if_pos ⟨h, h2⟩
theorem hexV_small (c : Int) (h : 97 ≤ c) (h2 : c ≤ 102) : hexV c = c - 87 := by unfold hexV; rw [if_neg (by omega), if_pos ⟨h, h2⟩]
theorem hexV_let (c : Int) (h : 0 ≤ hexV c) (h2 : ¬ (48 ≤ c ∧ c ≤ 57)) : 97 ≤ c ∧ c ≤ 102 ∧ hexV c = c - 87 := by
  unfold hexV at *
  rw [if_neg h2] at *
  split at h
  · rename_i h3; rw [if_pos h3]; exact ⟨h3.1, h3.2, rfl⟩
  · omega
/-- What a number is read as. -/
def PuR (s : ByteArray) (t : TypeId) (r : PV) : Prop := (∃ m : Int, r = .tup [.int .u64 m, .raw .nilIface] ∧ (0 ≤ m ∧ m < 4294967296) ∧ ∀ k, hexN 0 (bytesOf s) = some k → m = k) ∨ (hexN 0 (bytesOf s) = none ∧ r = .tup [.int .u64 0, .raw (.iface t (.int .i64 2))])
theorem hex_bad {s : ByteArray} {n : Int} {i : Nat} (hi : i < (bytesOf s).length) (h : ∀ k, hexN 0 (bytesOf s) = some k → hexN n ((bytesOf s).drop i) = some k) (hb : ¬ 0 ≤ hexV ((bytesOf s).getD i default)) : hexN 0 (bytesOf s) = none := by
  cases hx : hexN 0 (bytesOf s) with
  | none => rfl
  | some k =>
    have := h k hx
    rw [hexN_step n _ i hi, if_neg hb] at this
    cases this
set_option maxRecDepth 20000 in
theorem parseIn (s : ByteArray) (hs : s.size = 8) : FnV Tryz.prog 166 [.str s, .int .i64 16, .int .i64 32] (PuR s 201) := by
  have hlb : (bytesOf s).length = 8 := by rw [bytesOf_length]; exact hs
  have hby := bytesOf_range s
  refine fn_v tok (n := 172) (rs := [.tmp 6, .tmp 7]) Tryz.func166 (by decide) rfl rfl rfl rfl ?_
  refine Wr.go ?_
  repeat' ((first | (have ee := True.intro; refine Wr.mk ?_) | ((first | refine br_go ?_ ?_ | refine pick_go ?_ ?_) <;> intro ee f <;> (try simp only [BB] at f) <;> (try simp only [numOk, verOk] at f))) <;> (try simp (maxSteps := 1000000) (disch := first | omega | (simp only [LN, numOk, verOk, rfP, rvP, rhP, frP, bkd] <;> omega) | exact Ck.mk rfl) only [ee, VC, T, Nat.reduceMul, Nat.reduceAdd, Nat.reduceSub, Nat.reduceLT, Nat.reduceEqDiff, Nat.reduceLeDiff, Nat.reduceBEq, reduceCtorEq, Int.reduceToNat, ↓reduceIte, rfP, rvP, rhP, frP, bkd]) <;> (try clear ee))
  · rw [f] at hs; cases hs
  · refine lp_go (fun x : Int × Nat => ⟨172, [(0, .str s), (1, .int .i64 16), (2, .int .i64 32), (8, .bool false), (9, .str s), (10, .int .u64 1152921504606846976), (11, .int .u64 4294967295), (12, .bool false), (13, .int .u64 x.1), (99, .row 6400 8), (100, .int .i64 8), (101, .int .i64 x.2)], [(6400, .row ⟨1, 0⟩ ((bytesOf s).map (.int .u8)))]⟩) (fun x => x.2 ≤ 8 ∧ (0 ≤ x.1 ∧ x.1 < 16 ^ x.2) ∧ ∀ k, hexN 0 (bytesOf s) = some k → hexN x.1 ((bytesOf s).drop x.2) = some k) (fun x => 8 - x.2) (0, 0) ?_ ⟨Nat.zero_le _, ⟨by decide, by decide⟩, fun k h => h⟩ ?_
    · (simp (disch := first | omega | (simp only [LN, numOk, verOk] <;> omega) | exact Ck.mk rfl) only [SB, EQ, Nat.reduceMul, Nat.reduceAdd, Nat.reduceSub, Nat.reduceLT, Nat.reduceEqDiff, Nat.reduceLeDiff, Nat.reduceBEq, reduceCtorEq, Int.reduceToNat, ↓reduceIte]; try omega)
      exact ⟨by decide, by decide, hs, by rw [hlb]; rfl⟩
    · rintro ⟨n, i⟩ ⟨h1, ⟨h2, h3⟩, h4⟩ N hN
      simp only at h1 h2 h3 h4 hN
      have hp : i < 8 → n < 268435456 := fun h => by have := pow16_le i (by omega); omega
      have hps : (16 : Int) ^ (i + 1) = 16 ^ i * 16 := Int.pow_succ 16 i
      have hlt : ∀ d : Int, 0 ≤ d → d < 16 → 0 ≤ 16 * n + d ∧ 16 * n + d < 16 ^ (i + 1) := fun d q0 q1 => by
        rw [hps]
        generalize (16 : Int) ^ i = p at *
        omega
      have hc : i < 8 → 0 ≤ (bytesOf s).getD i default ∧ (bytesOf s).getD i default < 256 := fun h => by
        have := hby _ (getD_mem (bytesOf s) i (by omega))
        omega
      have hnx : i < 8 → ∀ d : Int, (0 ≤ hexV ((bytesOf s).getD i default) → hexV ((bytesOf s).getD i default) = d) → ∀ k, hexN 0 (bytesOf s) = some k → hexN (16 * n + d) ((bytesOf s).drop (i + 1)) = some k := fun hi d hd k hk => by
        have := h4 k hk
        rw [hexN_step n (bytesOf s) i (by omega)] at this
        split at this
        · rename_i hq; rw [hd hq] at this; exact this
        · cases this
      have hbad := fun h => hex_bad (s := s) (n := n) (i := i) h h4
      generalize hcc : (bytesOf s).getD i default = c at *
      have hlw := lowerC c
      have hor := fun h : i < 8 => orLow c (hc h).1 (hc h).2
      generalize Go.bits .or .u8 c 32 = w at *
      have m1 : (16 : Int) % 256 = 16 := by decide
      have m2 : (16 : Int) % 18446744073709551616 = 16 := by decide
      refine Wr.go ?_
      repeat' ((first | (have ee := True.intro; refine Wr.mk ?_) | ((first | refine br_go ?_ ?_ | refine pick_go ?_ ?_) <;> intro ee f <;> (try simp only [BB] at f) <;> (try simp only [numOk, verOk] at f)) | (have ee := True.intro; first | refine call_x (hlw) rfl ⟨rfl⟩ ?_)) <;> (try simp (maxSteps := 1000000) (disch := first | omega | (simp only [LN, numOk, verOk, rfP, rvP, rhP, frP, bkd, hlb, hcc, m1, m2] <;> omega) | exact Ck.mk rfl) only [ee, VC, T, Nat.reduceMul, Nat.reduceAdd, Nat.reduceSub, Nat.reduceLT, Nat.reduceEqDiff, Nat.reduceLeDiff, Nat.reduceBEq, reduceCtorEq, Int.reduceToNat, ↓reduceIte, rfP, rvP, rhP, frP, bkd, hlb, hcc, m1, m2]) <;> (try clear ee))
      all_goals first
        | (exfalso; have := hp (by omega); have := hc (by omega); omega)
        | (refine .inr ⟨hbad (by omega) (fun h => ?_), rfl⟩
           have q1 := hexV_let c h (by omega)
           have q2 := (hor (by omega)).2 q1.1 q1.2.1
           omega)
        | (refine hN (16 * n + (c - 48), i + 1) _ ⟨by simp only; omega, hlt _ (by omega) (by omega), hnx (by omega) _ (fun _ => hexV_dig c (by omega) (by omega))⟩ (by simp only; omega) ?_
           have := hp (by omega)
           (simp (disch := first | omega | (simp only [LN, numOk, verOk] <;> omega) | exact Ck.mk rfl) only [SB, EQ, Nat.reduceMul, Nat.reduceAdd, Nat.reduceSub, Nat.reduceLT, Nat.reduceEqDiff, Nat.reduceLeDiff, Nat.reduceBEq, reduceCtorEq, Int.reduceToNat, ↓reduceIte]; try omega))
        | (refine hN (16 * n + ((w - 97) % 256 + 10), i + 1) _ ⟨by simp only; omega, hlt _ (by omega) (by omega), hnx (by omega) _ (fun h => ?_)⟩ (by simp only; omega) ?_
           · have q1 := hexV_let c h (by omega)
             have q2 := (hor (by omega)).2 q1.1 q1.2.1
             rw [q1.2.2]
             omega
           · have := hp (by omega)
             have := hor (by omega)
             (simp (disch := first | omega | (simp only [LN, numOk, verOk] <;> omega) | exact Ck.mk rfl) only [SB, EQ, Nat.reduceMul, Nat.reduceAdd, Nat.reduceSub, Nat.reduceLT, Nat.reduceEqDiff, Nat.reduceLeDiff, Nat.reduceBEq, reduceCtorEq, Int.reduceToNat, ↓reduceIte]; try omega))
        | (obtain rfl : i = 8 := by omega
           refine .inl ⟨n, rfl, ⟨h2, h3⟩, fun k hk => ?_⟩
           have := h4 k hk
           rw [List.drop_eq_nil_of_le (by omega)] at this
           exact Option.some.inj this)
theorem digits_cut (b : ByteArray) : bytesOf (b.extract 1 9) = digits b := by
  rw [bytesOf_extract]
  unfold digits
  rw [List.drop_take]
theorem toErr_ent : Ent Tryz.prog 167 := fun vs w => by
  simp [callFunc, Tryz.func167, show (Tryz.f167).name ≠ "runtime.NumGoroutine" by decide, show (Tryz.f167).body = some _ from rfl]
theorem toErr (fn s : ByteArray) (b c : Int) (hs : s.size ≤ 281474976710656) : Fn Tryz.prog 167 [.str fn, .str s, .int .i64 b, .int .i64 c, .raw (.iface 201 (.int .i64 2))] [] (.ifc 203) [] := by
  refine ⟨toErr_ent, fun w V Γ vs hV hvs hargs hhr hd => ?_⟩
  obtain ⟨l⟩ := vs
  match l, hvs, hargs with
  | [a0, a1, a2, a3, a4], _, hargs =>
  obtain rfl : a0 = .string fn := vr_str (hargs 0 _ rfl)
  obtain rfl : a1 = .string s := vr_str (hargs 1 _ rfl)
  obtain rfl : a2 = .int .i64 b := vr_int (hargs 2 _ rfl)
  obtain rfl : a3 = .int .i64 c := vr_int (hargs 3 _ rfl)
  obtain rfl : a4 = .iface 201 (.int .i64 2) := by
    have := hargs 4 _ rfl
    cases this with
    | data h => cases h; rfl
  obtain ⟨_, _, cc, ee, fr, hw, hcells⟩ := hV.2 0 glob0 rfl
  obtain ⟨hj, hdr⟩ := hcells 0 _ rfl
  obtain ⟨u, hu⟩ : ∃ u, cc.getD 0 undef = .iface 243 u := by
    have := hdr w V
    generalize cc.getD 0 undef = q at *
    cases this with
    | ifc _ u => exact ⟨u, rfl⟩
  have hcell : w.cell? ⟨0, 0, none⟩ = some (.iface 243 u) := by rw [box_cell hw hj, hu]
  refine (Tryz.strconv_toError_syntax fn s b c _ w hs hcell (.inr ⟨_, _, rfl⟩)).mono ?_
  rintro e w' ⟨N, rfl, h1, h2, hb⟩
  exact ⟨_, Γ, rfl, ⟨hb.os, hb.tape, hb.output, hb.size, fun k hk _ => hb.block k hk⟩, .data (.ifc _ _), fun _ => trivial, fun k _ _ l => l.elim, fun b ⟨k, l, _⟩ => l.elim, fun k l => l.elim⟩
theorem parseU (s : ByteArray) (hs : s.size = 8) : FnV Tryz.prog 128 [.str s, .int .i64 16, .int .i64 32] (fun r => (∃ m : Int, r = .tup [.int .u64 m, .raw .nilIface] ∧ (0 ≤ m ∧ m < 4294967296) ∧ ∀ k, hexN 0 (bytesOf s) = some k → m = k) ∨ (hexN 0 (bytesOf s) = none ∧ r = .tup [.int .u64 0, .ifc 203])) := by
  refine fn_v tok (n := 26) (rs := [.tmp 6, .tmp 7]) Tryz.func128 (by decide) rfl rfl rfl rfl ?_
  refine Wr.go ?_
  repeat' ((first | (have ee := True.intro; refine Wr.mk ?_) | ((first | refine br_go ?_ ?_ | refine pick_go ?_ ?_) <;> intro ee f <;> (try simp only [BB] at f) <;> (try simp only [numOk, verOk] at f))) <;> (try simp (maxSteps := 1000000) (disch := first | omega | (simp only [LN, numOk, verOk, rfP, rvP, rhP, frP, bkd] <;> omega) | exact Ck.mk rfl) only [ee, VC, T, Nat.reduceMul, Nat.reduceAdd, Nat.reduceSub, Nat.reduceLT, Nat.reduceEqDiff, Nat.reduceLeDiff, Nat.reduceBEq, reduceCtorEq, Int.reduceToNat, ↓reduceIte, rfP, rvP, rhP, frP, bkd]) <;> (try clear ee))
  refine call_v (parseIn s hs) rfl ?_
  rintro _ (⟨m, rfl, h1, h2⟩ | ⟨h1, rfl⟩) <;> refine ⟨⟨rfl⟩, ?_⟩
  · refine Wr.go ?_
    repeat' ((first | (have ee := True.intro; refine Wr.mk ?_) | ((first | refine br_go ?_ ?_ | refine pick_go ?_ ?_) <;> intro ee f <;> (try simp only [BB] at f) <;> (try simp only [numOk, verOk] at f))) <;> (try simp (maxSteps := 1000000) (disch := first | omega | (simp only [LN, numOk, verOk, rfP, rvP, rhP, frP, bkd] <;> omega) | exact Ck.mk rfl) only [ee, VC, T, Nat.reduceMul, Nat.reduceAdd, Nat.reduceSub, Nat.reduceLT, Nat.reduceEqDiff, Nat.reduceLeDiff, Nat.reduceBEq, reduceCtorEq, Int.reduceToNat, ↓reduceIte, rfP, rvP, rhP, frP, bkd]) <;> (try clear ee))
    exact .inl ⟨m, rfl, h1, h2⟩
  · refine Wr.go ?_
    repeat' ((first | (have ee := True.intro; refine Wr.mk ?_) | ((first | refine br_go ?_ ?_ | refine pick_go ?_ ?_) <;> intro ee f <;> (try simp only [BB] at f) <;> (try simp only [numOk, verOk] at f)) | (have ee := True.intro; first | refine call_x (toErr _ s _ _ (by omega)) rfl ⟨rfl⟩ ?_)) <;> (try simp (maxSteps := 1000000) (disch := first | omega | (simp only [LN, numOk, verOk, rfP, rvP, rhP, frP, bkd] <;> omega) | exact Ck.mk rfl) only [ee, VC, T, Nat.reduceMul, Nat.reduceAdd, Nat.reduceSub, Nat.reduceLT, Nat.reduceEqDiff, Nat.reduceLeDiff, Nat.reduceBEq, reduceCtorEq, Int.reduceToNat, ↓reduceIte, rfP, rvP, rhP, frP, bkd]) <;> (try clear ee))
    try exact .inr ⟨h1, rfl⟩
theorem nameOf_no (b : ByteArray) (h : hexN 0 (digits b) = none) : nameOf b = (0, 0) := by
  unfold nameOf; rw [h]
theorem nameOf_some (b : ByteArray) (m : Int) (h : ∀ k, hexN 0 (digits b) = some k → m = k) : nameOf b = if segT m = b ∧ numOk m then (1, m) else if tmpT m = b ∧ numOk m then (2, m) else (0, 0) := by
  by_cases h1 : segT m = b ∧ numOk m
  · rw [if_pos h1, ← h1.1, nameOf_seg m h1.2]
  · rw [if_neg h1]
    by_cases h2 : tmpT m = b ∧ numOk m
    · rw [if_pos h2, ← h2.1, nameOf_tmp m h2.2]
    · rw [if_neg h2]
      refine nameOf_other b (fun n hn e => ?_) (fun n hn e => ?_)
      · have := h n (by rw [e, digits_seg n hn, hexN_8 n hn])
        subst this
        exact h1 ⟨e.symm, hn⟩
      · have := h n (by rw [e, digits_tmp n hn, hexN_8 n hn])
        subst this
        exact h2 ⟨e.symm, hn⟩
theorem nameOf_short (b : ByteArray) (h : b.size < 13) : nameOf b = (0, 0) :=
  nameOf_other b (fun n hn e => by rw [e, segT_size n hn] at h; omega) (fun n hn e => by rw [e, tmpT_size n hn] at h; omega)
theorem nameOf_long (b : ByteArray) (h : 17 < b.size) : nameOf b = (0, 0) :=
  nameOf_other b (fun n hn e => by rw [e, segT_size n hn] at h; omega) (fun n hn e => by rw [e, tmpT_size n hn] at h; omega)
theorem impl_ReadName (b : ByteArray) (hb : b.size ≤ 1048576) : Fn Tryz.prog 77 [.str b] [] (.tup [.int .i64 (nameOf b).1, .int .i64 (nameOf b).2]) [] := by
  have hsh := nameOf_short b
  have hno := nameOf_no b
  have hso := nameOf_some b
  have hdc := digits_cut b
  have hes : ¬ (b.size : Int) < 9 → (b.extract 1 9).size = 8 := fun h => by rw [ByteArray.size_extract]; omega
  generalize nameOf b = q at *
  obtain ⟨k, n⟩ := q
  generalize digits b = dg at *
  refine fn_x tok (n := 38) (rs := [.tmp 2, .tmp 3]) Tryz.func77 (by decide) rfl rfl rfl rfl ?_
  refine Wr.go ?_
  repeat' ((first | (have ee := True.intro; refine Wr.mk ?_) | ((first | refine br_go ?_ ?_ | refine pick_go ?_ ?_) <;> intro ee f <;> (try simp only [BB] at f) <;> (try simp only [numOk, verOk] at f))) <;> (try simp (maxSteps := 1000000) (disch := first | omega | (simp only [LN, numOk, verOk, rfP, rvP, rhP, frP, bkd] <;> omega) | exact Ck.mk rfl) only [ee, VC, T, Nat.reduceMul, Nat.reduceAdd, Nat.reduceSub, Nat.reduceLT, Nat.reduceEqDiff, Nat.reduceLeDiff, Nat.reduceBEq, reduceCtorEq, Int.reduceToNat, ↓reduceIte, rfP, rvP, rhP, frP, bkd]) <;> (try clear ee))
  · have := hsh (by omega)
    cases this; rfl
  · have hs8 := hes (by omega)
    generalize b.extract 1 9 = s8 at *
    refine call_v (parseU s8 hs8) rfl ?_
    rintro _ (⟨m, rfl, h1, h2⟩ | ⟨h1, rfl⟩) <;> refine ⟨⟨rfl⟩, ?_⟩
    · rw [hdc] at h2
      have hS := impl_SegmentName m ⟨by omega, by omega⟩
      have hT := impl_TempName m ⟨by omega, by omega⟩
      have hso := hso m h2
      have hn : numOk m ↔ 0 ≤ m ∧ m ≤ 1000000000 := Iff.rfl
      generalize segT m = st at *
      generalize tmpT m = tt at *
      refine Wr.go ?_
      repeat' ((first | (have ee := True.intro; refine Wr.mk ?_) | ((first | refine br_go ?_ ?_ | refine pick_go ?_ ?_) <;> intro ee f <;> (try simp only [BB] at f) <;> (try simp only [numOk, verOk] at f)) | (have ee := True.intro; first | refine call_x (impl_isNumber m) rfl ⟨rfl⟩ ?_ | refine call_x (hS) rfl ⟨rfl⟩ ?_ | refine call_x (hT) rfl ⟨rfl⟩ ?_)) <;> (try simp (maxSteps := 1000000) (disch := first | omega | (simp only [LN, numOk, verOk, rfP, rvP, rhP, frP, bkd] <;> omega) | exact Ck.mk rfl) only [ee, VC, T, Nat.reduceMul, Nat.reduceAdd, Nat.reduceSub, Nat.reduceLT, Nat.reduceEqDiff, Nat.reduceLeDiff, Nat.reduceBEq, reduceCtorEq, Int.reduceToNat, ↓reduceIte, rfP, rvP, rhP, frP, bkd]) <;> (try clear ee))
      · rename_i f0
        rw [if_pos ⟨f.symm, f0⟩] at hso
        cases hso; rfl
      · rename_i f0 f1
        rw [if_neg (fun e => f1 e.1.symm), if_pos ⟨f.symm, f0⟩] at hso
        cases hso; rfl
      · rename_i f0 f1
        rw [if_neg (fun e => f1 e.1.symm), if_neg (fun e => f e.1.symm)] at hso
        cases hso; rfl
      · rw [if_neg (fun e => f e.2), if_neg (fun e => f e.2)] at hso
        cases hso; rfl
    · rw [hdc] at h1
      have := hno h1
      cases this
      refine Wr.go ?_
      repeat' ((first | (have ee := True.intro; refine Wr.mk ?_) | ((first | refine br_go ?_ ?_ | refine pick_go ?_ ?_) <;> intro ee f <;> (try simp only [BB] at f) <;> (try simp only [numOk, verOk] at f))) <;> (try simp (maxSteps := 1000000) (disch := first | omega | (simp only [LN, numOk, verOk, rfP, rvP, rhP, frP, bkd] <;> omega) | exact Ck.mk rfl) only [ee, VC, T, Nat.reduceMul, Nat.reduceAdd, Nat.reduceSub, Nat.reduceLT, Nat.reduceEqDiff, Nat.reduceLeDiff, Nat.reduceBEq, reduceCtorEq, Int.reduceToNat, ↓reduceIte, rfP, rvP, rhP, frP, bkd]) <;> (try clear ee))
theorem spec_ReadName (b : ByteArray) (hb : b.size ≤ 1048576) : Fn Tryz.prog 75 [.str b] [] (.tup [.int .i64 (nameOf b).1, .int .i64 (nameOf b).2]) [] := by
  have hsh := nameOf_short b
  have hlg := nameOf_long b
  have hno := nameOf_no b
  have hso := nameOf_some b
  have hdl : (13 : Int) ≤ b.size → (digits b).length = 8 := fun h => by
    unfold digits
    rw [List.length_take, List.length_drop, bytesOf_length]; omega
  have hbt : (13 : Int) ≤ b.size → ∀ i : Nat, i < 8 → bt b (((i + 1 : Nat)) : Int) = (digits b).getD i default := fun h i hi => by
    rw [← rd_bytesOf]
    unfold digits rd
    rw [Int.toNat_natCast, List.getD_eq_getElem?_getD, List.getD_eq_getElem?_getD, List.getElem?_take, if_pos hi, List.getElem?_drop, Nat.add_comm 1 i]
    rfl
  generalize nameOf b = q at *
  obtain ⟨k, n⟩ := q
  generalize digits b = dg at *
  refine fn_x tok (n := 45) (rs := [.tmp 2, .tmp 3]) Tryz.func75 (by decide) rfl rfl rfl rfl ?_
  refine Wr.go ?_
  repeat' ((first | (have ee := True.intro; refine Wr.mk ?_) | ((first | refine br_go ?_ ?_ | refine pick_go ?_ ?_) <;> intro ee f <;> (try simp only [BB] at f) <;> (try simp only [numOk, verOk] at f)) | (have ee := True.intro; first | refine call_x (spec_l01In _ _ _) rfl ⟨rfl⟩ ?_)) <;> (try simp (maxSteps := 1000000) (disch := first | omega | (simp only [LN, numOk, verOk, rfP, rvP, rhP, frP, bkd] <;> omega) | exact Ck.mk rfl) only [ee, VC, T, Nat.reduceMul, Nat.reduceAdd, Nat.reduceSub, Nat.reduceLT, Nat.reduceEqDiff, Nat.reduceLeDiff, Nat.reduceBEq, reduceCtorEq, Int.reduceToNat, ↓reduceIte, rfP, rvP, rhP, frP, bkd]) <;> (try clear ee))
  · refine lp_go (fun x : Int × Nat => ⟨45, [(0, .str b), (4, .int .i64 x.1), (5, .int .i64 (x.2 + 1))], []⟩) (fun x => x.2 ≤ 8 ∧ (0 ≤ x.1 ∧ x.1 < 16 ^ x.2) ∧ hexN 0 dg = hexN x.1 (dg.drop x.2)) (fun x => 8 - x.2) (0, 0) ?_ ⟨Nat.zero_le _, ⟨by decide, by decide⟩, rfl⟩ ?_
    · (simp (disch := first | omega | (simp only [LN, numOk, verOk] <;> omega) | exact Ck.mk rfl) only [SB, EQ, Nat.reduceMul, Nat.reduceAdd, Nat.reduceSub, Nat.reduceLT, Nat.reduceEqDiff, Nat.reduceLeDiff, Nat.reduceBEq, reduceCtorEq, Int.reduceToNat, ↓reduceIte]; try omega)
    · rintro ⟨m, i⟩ ⟨h1, ⟨h2, h3⟩, h4⟩ N hN
      simp only at h1 h2 h3 h4 hN
      have hdl := hdl (by omega)
      have hp : i < 8 → m < 268435456 := fun h => by have := pow16_le i (by omega); omega
      have hps : (16 : Int) ^ (i + 1) = 16 ^ i * 16 := Int.pow_succ 16 i
      have hlt : ∀ d : Int, 0 ≤ d → d < 16 → 0 ≤ 16 * m + d ∧ 16 * m + d < 16 ^ (i + 1) := fun d q0 q1 => by
        rw [hps]
        generalize (16 : Int) ^ i = p at *
        omega
      have hst : i < 8 → _ := fun h => hexN_step m dg i (by omega)
      have hbi : i < 8 → bt b ((i : Int) + 1) = dg.getD i default := fun h => by have := hbt (by omega) i h; rwa [Int.natCast_add] at this
      have hcr : i < 8 → 0 ≤ bt b ((i : Int) + 1) ∧ bt b ((i : Int) + 1) < 256 := fun _ => ⟨by unfold bt; omega, by unfold bt; have := (b8 b ((i : Int) + 1).toNat).toNat_lt; omega⟩
      generalize dg.getD i default = c at *
      have hcw : i < 8 → IntKind.i64.wrap c = c := fun h => by
        have h1 := hbi h
        have h2 := hcr h
        rw [h1] at h2
        exact wr64 c h2.1 (by omega)
      by_cases h8 : i < 8
      · have hst := hst h8
        refine Wr.go ?_
        repeat' ((first | (have ee := True.intro; refine Wr.mk ?_) | ((first | refine br_go ?_ ?_ | refine pick_go ?_ ?_) <;> intro ee f <;> (try simp only [BB] at f) <;> (try simp only [numOk, verOk] at f)) | (have ee := True.intro; first | refine call_x (spec_l01In _ _ _) rfl ⟨rfl⟩ ?_)) <;> (try simp (maxSteps := 1000000) (disch := first | omega | (simp only [LN, numOk, verOk, rfP, rvP, rhP, frP, bkd, hbi, hcw] <;> omega) | exact Ck.mk rfl) only [ee, VC, T, Nat.reduceMul, Nat.reduceAdd, Nat.reduceSub, Nat.reduceLT, Nat.reduceEqDiff, Nat.reduceLeDiff, Nat.reduceBEq, reduceCtorEq, Int.reduceToNat, ↓reduceIte, rfP, rvP, rhP, frP, bkd, hbi, hcw]) <;> (try clear ee))
        · rw [hexV_dig c (by omega) (by omega), if_pos (by omega)] at hst
          refine hN (16 * m + (c - 48), i + 1) _ ⟨by simp only; omega, hlt _ (by omega) (by omega), h4.trans hst⟩ (by simp only; omega) ?_
          have := hp h8
          (simp (disch := first | omega | (simp only [LN, numOk, verOk] <;> omega) | exact Ck.mk rfl) only [SB, EQ, Nat.reduceMul, Nat.reduceAdd, Nat.reduceSub, Nat.reduceLT, Nat.reduceEqDiff, Nat.reduceLeDiff, Nat.reduceBEq, reduceCtorEq, Int.reduceToNat, ↓reduceIte]; try omega)
        · rw [hexV_small c (by omega) (by omega), if_pos (by omega)] at hst
          refine hN (16 * m + (c - 87), i + 1) _ ⟨by simp only; omega, hlt _ (by omega) (by omega), h4.trans hst⟩ (by simp only; omega) ?_
          have := hp h8
          (simp (disch := first | omega | (simp only [LN, numOk, verOk] <;> omega) | exact Ck.mk rfl) only [SB, EQ, Nat.reduceMul, Nat.reduceAdd, Nat.reduceSub, Nat.reduceLT, Nat.reduceEqDiff, Nat.reduceLeDiff, Nat.reduceBEq, reduceCtorEq, Int.reduceToNat, ↓reduceIte]; try omega)
        · rw [if_neg (fun h => by have := hexV_let c h (by omega); omega)] at hst
          have := hno (h4.trans hst)
          cases this; rfl
      · obtain rfl : i = 8 := by omega
        have h5 : hexN 0 dg = some m := by rw [h4, List.drop_eq_nil_of_le (by omega)]; rfl
        have hso := hso m (fun k hk => by rw [h5] at hk; exact Option.some.inj hk)
        have hb8 : m < 4294967296 := h3
        have hS := spec_SegmentName m ⟨by omega, by omega⟩
        have hT := spec_TempName m ⟨by omega, by omega⟩
        have hne : ¬ numOk m → segT m = ⟨#[]⟩ ∧ tmpT m = ⟨#[]⟩ := fun h => ⟨if_neg h, if_neg h⟩
        have hbe : ¬ (⟨#[]⟩ : ByteArray) = b := fun h => by have h9 := congrArg ByteArray.size h; have h0 : (⟨#[]⟩ : ByteArray).size = 0 := rfl; omega
        generalize segT m = st at *
        generalize tmpT m = tt at *
        refine Wr.go ?_
        repeat' ((first | (have ee := True.intro; refine Wr.mk ?_) | ((first | refine br_go ?_ ?_ | refine pick_go ?_ ?_) <;> intro ee f <;> (try simp only [BB] at f) <;> (try simp only [numOk, verOk] at f)) | (have ee := True.intro; first | refine call_x (hS) rfl ⟨rfl⟩ ?_ | refine call_x (hT) rfl ⟨rfl⟩ ?_)) <;> (try simp (maxSteps := 1000000) (disch := first | omega | (simp only [LN, numOk, verOk, rfP, rvP, rhP, frP, bkd] <;> omega) | exact Ck.mk rfl) only [ee, VC, T, Nat.reduceMul, Nat.reduceAdd, Nat.reduceSub, Nat.reduceLT, Nat.reduceEqDiff, Nat.reduceLeDiff, Nat.reduceBEq, reduceCtorEq, Int.reduceToNat, ↓reduceIte, rfP, rvP, rhP, frP, bkd]) <;> (try clear ee))
        · have hn : numOk m := Decidable.byContradiction fun h => by
            have := (hne h).1
            rw [this] at f
            exact hbe f
          rw [if_pos ⟨f, hn⟩] at hso
          cases hso; rfl
        · rename_i f0
          have hn : numOk m := Decidable.byContradiction fun h => by
            have := (hne h).2
            rw [this] at f
            exact hbe f
          rw [if_neg (fun e => f0 e.1), if_pos ⟨f, hn⟩] at hso
          cases hso; rfl
        · rename_i f0
          rw [if_neg (fun e => f0 e.1), if_neg (fun e => f e.1)] at hso
          cases hso; rfl
  · by_cases h13 : b.size < 13
    · have := hsh h13
      cases this; rfl
    · have := hlg (by omega)
      cases this; rfl
end Go.Pv

/- What functions of the program and of the reference do, in plain values. -/
namespace Go.Pv
open Go.Proofs Go.Mth
set_option linter.unusedSimpArgs false
set_option linter.unusedVariables false
set_option maxHeartbeats 4000000
set_option maxRecDepth 4000

/-! ### names of a disk -/
def namesT (d : Dk) : List ByteArray := d.2.1.map (·.1)
theorem namesT_len (d : Dk) : (namesT d).length = d.2.1.length := List.length_map _
theorem namesT_le {d : Dk} (h : DkOk d) : ∀ b ∈ namesT d, b.size ≤ 1048576 := fun b hb => by
  obtain ⟨e, he, rfl⟩ := List.mem_map.1 hb
  exact h.et e he
theorem impl_FileNames_R (d : Dk) (h : DkOk d) : FnE Tryz.prog 76 [dkP d] [] (fun r m => r = .row 64 (namesT d).length ∧ m = [(64, .row ⟨1, 0⟩ ((namesT d).map .str))]) := by
  have hes := h.es
  obtain ⟨ns, es, os, ss, r, x⟩ := d
  simp only [namesT] at *
  unfold dkP
  refine fn_e tok (n := 21) (rs := [.tmp 2]) Tryz.func76 (by decide) rfl rfl rfl rfl (low_of rfl) ?_
  refine Wr.go ?_
  repeat' ((first | (have ee := True.intro; refine Wr.mk ?_) | ((first | refine br_go ?_ ?_ | refine pick_go ?_ ?_) <;> intro ee f <;> (try simp only [BB] at f) <;> (try simp only [numOk, verOk] at f))) <;> (try simp (maxSteps := 1000000) (disch := first | omega | (simp only [LN, numOk, verOk, rfP, rvP, rhP, frP, bkd] <;> omega) | exact Ck.mk rfl) only [ee, VC, T, Nat.reduceMul, Nat.reduceAdd, Nat.reduceSub, Nat.reduceLT, Nat.reduceEqDiff, Nat.reduceLeDiff, Nat.reduceBEq, reduceCtorEq, Int.reduceToNat, ↓reduceIte, rfP, rvP, rhP, frP, bkd]) <;> (try clear ee))
  refine lp_go (fun i : Nat => ⟨21, [(3, .row 448 i), (8, .far (es.map enP)), (9, .int .i64 es.length), (10, .int .i64 i)], [(448, .row ⟨1, 0⟩ (((es.map (·.1)).take i).map .str))]⟩) (fun i => i ≤ es.length) (fun i => es.length - i) 0 ?_ (Nat.zero_le _) ?_
  · (simp (disch := first | omega | (simp only [LN, numOk, verOk] <;> omega) | exact Ck.mk rfl) only [SB, EQ, Nat.reduceMul, Nat.reduceAdd, Nat.reduceSub, Nat.reduceLT, Nat.reduceEqDiff, Nat.reduceLeDiff, Nat.reduceBEq, reduceCtorEq, Int.reduceToNat, ↓reduceIte]; try omega)
    rfl
  · intro i hi N hN
    have hg : i < es.length → (es.map enP).getD i .junk = .agg [.str (es.getD i default).1, .int .i64 (es.getD i default).2] := fun h => by
      rw [List.getD_eq_getElem?_getD, List.getElem?_map, List.getElem?_eq_getElem h, List.getD_eq_getElem?_getD, List.getElem?_eq_getElem h]; rfl
    have ht : ((es.map (·.1)).take i).length = i := by rw [List.length_take, List.length_map]; omega
    have hsn : i < es.length → ((es.map (·.1)).take (i + 1)).map PV.str = ((es.map (·.1)).take i).map PV.str ++ [.str (es.getD i default).1] := fun h => by
      rw [take_snoc default (es.map (·.1)) i (by rw [List.length_map]; exact h), List.map_append]
      have : rdOf default (es.map (·.1)) (i : Int) = (es.getD i default).1 := by
        show (es.map (·.1)).getD i default = _
        rw [List.getD_eq_getElem?_getD, List.getElem?_map, List.getElem?_eq_getElem h, List.getD_eq_getElem?_getD, List.getElem?_eq_getElem h]; rfl
      rw [this]; rfl
    refine Wr.go ?_
    repeat' ((first | (have ee := True.intro; refine Wr.mk ?_) | ((first | refine br_go ?_ ?_ | refine pick_go ?_ ?_) <;> intro ee f <;> (try simp only [BB] at f) <;> (try simp only [numOk, verOk] at f))) <;> (try simp (maxSteps := 1000000) (disch := first | omega | (simp only [LN, numOk, verOk, rfP, rvP, rhP, frP, bkd, hg, ht] <;> omega) | exact Ck.mk rfl) only [ee, VC, T, Nat.reduceMul, Nat.reduceAdd, Nat.reduceSub, Nat.reduceLT, Nat.reduceEqDiff, Nat.reduceLeDiff, Nat.reduceBEq, reduceCtorEq, Int.reduceToNat, ↓reduceIte, rfP, rvP, rhP, frP, bkd, hg, ht]) <;> (try clear ee))
    · refine hN (i + 1) _ (by omega) (by omega) ?_
      rw [hsn (by omega)]
      (simp (disch := first | omega | (simp only [LN, numOk, verOk] <;> omega) | exact Ck.mk rfl) only [SB, EQ, Nat.reduceMul, Nat.reduceAdd, Nat.reduceSub, Nat.reduceLT, Nat.reduceEqDiff, Nat.reduceLeDiff, Nat.reduceBEq, reduceCtorEq, Int.reduceToNat, ↓reduceIte]; try omega)
      try exact List.map_append
    · obtain rfl : i = es.length := by omega
      rw [List.take_of_length_le (by rw [List.length_map]; exact Nat.le_refl _)]
      refine fin_t [some 448] (⟨rfl, rfl⟩) rfl ?_ ?_ ?_
      · simp [RV, RV2, RVl, RV1, tau, tget, hget, data1, oneOf]
      · simp [RH, RVl, RV1, tau, hget, data1]
      · simp [Taus, hget]
theorem impl_FileNames (d : Dk) (h : DkOk d) : Fn Tryz.prog 76 [dkP d] [] (.far ((namesT d).map .str)) [] := by
  obtain ⟨_, _, ⟨rfl, rfl⟩, k⟩ := impl_FileNames_R d h
  refine k.far ?_
  simp [fz, fz2, fz1, cvtl, elems, hget, data1]
theorem findI_mem (C : List Int) (n : Int) : (decide (0 ≤ findI (fun x => decide (n = x)) C 0)) = decide (n ∈ C) := by
  rcases findI_cases (fun x : Int => decide (n = x)) C 0 with ⟨h1, h2⟩ | ⟨k, h1, h2, h3, _⟩
  · rw [h1, show decide (n ∈ C) = false from decide_eq_false (fun h => by have := h2 n h; simp at this)]; rfl
  · rw [h1, decide_eq_true (by omega)]
    have : n = C.getD k default := of_decide_eq_true h3
    rw [decide_eq_true]
    rw [this]
    exact getD_mem C k h2
theorem slices_IndexI (L : List Int) (n : Int) (hl : L.length ≤ 1048576) : Fn Tryz.prog 157 [.far (L.map (.int .i64)), .int .i64 n] [] (.int .i64 (findI (fun x => decide (n = x)) L 0)) [] := by
  have hst := findI_step (fun x : Int => decide (n = x)) L
  have hen := findI_end (fun x : Int => decide (n = x)) L
  refine fn_x tok (n := 19) (rs := [.tmp 4]) Tryz.func157 (by decide) rfl rfl rfl rfl ?_
  refine Wr.go ?_
  repeat' ((first | (have ee := True.intro; refine Wr.mk ?_) | ((first | refine br_go ?_ ?_ | refine pick_go ?_ ?_) <;> intro ee f <;> (try simp only [BB] at f) <;> (try simp only [numOk, verOk] at f))) <;> (try simp (maxSteps := 1000000) (disch := first | omega | (simp only [LN, numOk, verOk, rfP, rvP, rhP, frP, bkd] <;> omega) | exact Ck.mk rfl) only [ee, VC, T, Nat.reduceMul, Nat.reduceAdd, Nat.reduceSub, Nat.reduceLT, Nat.reduceEqDiff, Nat.reduceLeDiff, Nat.reduceBEq, reduceCtorEq, Int.reduceToNat, ↓reduceIte, rfP, rvP, rhP, frP, bkd]) <;> (try clear ee))
  refine lp_go (fun i : Nat => ⟨19, [(0, .far (L.map (.int .i64))), (1, .int .i64 n), (7, .int .i64 L.length), (8, .int .i64 i)], []⟩) (fun i => i ≤ L.length ∧ findI (fun x => decide (n = x)) L 0 = findI (fun x => decide (n = x)) (L.drop i) i) (fun i => L.length - i) 0 ?_ ⟨Nat.zero_le _, rfl⟩ ?_
  · (simp (disch := first | omega | (simp only [LN, numOk, verOk] <;> omega) | exact Ck.mk rfl) only [SB, EQ, Nat.reduceMul, Nat.reduceAdd, Nat.reduceSub, Nat.reduceLT, Nat.reduceEqDiff, Nat.reduceLeDiff, Nat.reduceBEq, reduceCtorEq, Int.reduceToNat, ↓reduceIte]; try omega)
  · rintro i ⟨h1, h2⟩ N hN
    have hst := hst i
    have hen := hen i
    refine Wr.go ?_
    repeat' ((first | (have ee := True.intro; refine Wr.mk ?_) | ((first | refine br_go ?_ ?_ | refine pick_go ?_ ?_) <;> intro ee f <;> (try simp only [BB] at f) <;> (try simp only [numOk, verOk] at f))) <;> (try simp (maxSteps := 1000000) (disch := first | omega | (simp only [LN, numOk, verOk, rfP, rvP, rhP, frP, bkd] <;> omega) | exact Ck.mk rfl) only [ee, VC, T, Nat.reduceMul, Nat.reduceAdd, Nat.reduceSub, Nat.reduceLT, Nat.reduceEqDiff, Nat.reduceLeDiff, Nat.reduceBEq, reduceCtorEq, Int.reduceToNat, ↓reduceIte, rfP, rvP, rhP, frP, bkd]) <;> (try clear ee))
    · rw [h2, hst (by omega), if_pos (decide_eq_true f)]
    · refine hN (i + 1) _ ⟨by omega, ?_⟩ (by omega) ?_
      · rw [h2, hst (by omega), if_neg (by rw [decide_eq_false f]; decide)]
      · (simp (disch := first | omega | (simp only [LN, numOk, verOk] <;> omega) | exact Ck.mk rfl) only [SB, EQ, Nat.reduceMul, Nat.reduceAdd, Nat.reduceSub, Nat.reduceLT, Nat.reduceEqDiff, Nat.reduceLeDiff, Nat.reduceBEq, reduceCtorEq, Int.reduceToNat, ↓reduceIte]; try omega)
    · rw [h2, hen (by omega)]
theorem slices_ContainsI (L : List Int) (n : Int) (hl : L.length ≤ 1048576) : Fn Tryz.prog 109 [.far (L.map (.int .i64)), .int .i64 n] [] (.bool (decide (n ∈ L))) [] := by
  have hI := slices_IndexI L n hl
  rw [← findI_mem]
  generalize findI (fun x : Int => decide (n = x)) L 0 = q at *
  refine fn_x tok (n := 9) (rs := [.tmp 4]) Tryz.func109 (by decide) rfl rfl rfl rfl ?_
  refine Wr.go ?_
  repeat' ((first | (have ee := True.intro; refine Wr.mk ?_) | ((first | refine br_go ?_ ?_ | refine pick_go ?_ ?_) <;> intro ee f <;> (try simp only [BB] at f) <;> (try simp only [numOk, verOk] at f)) | (have ee := True.intro; first | refine call_x (hI) rfl ⟨rfl⟩ ?_)) <;> (try simp (maxSteps := 1000000) (disch := first | omega | (simp only [LN, numOk, verOk, rfP, rvP, rhP, frP, bkd] <;> omega) | exact Ck.mk rfl) only [ee, VC, T, Nat.reduceMul, Nat.reduceAdd, Nat.reduceSub, Nat.reduceLT, Nat.reduceEqDiff, Nat.reduceLeDiff, Nat.reduceBEq, reduceCtorEq, Int.reduceToNat, ↓reduceIte, rfP, rvP, rhP, frP, bkd]) <;> (try clear ee))
theorem spec_l14Has (L : List Int) (n : Int) (hl : L.length ≤ 1048576) : Fn Tryz.prog 80 [.far (L.map (.int .i64)), .int .i64 n] [] (.bool (decide (n ∈ L))) [] := by
  rw [← findI_mem]
  have hst := findI_step (fun x : Int => decide (n = x)) L
  have hen := findI_end (fun x : Int => decide (n = x)) L
  refine fn_x tok (n := 18) (rs := [.tmp 4]) Tryz.func80 (by decide) rfl rfl rfl rfl ?_
  refine Wr.go ?_
  repeat' ((first | (have ee := True.intro; refine Wr.mk ?_) | ((first | refine br_go ?_ ?_ | refine pick_go ?_ ?_) <;> intro ee f <;> (try simp only [BB] at f) <;> (try simp only [numOk, verOk] at f))) <;> (try simp (maxSteps := 1000000) (disch := first | omega | (simp only [LN, numOk, verOk, rfP, rvP, rhP, frP, bkd] <;> omega) | exact Ck.mk rfl) only [ee, VC, T, Nat.reduceMul, Nat.reduceAdd, Nat.reduceSub, Nat.reduceLT, Nat.reduceEqDiff, Nat.reduceLeDiff, Nat.reduceBEq, reduceCtorEq, Int.reduceToNat, ↓reduceIte, rfP, rvP, rhP, frP, bkd]) <;> (try clear ee))
  refine lp_go (fun i : Nat => ⟨18, [(0, .far (L.map (.int .i64))), (1, .int .i64 n), (5, .int .i64 i)], []⟩) (fun i => i ≤ L.length ∧ findI (fun x => decide (n = x)) L 0 = findI (fun x => decide (n = x)) (L.drop i) i) (fun i => L.length - i) 0 ?_ ⟨Nat.zero_le _, rfl⟩ ?_
  · (simp (disch := first | omega | (simp only [LN, numOk, verOk] <;> omega) | exact Ck.mk rfl) only [SB, EQ, Nat.reduceMul, Nat.reduceAdd, Nat.reduceSub, Nat.reduceLT, Nat.reduceEqDiff, Nat.reduceLeDiff, Nat.reduceBEq, reduceCtorEq, Int.reduceToNat, ↓reduceIte]; try omega)
  · rintro i ⟨h1, h2⟩ N hN
    have hst := hst i
    have hen := hen i
    refine Wr.go ?_
    repeat' ((first | (have ee := True.intro; refine Wr.mk ?_) | ((first | refine br_go ?_ ?_ | refine pick_go ?_ ?_) <;> intro ee f <;> (try simp only [BB] at f) <;> (try simp only [numOk, verOk] at f))) <;> (try simp (maxSteps := 1000000) (disch := first | omega | (simp only [LN, numOk, verOk, rfP, rvP, rhP, frP, bkd] <;> omega) | exact Ck.mk rfl) only [ee, VC, T, Nat.reduceMul, Nat.reduceAdd, Nat.reduceSub, Nat.reduceLT, Nat.reduceEqDiff, Nat.reduceLeDiff, Nat.reduceBEq, reduceCtorEq, Int.reduceToNat, ↓reduceIte, rfP, rvP, rhP, frP, bkd]) <;> (try clear ee))
    · rw [h2, hst (by omega), if_pos (decide_eq_true f.symm), decide_eq_true (by omega)]
    · refine hN (i + 1) _ ⟨by omega, ?_⟩ (by omega) ?_
      · rw [h2, hst (by omega), if_neg (by rw [decide_eq_false (fun e => f e.symm)]; decide)]
      · (simp (disch := first | omega | (simp only [LN, numOk, verOk] <;> omega) | exact Ck.mk rfl) only [SB, EQ, Nat.reduceMul, Nat.reduceAdd, Nat.reduceSub, Nat.reduceLT, Nat.reduceEqDiff, Nat.reduceLeDiff, Nat.reduceBEq, reduceCtorEq, Int.reduceToNat, ↓reduceIte]; try omega)
    · rw [h2, hen (by omega)]; rfl
theorem nameOf_range (b : ByteArray) : ((nameOf b).1 = 0 ∨ (nameOf b).1 = 1 ∨ (nameOf b).1 = 2) ∧ 0 ≤ (nameOf b).2 ∧ (nameOf b).2 ≤ 1000000000 := by
  rcases nameOf_kind b with ⟨h, k, _⟩ | ⟨h, k, _⟩ | h
  · rw [h]; exact ⟨.inr (.inl rfl), k.1, k.2⟩
  · rw [h]; exact ⟨.inr (.inr rfl), k.1, k.2⟩
  · rw [h]; exact ⟨.inl rfl, by decide, by decide⟩
/-- What is not in the chain. -/
def looseB (C : List Int) (b : ByteArray) : Bool := decide ((nameOf b).1 = 2) || decide ((nameOf b).1 = 1) && !decide ((nameOf b).2 ∈ C)
def looseT (d : Dk) : List ByteArray := (namesT d).filter (looseB (chainT d))
theorem impl_Loose_lit (C : List Int) (b : ByteArray) (hC : C.length ≤ 1048576) (hb : b.size ≤ 1048576) : Fn Tryz.prog 108 [.str b, .fel [.far (C.map (.int .i64))]] [] (.bool (!looseB C b)) [] := by
  have hR := impl_ReadName b hb
  have hI := slices_ContainsI C (nameOf b).2 hC
  have hr := (nameOf_range b).1
  unfold looseB
  generalize nameOf b = q at *
  obtain ⟨k, n⟩ := q
  simp only at *
  generalize decide (n ∈ C) = g at *
  refine fn_x tok (n := 22) (rs := [.tmp 3]) Tryz.func108 (by decide) rfl rfl rfl rfl ?_
  refine Wr.go ?_
  repeat' ((first | (have ee := True.intro; refine Wr.mk ?_) | ((first | refine br_go ?_ ?_ | refine pick_go ?_ ?_) <;> intro ee f <;> (try simp only [BB] at f) <;> (try simp only [numOk, verOk] at f)) | (have ee := True.intro; first | refine call_x (hR) rfl ⟨rfl⟩ ?_ | refine call_x (hI) rfl ⟨rfl⟩ ?_)) <;> (try simp (maxSteps := 1000000) (disch := first | omega | (simp only [LN, numOk, verOk, rfP, rvP, rhP, frP, bkd] <;> omega) | exact Ck.mk rfl) only [ee, VC, T, Nat.reduceMul, Nat.reduceAdd, Nat.reduceSub, Nat.reduceLT, Nat.reduceEqDiff, Nat.reduceLeDiff, Nat.reduceBEq, reduceCtorEq, Int.reduceToNat, ↓reduceIte, rfP, rvP, rhP, frP, bkd]) <;> (try clear ee))
  · subst f; rfl
  · subst f
    cases g <;> rfl
  · obtain rfl : k = 2 := by omega
    rfl
theorem indexS (L : List ByteArray) (C : List Int) (hl : L.length ≤ 1048576) (hC : C.length ≤ 1048576) (hb : ∀ b ∈ L, b.size ≤ 1048576) : Fn Tryz.prog 156 [.far (L.map .str), .fn (.func 108) [.fel [.far (C.map (.int .i64))]]] [] (.int .i64 (findI (fun x => !looseB C x) L 0)) [] := by
  have hst := findI_step (fun x : ByteArray => !looseB C x) L
  have hen := findI_end (fun x : ByteArray => !looseB C x) L
  refine fn_x tok (n := 19) (rs := [.tmp 4]) Tryz.func156 (by decide) rfl rfl rfl rfl ?_
  refine Wr.go ?_
  repeat' ((first | (have ee := True.intro; refine Wr.mk ?_) | ((first | refine br_go ?_ ?_ | refine pick_go ?_ ?_) <;> intro ee f <;> (try simp only [BB] at f) <;> (try simp only [numOk, verOk] at f))) <;> (try simp (maxSteps := 1000000) (disch := first | omega | (simp only [LN, numOk, verOk, rfP, rvP, rhP, frP, bkd] <;> omega) | exact Ck.mk rfl) only [ee, VC, T, Nat.reduceMul, Nat.reduceAdd, Nat.reduceSub, Nat.reduceLT, Nat.reduceEqDiff, Nat.reduceLeDiff, Nat.reduceBEq, reduceCtorEq, Int.reduceToNat, ↓reduceIte, rfP, rvP, rhP, frP, bkd]) <;> (try clear ee))
  refine lp_go (fun i : Nat => ⟨19, [(0, .far (L.map .str)), (1, .fn (.func 108) [.fel [.far (C.map (.int .i64))]]), (7, .int .i64 L.length), (8, .int .i64 i)], []⟩) (fun i => i ≤ L.length ∧ findI (fun x => !looseB C x) L 0 = findI (fun x => !looseB C x) (L.drop i) i) (fun i => L.length - i) 0 ?_ ⟨Nat.zero_le _, rfl⟩ ?_
  · (simp (disch := first | omega | (simp only [LN, numOk, verOk] <;> omega) | exact Ck.mk rfl) only [SB, EQ, Nat.reduceMul, Nat.reduceAdd, Nat.reduceSub, Nat.reduceLT, Nat.reduceEqDiff, Nat.reduceLeDiff, Nat.reduceBEq, reduceCtorEq, Int.reduceToNat, ↓reduceIte]; try omega)
  · rintro i ⟨h1, h2⟩ N hN
    have hst := hst i
    have hen := hen i
    have hbi : i < L.length → (L.getD i default).size ≤ 1048576 := fun h => hb _ (getD_mem L i h)
    generalize hx : L.getD i default = x at *
    have hLit := fun h => impl_Loose_lit C x hC h
    generalize looseB C x = g at *
    cases g
    · rw [if_pos (by rfl)] at hst
      simp only [Bool.not_false] at hLit
      refine Wr.go ?_
      repeat' ((first | (have ee := True.intro; refine Wr.mk ?_) | ((first | refine br_go ?_ ?_ | refine pick_go ?_ ?_) <;> intro ee f <;> (try simp only [BB] at f) <;> (try simp only [numOk, verOk] at f)) | (have ee := True.intro; first | refine call_x (hLit (hbi (by omega))) rfl ⟨rfl⟩ ?_)) <;> (try simp (maxSteps := 1000000) (disch := first | omega | (simp only [LN, numOk, verOk, rfP, rvP, rhP, frP, bkd, hx] <;> omega) | exact Ck.mk rfl) only [ee, VC, T, Nat.reduceMul, Nat.reduceAdd, Nat.reduceSub, Nat.reduceLT, Nat.reduceEqDiff, Nat.reduceLeDiff, Nat.reduceBEq, reduceCtorEq, Int.reduceToNat, ↓reduceIte, rfP, rvP, rhP, frP, bkd, hx]) <;> (try clear ee))
      · rw [h2, hst (by omega)]
      · rw [h2, hen (by omega)]
    · rw [if_neg (by decide)] at hst
      simp only [Bool.not_true] at hLit
      refine Wr.go ?_
      repeat' ((first | (have ee := True.intro; refine Wr.mk ?_) | ((first | refine br_go ?_ ?_ | refine pick_go ?_ ?_) <;> intro ee f <;> (try simp only [BB] at f) <;> (try simp only [numOk, verOk] at f)) | (have ee := True.intro; first | refine call_x (hLit (hbi (by omega))) rfl ⟨rfl⟩ ?_)) <;> (try simp (maxSteps := 1000000) (disch := first | omega | (simp only [LN, numOk, verOk, rfP, rvP, rhP, frP, bkd, hx] <;> omega) | exact Ck.mk rfl) only [ee, VC, T, Nat.reduceMul, Nat.reduceAdd, Nat.reduceSub, Nat.reduceLT, Nat.reduceEqDiff, Nat.reduceLeDiff, Nat.reduceBEq, reduceCtorEq, Int.reduceToNat, ↓reduceIte, rfP, rvP, rhP, frP, bkd, hx]) <;> (try clear ee))
      · refine hN (i + 1) _ ⟨by omega, by rw [h2, hst (by omega)]⟩ (by omega) ?_
        (simp (disch := first | omega | (simp only [LN, numOk, verOk] <;> omega) | exact Ck.mk rfl) only [SB, EQ, Nat.reduceMul, Nat.reduceAdd, Nat.reduceSub, Nat.reduceLT, Nat.reduceEqDiff, Nat.reduceLeDiff, Nat.reduceBEq, reduceCtorEq, Int.reduceToNat, ↓reduceIte]; try omega)
      · rw [h2, hen (by omega)]
theorem deleteS (L : List ByteArray) (C : List Int) (hl : L.length ≤ 1048576) (hC : C.length ≤ 1048576) (hb : ∀ b ∈ L, b.size ≤ 1048576) : FnE Tryz.prog 107 [.row 0 L.length, .fn (.func 108) [.fel [.far (C.map (.int .i64))]]] [(0, .row ⟨1, 0⟩ (L.map .str))] (Cut0 ((L.filter (looseB C)).map .str) L.length) := by
  have hI := indexS L C hl hC hb
  have hc := findI_cases (fun x : ByteArray => !looseB C x) L 0
  generalize findI (fun x : ByteArray => !looseB C x) L 0 = q at *
  refine fn_e tok (n := 42) (rs := [.tmp 4]) Tryz.func107 (by decide) rfl rfl rfl rfl (low_of rfl) ?_
  refine Wr.go ?_
  repeat' ((first | (have ee := True.intro; refine Wr.mk ?_) | ((first | refine br_go ?_ ?_ | refine pick_go ?_ ?_) <;> intro ee f <;> (try simp only [BB] at f) <;> (try simp only [numOk, verOk] at f)) | (have ee := True.intro; first | (refine call_hx [] [0] (hI) (by decide) ?_ rfl ?_; (focus (first | rfl | (simp (maxSteps := 1000000) (disch := first | omega | (simp only [LN, numOk, verOk, rfP, rvP, rhP, frP, bkd] <;> omega) | exact Ck.mk rfl) only [VC, T, Nat.reduceMul, Nat.reduceAdd, Nat.reduceSub, Nat.reduceLT, Nat.reduceEqDiff, Nat.reduceLeDiff, Nat.reduceBEq, reduceCtorEq, Int.reduceToNat, ↓reduceIte, rfP, rvP, rhP, frP, bkd]; done)))))) <;> (try simp (maxSteps := 1000000) (disch := first | omega | (simp only [LN, numOk, verOk, rfP, rvP, rhP, frP, bkd] <;> omega) | exact Ck.mk rfl) only [ee, VC, T, Nat.reduceMul, Nat.reduceAdd, Nat.reduceSub, Nat.reduceLT, Nat.reduceEqDiff, Nat.reduceLeDiff, Nat.reduceBEq, reduceCtorEq, Int.reduceToNat, ↓reduceIte, rfP, rvP, rhP, frP, bkd]) <;> (try clear ee))
  · have e : L.filter (looseB C) = L := by
      rw [List.filter_eq_self]
      intro x hx
      rcases hc with ⟨_, h2⟩ | ⟨k, h1, _⟩
      · have := h2 x hx
        simpa using this
      · omega
    rw [e]
    exact fin_t [] (.inl ⟨rfl, by rw [List.length_map], rfl⟩) rfl (by simp [RV, RV2, RVl, RV1, tau, tget, hget, data1, oneOf]) (by simp [RH, RVl, RV1, tau, hget, data1]) (by simp [Taus, hget])
  · obtain ⟨k, hk1, hk2, hk3, hk4⟩ : ∃ k : Nat, q = (k : Int) ∧ k < L.length ∧ looseB C (L.getD k default) = false ∧ ∀ j, j < k → looseB C (L.getD j default) = true := by
      rcases hc with ⟨h1, _⟩ | ⟨k, h1, h2, h3, h4⟩
      · exact absurd h1 f
      · refine ⟨k, by simpa using h1, h2, ?_, fun j hj => ?_⟩
        · cases hx : looseB C (L.getD k default)
          · rfl
          · rw [hx] at h3; cases h3
        · have := h4 j hj
          cases hx : looseB C (L.getD j default)
          · rw [hx] at this; cases this
          · rfl
    subst hk1
    have h0 : Kept (looseB C) L L k (k + 1) := Kept.first hk2 hk4 hk3
    refine lp_go (fun x : List ByteArray × Nat × Nat => ⟨42, [(0, .row 0 L.length), (1, .fn (.func 108) [.fel [.far (C.map (.int .i64))]]), (5, .int .i64 x.2.1), (6, .int .i64 x.2.2)], [(0, .row ⟨1, 0⟩ (x.1.map .str))]⟩) (fun x => Kept (looseB C) L x.1 x.2.1 x.2.2) (fun x => L.length - x.2.2) (L, k, k + 1) ?_ h0 ?_
    · (simp (disch := first | omega | (simp only [LN, numOk, verOk] <;> omega) | exact Ck.mk rfl) only [SB, EQ, Nat.reduceMul, Nat.reduceAdd, Nat.reduceSub, Nat.reduceLT, Nat.reduceEqDiff, Nat.reduceLeDiff, Nat.reduceBEq, reduceCtorEq, Int.reduceToNat, ↓reduceIte]; try omega)
    · rintro ⟨M, i, j⟩ hK N hN
      simp only at hK hN ⊢
      have hln := hK.len
      have hlt := hK.lt
      have hle := hK.le
      have hat := hK.at
      have hbj : j < L.length → (L.getD j default).size ≤ 1048576 := fun h => hb _ (getD_mem L j h)
      have hsk := hK.skip
      have htk := hK.take
      generalize hx : L.getD j default = x at *
      have hLit := fun h => impl_Loose_lit C x hC h
      generalize looseB C x = g at *
      cases g
      · simp only [Bool.not_false] at hLit
        refine Wr.go ?_
        repeat' ((first | (have ee := True.intro; refine Wr.mk ?_) | ((first | refine br_go ?_ ?_ | refine pick_go ?_ ?_) <;> intro ee f <;> (try simp only [BB] at f) <;> (try simp only [numOk, verOk] at f)) | (have ee := True.intro; first | refine call_x (hLit (hbj (by omega))) rfl ⟨rfl⟩ ?_)) <;> (try simp (maxSteps := 1000000) (disch := first | omega | (simp only [LN, numOk, verOk, rfP, rvP, rhP, frP, bkd, hln, hat] <;> omega) | exact Ck.mk rfl) only [ee, VC, T, Nat.reduceMul, Nat.reduceAdd, Nat.reduceSub, Nat.reduceLT, Nat.reduceEqDiff, Nat.reduceLeDiff, Nat.reduceBEq, reduceCtorEq, Int.reduceToNat, ↓reduceIte, rfP, rvP, rhP, frP, bkd, hln, hat]) <;> (try clear ee))
        · refine hN (M, i, j + 1) _ (hsk (by omega) rfl) (by simp only; omega) ?_
          (simp (disch := first | omega | (simp only [LN, numOk, verOk] <;> omega) | exact Ck.mk rfl) only [SB, EQ, Nat.reduceMul, Nat.reduceAdd, Nat.reduceSub, Nat.reduceLT, Nat.reduceEqDiff, Nat.reduceLeDiff, Nat.reduceBEq, reduceCtorEq, Int.reduceToNat, ↓reduceIte]; try omega)
        · obtain rfl : j = L.length := by omega
          obtain ⟨q1, q2, q3⟩ := hK.done
          have hd : M.drop L.length = [] := List.drop_eq_nil_of_le (by omega)
          rw [q1, hd]
          refine fin_t [] (.inr ⟨L.length - i, by rw [List.length_map, q2], by rw [List.length_map, q2]; exact q3, by rw [List.length_map, q2]; omega, rfl⟩) rfl ?_ ?_ ?_
          · simp [RV, RV2, RVl, RV1, tau, tget, hget, data1, oneOf]
          · simp [RH, RVl, RV1, tau, hget, data1, Jz]
          · simp [Taus, hget]
      · simp only [Bool.not_true] at hLit
        refine Wr.go ?_
        repeat' ((first | (have ee := True.intro; refine Wr.mk ?_) | ((first | refine br_go ?_ ?_ | refine pick_go ?_ ?_) <;> intro ee f <;> (try simp only [BB] at f) <;> (try simp only [numOk, verOk] at f)) | (have ee := True.intro; first | refine call_x (hLit (hbj (by omega))) rfl ⟨rfl⟩ ?_)) <;> (try simp (maxSteps := 1000000) (disch := first | omega | (simp only [LN, numOk, verOk, rfP, rvP, rhP, frP, bkd, hln, hat] <;> omega) | exact Ck.mk rfl) only [ee, VC, T, Nat.reduceMul, Nat.reduceAdd, Nat.reduceSub, Nat.reduceLT, Nat.reduceEqDiff, Nat.reduceLeDiff, Nat.reduceBEq, reduceCtorEq, Int.reduceToNat, ↓reduceIte, rfP, rvP, rhP, frP, bkd, hln, hat]) <;> (try clear ee))
        · refine hN (M.set i x, i + 1, j + 1) _ (htk (by omega) rfl) (by simp only; omega) ?_
          (simp (disch := first | omega | (simp only [LN, numOk, verOk] <;> omega) | exact Ck.mk rfl) only [SB, EQ, Nat.reduceMul, Nat.reduceAdd, Nat.reduceSub, Nat.reduceLT, Nat.reduceEqDiff, Nat.reduceLeDiff, Nat.reduceBEq, reduceCtorEq, Int.reduceToNat, ↓reduceIte]; try omega)
        · obtain rfl : j = L.length := by omega
          obtain ⟨q1, q2, q3⟩ := hK.done
          have hd : M.drop L.length = [] := List.drop_eq_nil_of_le (by omega)
          rw [q1, hd]
          refine fin_t [] (.inr ⟨L.length - i, by rw [List.length_map, q2], by rw [List.length_map, q2]; exact q3, by rw [List.length_map, q2]; omega, rfl⟩) rfl ?_ ?_ ?_
          · simp [RV, RV2, RVl, RV1, tau, tget, hget, data1, oneOf]
          · simp [RH, RVl, RV1, tau, hget, data1, Jz]
          · simp [Taus, hget]
theorem impl_LooseNames (d : Dk) (h : DkOk d) : FnE Tryz.prog 49 [dkP d] [] (Cut ((looseT d).map .str)) := by
  have hC := impl_Chain_R d h
  have hF := impl_FileNames_R d h
  have hl := chainT_length d
  have hnl := namesT_len d
  have hes := h.es
  have hnb := namesT_le h
  unfold looseT
  generalize chainT d = C at *
  generalize namesT d = L at *
  have hD := deleteS L C (by omega) (by omega) hnb
  generalize L.filter (looseB C) = F at *
  unfold dkP at *
  refine fn_e tok (n := 10) (rs := [.tmp 2]) Tryz.func49 (by decide) rfl rfl rfl rfl (low_of rfl) ?_
  refine Wr.go ?_
  repeat' ((first | (have ee := True.intro; refine Wr.mk ?_) | ((first | refine br_go ?_ ?_ | refine pick_go ?_ ?_) <;> intro ee f <;> (try simp only [BB] at f) <;> (try simp only [numOk, verOk] at f)) | (have ee := True.intro; first | (refine call_h [] [] (hC) (by decide) rfl rfl ?_; rintro _ _ ⟨rfl, rfl⟩) | (refine call_h [] [] (hF) (by decide) rfl rfl ?_; rintro _ _ ⟨rfl, rfl⟩) | (refine call_h [512] [256,384] (hD) (by decide) ?_ rfl ?_; (focus (first | rfl | (simp (maxSteps := 1000000) (disch := first | omega | (simp only [LN, numOk, verOk, rfP, rvP, rhP, frP, bkd, nfx_cutS] <;> omega) | exact Ck.mk rfl) only [VC, T, Nat.reduceMul, Nat.reduceAdd, Nat.reduceSub, Nat.reduceLT, Nat.reduceEqDiff, Nat.reduceLeDiff, Nat.reduceBEq, reduceCtorEq, Int.reduceToNat, ↓reduceIte, rfP, rvP, rhP, frP, bkd, nfx_cutS]; done))); rintro _ _ (⟨rfl, h1, rfl⟩ | ⟨z, rfl, h1, h2, rfl⟩)))) <;> (try simp (maxSteps := 1000000) (disch := first | omega | (simp only [LN, numOk, verOk, rfP, rvP, rhP, frP, bkd, nfx_cutS] <;> omega) | exact Ck.mk rfl) only [ee, VC, T, Nat.reduceMul, Nat.reduceAdd, Nat.reduceSub, Nat.reduceLT, Nat.reduceEqDiff, Nat.reduceLeDiff, Nat.reduceBEq, reduceCtorEq, Int.reduceToNat, ↓reduceIte, rfP, rvP, rhP, frP, bkd, nfx_cutS]) <;> (try clear ee))
  · have h3 := h1
    rw [List.length_map] at h3
    refine ⟨by omega, ?_⟩
    rw [h1]
    exact fin_t [some 512] (.inl ⟨rfl, rfl⟩) rfl (by simp [RV, RV2, RVl, RV1, tau, tget, hget, data1, oneOf]) (by simp [RH, RVl, RV1, tau, hget, data1]) (by simp [Taus, hget])
  · have h3 := h2
    rw [List.length_map] at h3
    refine Wr.go ?_
    repeat' ((first | (have ee := True.intro; refine Wr.mk ?_) | ((first | refine br_go ?_ ?_ | refine pick_go ?_ ?_) <;> intro ee f <;> (try simp only [BB] at f) <;> (try simp only [numOk, verOk] at f))) <;> (try simp (maxSteps := 1000000) (disch := first | omega | (simp only [LN, numOk, verOk, rfP, rvP, rhP, frP, bkd, nfx_cutS, Jz_len] <;> omega) | exact Ck.mk rfl) only [ee, VC, T, Nat.reduceMul, Nat.reduceAdd, Nat.reduceSub, Nat.reduceLT, Nat.reduceEqDiff, Nat.reduceLeDiff, Nat.reduceBEq, reduceCtorEq, Int.reduceToNat, ↓reduceIte, rfP, rvP, rhP, frP, bkd, nfx_cutS, Jz_len]) <;> (try clear ee))
    try refine ⟨by omega, ?_⟩
    refine fin_t [some 512] (.inr ⟨_, z, rfl, ⟨h1, by omega⟩, h2, rfl⟩) rfl ?_ ?_ ?_
    · simp [RV, RV2, RVl, RV1, tau, tget, hget, data1, oneOf]
    · simp [RH, RVl, RV1, tau, hget, data1]
    · simp [Taus, hget]
theorem namesT_at (es : List Et) (i : Nat) (h : i < es.length) : (es.map (·.1)).getD i default = (es.getD i default).1 := by
  rw [List.getD_eq_getElem?_getD, List.getElem?_map, List.getElem?_eq_getElem h, List.getD_eq_getElem?_getD, List.getElem?_eq_getElem h]; rfl
theorem spec_LooseNames (d : Dk) (h : DkOk d) : Fn Tryz.prog 50 [dkP d] [] (.far ((looseT d).map .str)) [] := by
  have hL := spec_Chain d h
  have hlen := chainT_length d
  have hes := h.es
  have het := h.et
  unfold looseT
  generalize chainT d = C at *
  obtain ⟨ns, es, os, ss, r, x⟩ := d
  simp only [namesT] at *
  unfold dkP at *
  refine fn_x tok (n := 50) (rs := [.tmp 2]) Tryz.func50 (by decide) rfl rfl rfl rfl ?_
  refine Wr.go ?_
  repeat' ((first | (have ee := True.intro; refine Wr.mk ?_) | ((first | refine br_go ?_ ?_ | refine pick_go ?_ ?_) <;> intro ee f <;> (try simp only [BB] at f) <;> (try simp only [numOk, verOk] at f)) | (have ee := True.intro; first | refine call_x (hL) rfl ⟨rfl⟩ ?_)) <;> (try simp (maxSteps := 1000000) (disch := first | omega | (simp only [LN, numOk, verOk, rfP, rvP, rhP, frP, bkd] <;> omega) | exact Ck.mk rfl) only [ee, VC, T, Nat.reduceMul, Nat.reduceAdd, Nat.reduceSub, Nat.reduceLT, Nat.reduceEqDiff, Nat.reduceLeDiff, Nat.reduceBEq, reduceCtorEq, Int.reduceToNat, ↓reduceIte, rfP, rvP, rhP, frP, bkd]) <;> (try clear ee))
  refine lp_go (fun i : Nat => ⟨50, [(1, .ref 128 0), (3, .row 576 (((es.map (·.1)).take i).filter (looseB C)).length), (4, .far (C.map (.int .i64))), (5, .int .i64 i)], [(128, .box 32 [.far (ns.map ndP), .far (es.map enP), .far (os.map enP), .far (ss.map .str), .int .i64 r, .int .i64 x]), (576, .row ⟨1, 0⟩ ((((es.map (·.1)).take i).filter (looseB C)).map .str))]⟩) (fun i => i ≤ es.length) (fun i => es.length - i) 0 ?_ (Nat.zero_le _) ?_
  · (simp (disch := first | omega | (simp only [LN, numOk, verOk] <;> omega) | exact Ck.mk rfl) only [SB, EQ, Nat.reduceMul, Nat.reduceAdd, Nat.reduceSub, Nat.reduceLT, Nat.reduceEqDiff, Nat.reduceLeDiff, Nat.reduceBEq, reduceCtorEq, Int.reduceToNat, ↓reduceIte]; try omega)
    exact ⟨rfl, rfl⟩
  · intro i hi N hN
    have hsn := filt_snoc (looseB C) (es.map (·.1)) i
    rw [List.length_map] at hsn
    have hfl : (((es.map (·.1)).take i).filter (looseB C)).length ≤ 1048576 := by
      have := List.length_filter_le (looseB C) ((es.map (·.1)).take i)
      rw [List.length_take, List.length_map] at this
      omega
    have hat := namesT_at es i
    have hg : i < es.length → (es.map enP).getD i .junk = .agg [.str (es.getD i default).1, .int .i64 (es.getD i default).2] := fun h => by
      rw [List.getD_eq_getElem?_getD, List.getElem?_map, List.getElem?_eq_getElem h, List.getD_eq_getElem?_getD, List.getElem?_eq_getElem h]; rfl
    have hbx : i < es.length → (es.getD i default).1.size ≤ 1048576 := fun h => het _ (getD_mem es i h)
    generalize hM : ((es.map (·.1)).take i).filter (looseB C) = M at *
    by_cases hi2 : i < es.length
    · have hsn := hsn hi2
      rw [hat hi2] at hsn
      have hbx := hbx hi2
      have hg := hg hi2
      generalize es.getD i default = p at *
      obtain ⟨nm, id⟩ := p
      simp only at *
      have hR := spec_ReadName nm hbx
      have hH := spec_l14Has C (nameOf nm).2 (by omega)
      have hr := (nameOf_range nm).1
      rw [show looseB C nm = (decide ((nameOf nm).1 = 2) || decide ((nameOf nm).1 = 1) && !decide ((nameOf nm).2 ∈ C)) from rfl] at hsn
      generalize nameOf nm = q at *
      obtain ⟨k, n⟩ := q
      simp only at *
      generalize decide (n ∈ C) = g at *
      have nxt : ∀ s1, _ := fun s1 => hN (i + 1) s1 (by omega) (by omega)
      refine Wr.go ?_
      repeat' ((first | (have ee := True.intro; refine Wr.mk ?_) | ((first | refine br_go ?_ ?_ | refine pick_go ?_ ?_) <;> intro ee f <;> (try simp only [BB] at f) <;> (try simp only [numOk, verOk] at f)) | (have ee := True.intro; first | refine call_x (hR) rfl ⟨rfl⟩ ?_ | refine call_x (hH) rfl ⟨rfl⟩ ?_)) <;> (try simp (maxSteps := 1000000) (disch := first | omega | (simp only [LN, numOk, verOk, rfP, rvP, rhP, frP, bkd, hg] <;> omega) | exact Ck.mk rfl) only [ee, VC, T, Nat.reduceMul, Nat.reduceAdd, Nat.reduceSub, Nat.reduceLT, Nat.reduceEqDiff, Nat.reduceLeDiff, Nat.reduceBEq, reduceCtorEq, Int.reduceToNat, ↓reduceIte, rfP, rvP, rhP, frP, bkd, hg]) <;> (try clear ee))
      · refine nxt _ ?_
        rw [hsn, if_pos (by simp [f])]
        (simp (disch := first | omega | (simp only [LN, numOk, verOk] <;> omega) | exact Ck.mk rfl) only [SB, EQ, Nat.reduceMul, Nat.reduceAdd, Nat.reduceSub, Nat.reduceLT, Nat.reduceEqDiff, Nat.reduceLeDiff, Nat.reduceBEq, reduceCtorEq, Int.reduceToNat, ↓reduceIte]; try omega)
      · refine nxt _ ?_
        rename_i f0 f1
        rw [hsn, if_neg (by simp [f0, f1, f]), List.append_nil]
        (simp (disch := first | omega | (simp only [LN, numOk, verOk] <;> omega) | exact Ck.mk rfl) only [SB, EQ, Nat.reduceMul, Nat.reduceAdd, Nat.reduceSub, Nat.reduceLT, Nat.reduceEqDiff, Nat.reduceLeDiff, Nat.reduceBEq, reduceCtorEq, Int.reduceToNat, ↓reduceIte]; try omega)
      · refine nxt _ ?_
        rename_i f0 f1
        rw [hsn, if_pos (by simp [f1, f])]
        (simp (disch := first | omega | (simp only [LN, numOk, verOk] <;> omega) | exact Ck.mk rfl) only [SB, EQ, Nat.reduceMul, Nat.reduceAdd, Nat.reduceSub, Nat.reduceLT, Nat.reduceEqDiff, Nat.reduceLeDiff, Nat.reduceBEq, reduceCtorEq, Int.reduceToNat, ↓reduceIte]; try omega)
      · refine nxt _ ?_
        rename_i f0
        rw [hsn, if_neg (by simp [f0, f]), List.append_nil]
        (simp (disch := first | omega | (simp only [LN, numOk, verOk] <;> omega) | exact Ck.mk rfl) only [SB, EQ, Nat.reduceMul, Nat.reduceAdd, Nat.reduceSub, Nat.reduceLT, Nat.reduceEqDiff, Nat.reduceLeDiff, Nat.reduceBEq, reduceCtorEq, Int.reduceToNat, ↓reduceIte]; try omega)
    · refine Wr.go ?_
      repeat' ((first | (have ee := True.intro; refine Wr.mk ?_) | ((first | refine br_go ?_ ?_ | refine pick_go ?_ ?_) <;> intro ee f <;> (try simp only [BB] at f) <;> (try simp only [numOk, verOk] at f))) <;> (try simp (maxSteps := 1000000) (disch := first | omega | (simp only [LN, numOk, verOk, rfP, rvP, rhP, frP, bkd] <;> omega) | exact Ck.mk rfl) only [ee, VC, T, Nat.reduceMul, Nat.reduceAdd, Nat.reduceSub, Nat.reduceLT, Nat.reduceEqDiff, Nat.reduceLeDiff, Nat.reduceBEq, reduceCtorEq, Int.reduceToNat, ↓reduceIte, rfP, rvP, rhP, frP, bkd]) <;> (try clear ee))
      obtain rfl : i = es.length := by omega
      rw [List.take_of_length_le (by rw [List.length_map]; exact Nat.le_refl _)] at hM
      rw [hM]
end Go.Pv
/- What functions of the program and of the reference do, in plain values. -/
namespace Go.Pv
open Go.Proofs Go.Mth
set_option linter.unusedSimpArgs false
set_option linter.unusedVariables false
set_option maxHeartbeats 4000000
set_option maxRecDepth 4000

end Go.Pv

/-
  DERIVED: THE SHELF's CONTRACTS AT THIS DUMP, IN PLAIN WORDS (tools/lay-plain.mjs out of 'TryzShelf.lean', which tools/lay-shelf.mjs wrote): THE SAME DECLARATIONS UNDER THE SAME NAMES: 'import', 'namespace', 'open', 'def', 'theorem' AND NOTHING ELSE: no command of the shelf's: FOR A HAND-IN. Each laying: the table of numbers ('.._ren') and one theorem, a field a fact of the dump's own or the kernel's comparison; each contract: ONE APPLICATION.
-/
namespace Go.Proofs
open Go.Shelf
def Tryz.lays189_ren : Go.Shelf.Ren := ⟨fun | 189 => 78 | 125 => 132 | 257 => 131 | 128 => 177 | 129 => 178 | 294 => 168 | 295 => 169 | 296 => 170 | 297 => 171 | 298 => 172 | 299 => 173 | 216 => 174 | 300 => 175 | 301 => 176 | 328 => 211 | 329 => 212 | 330 => 213 | 331 => 214 | 332 => 215 | 215 => 216 | 343 => 246 | n => n, fun | 28 => 39 | 3 => 3 | 46 => 137 | 0 => 0 | 51 => 177 | 53 => 130 | 4 => 4 | 183 => 170 | 182 => 169 | 131 => 161 | 5 => 5 | 9 => 9 | 218 => 206 | 222 => 210 | 228 => 229 | 229 => 79 | n => n, fun | n => n⟩
theorem Tryz.lays189 : Go.Proofs.Lays.n189 Tryz.prog Tryz.lays189_ren := {
  mixed := by kernel_rfl
  f125 := Tryz.func132.trans (congrArg some (by kernel_rfl))
  f128 := Tryz.func177.trans (congrArg some (by kernel_rfl))
  f129 := Tryz.func178.trans (congrArg some (by kernel_rfl))
  f189 := Tryz.func78.trans (congrArg some (by kernel_rfl))
  f215 := Tryz.func216.trans (congrArg some (by kernel_rfl))
  f216 := Tryz.func174.trans (congrArg some (by kernel_rfl))
  f257 := Tryz.func131.trans (congrArg some (by kernel_rfl))
  f294 := Tryz.func168.trans (congrArg some (by kernel_rfl))
  f295 := Tryz.func169.trans (congrArg some (by kernel_rfl))
  f296 := Tryz.func170.trans (congrArg some (by kernel_rfl))
  f297 := Tryz.func171.trans (congrArg some (by kernel_rfl))
  f298 := Tryz.func172.trans (congrArg some (by kernel_rfl))
  f299 := Tryz.func173.trans (congrArg some (by kernel_rfl))
  f300 := Tryz.func175.trans (congrArg some (by kernel_rfl))
  f301 := Tryz.func176.trans (congrArg some (by kernel_rfl))
  f328 := Tryz.func211.trans (congrArg some (by kernel_rfl))
  f329 := Tryz.func212.trans (congrArg some (by kernel_rfl))
  f330 := Tryz.func213.trans (congrArg some (by kernel_rfl))
  f331 := Tryz.func214.trans (congrArg some (by kernel_rfl))
  f332 := Tryz.func215.trans (congrArg some (by kernel_rfl))
  f343 := Tryz.func246.trans (congrArg some (by kernel_rfl))
  t0 := Tryz.underlying0
  a0 := Tryz.isAgg0
  z0 := Tryz.sizeOf0
  v0 := Tryz.zeroValue0
  t3 := Tryz.underlying3
  a3 := Tryz.isAgg3
  z3 := Tryz.sizeOf3
  v3 := Tryz.zeroValue3
  t4 := Tryz.underlying4
  a4 := Tryz.isAgg4
  z4 := Tryz.sizeOf4
  v4 := Tryz.zeroValue4
  t5 := Tryz.underlying5
  a5 := Tryz.isAgg5
  z5 := Tryz.sizeOf5
  v5 := Tryz.zeroValue5
  t9 := Tryz.underlying9
  a9 := Tryz.isAgg9
  z9 := Tryz.sizeOf9
  v9 := Tryz.zeroValue9
  t28 := Tryz.underlying39
  a28 := Tryz.isAgg39
  z28 := Tryz.sizeOf39
  v28 := Tryz.zeroValue39
  t46 := Tryz.underlying137
  a46 := Tryz.isAgg137
  z46 := Tryz.sizeOf137
  v46 := Tryz.zeroValue137
  t51 := Tryz.underlying177
  a51 := Tryz.isAgg177
  z51 := Tryz.sizeOf177
  v51 := Tryz.zeroValue177
  t53 := Tryz.underlying130
  a53 := Tryz.isAgg130
  z53 := Tryz.sizeOf130
  v53 := Tryz.zeroValue130
  t131 := Tryz.underlying161
  a131 := Tryz.isAgg161
  z131 := Tryz.sizeOf161
  v131 := Tryz.zeroValue161
  t182 := Tryz.underlying169
  a182 := Tryz.isAgg169
  z182 := Tryz.sizeOf169
  v182 := Tryz.zeroValue169
  t183 := Tryz.underlying170
  a183 := Tryz.isAgg170
  z183 := Tryz.sizeOf170
  v183 := Tryz.zeroValue170
  t218 := Tryz.underlying206
  a218 := Tryz.isAgg206
  z218 := Tryz.sizeOf206
  v218 := Tryz.zeroValue206
  t222 := Tryz.underlying210
  a222 := Tryz.isAgg210
  z222 := Tryz.sizeOf210
  v222 := Tryz.zeroValue210
  t228 := Tryz.underlying229
  a228 := Tryz.isAgg229
  z228 := Tryz.sizeOf229
  v228 := Tryz.zeroValue229
  t229 := Tryz.underlying79
  a229 := Tryz.isAgg79
  z229 := Tryz.sizeOf79
  v229 := Tryz.zeroValue79 }
open Go.Sort Go.RowKit in
theorem Tryz.slices_Sort_int (blk off cap : Nat) (zs : List Int) (w : World) (hH : Holds (Value.int .i64) w blk off zs.toArray) (hblk : blk < w.heap.size) (hsz : zs.length < 4611686018427387904) :
    Calls Tryz.prog 78 #[.slice (some ⟨blk, off, none⟩) zs.length cap] w fun e w' =>
      e = .returned (.tuple #[]) ∧ ∃ n os, w' = grow (putRow (Value.int .i64) (Sort.ahead w n) blk off (zs.mergeSort fun x y => decide (x ≤ y)).toArray) os := Any.slices_Sort_int Tryz.lays189 blk off cap zs w hH hblk hsz
open Go.RowKit Go.Sort in
/-- .. and plain. (LAID: no walk: one application.) -/
theorem Tryz.slices_Sort_int_none (p : Option Addr) (cap : Nat) (w : World) :
    Calls Tryz.prog 78 #[.slice p 0 cap] w fun e w' => e = .returned (.tuple #[]) ∧ w' = w := Any.slices_Sort_int_none Tryz.lays189 p cap w
end Go.Proofs

/- What functions of the program and of the reference do, in plain values. -/
namespace Go.Pv
open Go.Proofs Go.Mth
set_option linter.unusedSimpArgs false
set_option linter.unusedVariables false
set_option maxHeartbeats 4000000
set_option maxRecDepth 4000

/-! ### sorted rows -/
def sortT (L : List Int) : List Int := L.mergeSort fun x y => decide (x ≤ y)
theorem sortT_perm (L : List Int) : (sortT L).Perm L := List.mergeSort_perm _ _
theorem sortT_len (L : List Int) : (sortT L).length = L.length := (sortT_perm L).length_eq
theorem sortT_sorted (L : List Int) : (sortT L).Pairwise (· ≤ ·) := by
  have := List.pairwise_mergeSort (le := fun x y : Int => decide (x ≤ y)) (fun a b c h1 h2 => by rw [decide_eq_true_eq] at *; omega) (fun a b => by rw [Bool.or_eq_true, decide_eq_true_eq, decide_eq_true_eq]; omega) L
  exact this.imp (fun h => by simpa using h)
theorem sortT_uniq {L M : List Int} (h1 : M.Pairwise (· ≤ ·)) (h2 : M.Perm L) : M = sortT L :=
  List.Perm.eq_of_pairwise (fun a b _ _ h1 h2 => by omega) h1 (sortT_sorted L) (h2.trans (sortT_perm L).symm)
theorem ins_ok {M L : List Int} {b : Int} {k : Nat} (hs : M.Pairwise (· ≤ ·)) (hp : M.Perm L) (hk : k ≤ M.length) (h1 : ∀ j, k ≤ j → j < M.length → b < M.getD j default) (h2 : k = 0 ∨ M.getD (k - 1) default ≤ b) :
    (M.take k ++ [b] ++ M.drop k).Pairwise (· ≤ ·) ∧ (M.take k ++ [b] ++ M.drop k).Perm (L ++ [b]) := by
  have hs' := List.pairwise_iff_getElem.1 hs
  constructor
  · rw [List.append_assoc, List.singleton_append, List.pairwise_append]
    have hd : ∀ c ∈ M.drop k, b < c := fun c hc => by
      obtain ⟨i, hi, rfl⟩ := List.mem_iff_getElem.1 hc
      rw [List.length_drop] at hi
      have := h1 (k + i) (by omega) (by omega)
      rw [List.getD_eq_getElem?_getD, List.getElem?_eq_getElem (by omega)] at this
      rw [List.getElem_drop]
      exact this
    have ht : ∀ a ∈ M.take k, a ≤ b := fun a ha => by
      obtain ⟨i, hi, rfl⟩ := List.mem_iff_getElem.1 ha
      rw [List.length_take] at hi
      rw [List.getElem_take]
      rcases h2 with h2 | h2
      · omega
      · rw [List.getD_eq_getElem?_getD, List.getElem?_eq_getElem (by omega)] at h2
        have h2' : M[k - 1] ≤ b := h2
        by_cases e : i = k - 1
        · subst e; exact h2'
        · have := hs' i (k - 1) (by omega) (by omega) (by omega)
          omega
    refine ⟨hs.sublist (List.take_sublist _ _), List.pairwise_cons.2 ⟨fun c hc => Int.le_of_lt (hd c hc), hs.sublist (List.drop_sublist _ _)⟩, fun a ha c hc => ?_⟩
    rcases List.mem_cons.1 hc with rfl | hc
    · exact ht a ha
    · have := ht a ha
      have := hd c hc
      omega
  · rw [List.append_assoc, List.singleton_append]
    refine List.perm_middle.trans ?_
    rw [List.take_append_drop]
    exact (List.Perm.cons b hp).trans (List.perm_append_singleton b L).symm
theorem sort_ent : Ent Tryz.prog 78 := fun vs w => by
  simp [callFunc, Tryz.func78, show (Tryz.f78).name ≠ "runtime.NumGoroutine" by decide, show (Tryz.f78).body = some _ from rfl]
theorem sortI (L : List Int) (t : TypeId) (hL : L.length ≤ 1073741824) : Fn Tryz.prog 78 [.row 0 L.length] [(0, .row ⟨1, t⟩ (L.map (.int .i64)))] (.tup []) [(0, .row ⟨1, t⟩ ((sortT L).map (.int .i64)))] := by
  refine ⟨sort_ent, fun w V Γ vs hV hvs hargs hhr hd => ?_⟩
  obtain ⟨l⟩ := vs
  match l, hvs, hargs with
  | [a0], _, hargs =>
  have h0 := hargs 0 _ rfl
  have hget0 : hget [(0, HC.row ⟨1, t⟩ (L.map (PV.int .i64)))] 0 = some (.row ⟨1, t⟩ (L.map (.int .i64))) := rfl
  have hget1 : hget [(0, HC.row ⟨1, t⟩ ((sortT L).map (PV.int .i64)))] 0 = some (.row ⟨1, t⟩ ((sortT L).map (.int .i64))) := rfl
  have hgetk : ∀ (q : HC) (k : Nat), k ≠ 0 → hget [(0, q)] k = none := fun q k hk => by simp [hget, hk]
  have livek : ∀ (q : HC) (k : Nat), live [(0, q)] k → k = 0 := fun q k hl => by
    by_cases e : k = 0
    · exact e
    · unfold live at hl; rw [hgetk q k e] at hl; exact hl.elim
  have live0 : live [(0, HC.row ⟨1, t⟩ (L.map (PV.int .i64)))] 0 := by unfold live; rw [hget0]; trivial
  obtain rfl : a0 = Γ 0 := by
    cases h0 with
    | data h => cases h
    | row _ _ _ _ _ h => exact (h _ _ hget0).2 (List.length_map _).symm
  have hh := hhr 0
  unfold HR at hh
  rw [hget0] at hh
  simp only at hh
  obtain ⟨_, hh⟩ := hh
  have ow : ∀ b, Ow Γ [(0, HC.row ⟨1, t⟩ ((sortT L).map (PV.int .i64)))] b → Ow Γ [(0, HC.row ⟨1, t⟩ (L.map (PV.int .i64)))] b := fun b ⟨k, l, o⟩ => by
    obtain rfl := livek _ k l
    exact ⟨0, live0, o⟩
  have dis : Dis Γ [(0, HC.row ⟨1, t⟩ ((sortT L).map (PV.int .i64)))] := fun k k' _ l l' _ _ => (livek _ k l).trans (livek _ k' l').symm
  rcases hh with ⟨he, hn⟩ | ⟨β, o, cap, c, e, fr, hsl, hw, hq, hcap, hsz, hcl, hfl, hel⟩
  · obtain rfl : L = [] := List.map_eq_nil_iff.1 he
    show Calls Tryz.prog _ #[Γ 0] w _
    rw [hn]
    refine (Tryz.slices_Sort_int_none none 0 w).mono ?_
    rintro _ _ ⟨rfl, rfl⟩
    have es : sortT [] = [] := by simp [sortT]
    refine ⟨_, Γ, rfl, Kp.refl _ _, .data (.tup [] #[] rfl (by intro i x h; simp at h)), fun k => ?_, dis, fun b hb => .inr (ow b hb), fun k _ _ _ => rfl⟩
    by_cases e : k = 0
    · subst e
      unfold HR
      rw [hget1]
      exact ⟨Nat.zero_lt_one, .inl ⟨by rw [es]; rfl, hn⟩⟩
    · unfold HR
      rw [hgetk _ k e]
      trivial
  · rw [List.length_map] at hsl hcap
    have hlt := block_lt hw
    simp only [Nat.mul_one] at hsz hcl hel
    have hval : ∀ i (hi : i < L.length), o + i < c.size ∧ c.getD (o + i) undef = .int .i64 L[i] := fun i hi => by
      have h1 : (L.map (PV.int .i64))[i]? = some (.int .i64 L[i]) := by rw [List.getElem?_map, List.getElem?_eq_getElem hi]; rfl
      have h2 := hel i _ 0 _ h1 rfl
      rw [Nat.add_zero] at h2
      refine ⟨by omega, ?_⟩
      generalize c.getD (o + i) undef = q at *
      cases h2; rfl
    have hH : Sort.Holds (Value.int .i64) w β o L.toArray := fun j hj => by
      rw [List.size_toArray] at hj
      obtain ⟨h1, h2⟩ := hval j hj
      constructor
      · simp only [World.cell?, hw]
        rw [if_neg (by simp), Array.getElem?_eq_getElem h1]
        rw [Array.getD_eq_getD_getElem?, Array.getElem?_eq_getElem h1] at h2
        rw [getElem!_pos L.toArray j (by simpa using hj)]
        simpa using h2
      · simp only [World.frozen?, hw]
        have := hcl (o + j) (by omega) (by omega)
        obtain ⟨f1, f2⟩ := fr
        simp only at this ⊢
        rw [Bool.and_eq_false_iff, decide_eq_false_iff_not, decide_eq_false_iff_not]
        omega
    show Calls Tryz.prog _ #[Γ 0] w _
    rw [hsl]
    refine (Tryz.slices_Sort_int β o cap L w hH hlt (by omega)).mono ?_
    rintro _ _ ⟨rfl, n, os, rfl⟩
    have hsize : (Sort.putRow (Value.int .i64) (Sort.ahead w n) β o (L.mergeSort fun x y => decide (x ≤ y)).toArray).heap.size = w.heap.size := by simp [Sort.putRow, Sort.mapBlock, Sort.ahead]
    have hblk : ∀ b, b < w.heap.size → (Sort.grow (Sort.putRow (Value.int .i64) (Sort.ahead w n) β o (L.mergeSort fun x y => decide (x ≤ y)).toArray) os).heap[b]? = (if b = β then some (.cells (Sort.putCells (Value.int .i64) o (sortT L).toArray c) e fr) else w.heap[b]?) := fun b hb => by
      rw [Sort.heap_grow_old _ _ (by rw [hsize]; exact hb)]
      simp only [Sort.putRow, Sort.mapBlock, Sort.ahead, Array.getElem?_modify]
      by_cases h : b = β
      · subst h
        rw [if_pos rfl, if_pos rfl, hw]
        rfl
      · rw [if_neg (fun h' => h h'.symm), if_neg h]
    refine ⟨_, Γ, rfl, ⟨rfl, rfl, rfl, by rw [Sort.size_grow, hsize]; omega, fun b hb hno => ?_⟩, .data (.tup [] #[] rfl (by intro i x h; simp at h)), fun k => ?_, dis, fun b hb => .inr (ow b hb), fun k _ _ _ => rfl⟩
    · rw [hblk b hb, if_neg]
      intro h
      exact hno ⟨0, live0, by rw [hsl, h]; rfl⟩
    · by_cases hk : k = 0
      · subst hk
        unfold HR
        rw [hget1]
        refine ⟨Nat.zero_lt_one, .inr ⟨β, o, cap, Sort.putCells (Value.int .i64) o (sortT L).toArray c, e, fr, by rw [hsl, List.length_map, sortT_len], by rw [hblk β hlt, if_pos rfl], hq, by rw [List.length_map, sortT_len]; exact hcap, ?_, ?_, fun i x hx => ?_, fun i x j y hx hy => ?_⟩⟩
        · simp only [Sort.putCells, Array.size_mapIdx, Nat.mul_one]; exact hsz
        · simp only [Nat.mul_one]; exact hcl
        · rw [List.getElem?_map] at hx
          obtain ⟨z, _, rfl⟩ := Option.map_eq_some_iff.1 hx
          rfl
        · rw [List.getElem?_map] at hx
          obtain ⟨z, hz, rfl⟩ := Option.map_eq_some_iff.1 hx
          cases j with
          | succ j => simp [flat] at hy
          | zero =>
            obtain rfl : PV.int .i64 z = y := by simpa [flat] using hy
            obtain ⟨hi, hzz⟩ := List.getElem?_eq_some_iff.1 hz
            have hi' := hi
            rw [sortT_len] at hi'
            have h1 := (hval i hi').1
            simp only [Nat.mul_one, Nat.add_zero]
            have : (Sort.putCells (Value.int .i64) o (sortT L).toArray c).getD (o + i) undef = .int .i64 z := by
              rw [Array.getD_eq_getD_getElem?]
              simp only [Sort.putCells, Array.getElem?_mapIdx, Array.getElem?_eq_getElem h1, Option.map_some, Option.getD_some]
              rw [if_pos ⟨by omega, by rw [List.size_toArray]; omega⟩, show o + i - o = i by omega, getElem!_pos (sortT L).toArray i (by rw [List.size_toArray]; exact hi)]
              simp [hzz]
            rw [this]
            exact .int _ _
      · unfold HR
        rw [hgetk _ k hk]
        trivial
end Go.Pv

/- What functions of the program and of the reference do, in plain values. -/
namespace Go.Pv
open Go.Proofs Go.Mth
set_option linter.unusedSimpArgs false
set_option linter.unusedVariables false
set_option maxHeartbeats 4000000
set_option maxRecDepth 4000

/-! ### the bases on a disk -/
def basesL (L : List ByteArray) : List Int := L.flatMap fun n => if (nameOf n).1 = 1 then [(nameOf n).2] else []
theorem basesL_snoc (L : List ByteArray) (i : Nat) (h : i < L.length) : basesL (L.take (i + 1)) = basesL (L.take i) ++ if (nameOf (L.getD i default)).1 = 1 then [(nameOf (L.getD i default)).2] else [] := by
  unfold basesL
  rw [take_snoc default L i h, List.flatMap_append, List.flatMap_cons, List.flatMap_nil, List.append_nil]
  rfl
theorem basesL_len : ∀ L : List ByteArray, (basesL L).length ≤ L.length
  | [] => Nat.le_refl _
  | n :: L => by
    have := basesL_len L
    unfold basesL at *
    rw [List.flatMap_cons, List.length_append, List.length_cons]
    split
    · rw [List.length_singleton]; omega
    · rw [List.length_nil]; omega
def basesT (d : Dk) : List Int := sortT (basesL (namesT d))
theorem basesT_len {d : Dk} (h : DkOk d) : (basesT d).length ≤ 1048576 := by
  have h1 := basesL_len (namesT d)
  have h2 := namesT_len d
  have h3 := h.es
  unfold basesT
  rw [sortT_len]
  omega
theorem impl_BasesOn_R (d : Dk) (h : DkOk d) : FnE Tryz.prog 20 [dkP d] [] (fun r m => r = .row 64 (basesT d).length ∧ m = [(64, .row ⟨1, 0⟩ ((basesT d).map (.int .i64)))]) := by
  have hF := impl_FileNames d h
  have hle := namesT_le h
  have hln : (namesT d).length ≤ 1048576 := by rw [namesT_len]; exact h.es
  have hR := fun b hb => impl_ReadName b hb
  have hsn := basesL_snoc (namesT d)
  have hbl := basesL_len
  unfold basesT
  generalize namesT d = L at *
  rw [sortT_len]
  unfold dkP at *
  refine fn_e tok (n := 31) (rs := [.tmp 2]) Tryz.func20 (by decide) rfl rfl rfl rfl (low_of rfl) ?_
  refine Wr.go ?_
  repeat' ((first | (have ee := True.intro; refine Wr.mk ?_) | ((first | refine br_go ?_ ?_ | refine pick_go ?_ ?_) <;> intro ee f <;> (try simp only [BB] at f) <;> (try simp only [numOk, verOk] at f)) | (have ee := True.intro; first | refine call_x (hF) rfl ⟨rfl⟩ ?_)) <;> (try simp (maxSteps := 1000000) (disch := first | omega | (simp only [LN, numOk, verOk, rfP, rvP, rhP, frP, bkd] <;> omega) | exact Ck.mk rfl) only [ee, VC, T, Nat.reduceMul, Nat.reduceAdd, Nat.reduceSub, Nat.reduceLT, Nat.reduceEqDiff, Nat.reduceLeDiff, Nat.reduceBEq, reduceCtorEq, Int.reduceToNat, ↓reduceIte, rfP, rvP, rhP, frP, bkd]) <;> (try clear ee))
  refine lp_go (fun i : Nat => ⟨31, [(3, .row 576 (basesL (L.take i)).length), (10, .far (L.map .str)), (11, .int .i64 L.length), (12, .int .i64 i)], [(576, .row ⟨1, 0⟩ ((basesL (L.take i)).map (.int .i64)))]⟩) (fun i => i ≤ L.length) (fun i => L.length - i) 0 ?_ (Nat.zero_le _) ?_
  · (simp (disch := first | omega | (simp only [LN, numOk, verOk] <;> omega) | exact Ck.mk rfl) only [SB, EQ, Nat.reduceMul, Nat.reduceAdd, Nat.reduceSub, Nat.reduceLT, Nat.reduceEqDiff, Nat.reduceLeDiff, Nat.reduceBEq, reduceCtorEq, Int.reduceToNat, ↓reduceIte]; try omega)
    exact ⟨rfl, rfl⟩
  · intro i hi N hN
    have hsn := hsn i
    have hM1 := hbl (L.take i)
    rw [List.length_take] at hM1
    have hg : i < L.length → (L.map PV.str).getD i .junk = .str (L.getD i default) := fun h => by
      rw [List.getD_eq_getElem?_getD, List.getElem?_map, List.getElem?_eq_getElem h, List.getD_eq_getElem?_getD, List.getElem?_eq_getElem h]; rfl
    have hb : i < L.length → (L.getD i default).size ≤ 1048576 := fun h => by
      rw [List.getD_eq_getElem?_getD, List.getElem?_eq_getElem h]; exact hle _ (List.getElem_mem h)
    generalize hM : basesL (L.take i) = M at *
    have hS := fun h => sortI M 0 h
    have hsl := sortT_len M
    by_cases hi2 : i < L.length
    · have hb := hb hi2
      have hg := hg hi2
      have hsn := hsn hi2
      generalize L.getD i default = b at *
      have hR := hR b hb
      have hr := nameOf_range b
      generalize nameOf b = q at *
      obtain ⟨k, n⟩ := q
      simp only at *
      refine Wr.go ?_
      repeat' ((first | (have ee := True.intro; refine Wr.mk ?_) | ((first | refine br_go ?_ ?_ | refine pick_go ?_ ?_) <;> intro ee f <;> (try simp only [BB] at f) <;> (try simp only [numOk, verOk] at f)) | (have ee := True.intro; first | refine call_x (hR) rfl ⟨rfl⟩ ?_)) <;> (try simp (maxSteps := 1000000) (disch := first | omega | (simp only [LN, numOk, verOk, rfP, rvP, rhP, frP, bkd, hg] <;> omega) | exact Ck.mk rfl) only [ee, VC, T, Nat.reduceMul, Nat.reduceAdd, Nat.reduceSub, Nat.reduceLT, Nat.reduceEqDiff, Nat.reduceLeDiff, Nat.reduceBEq, reduceCtorEq, Int.reduceToNat, ↓reduceIte, rfP, rvP, rhP, frP, bkd, hg]) <;> (try clear ee))
      · refine hN (i + 1) _ (by omega) (by omega) ?_
        rw [hsn, if_pos f]
        (simp (disch := first | omega | (simp only [LN, numOk, verOk] <;> omega) | exact Ck.mk rfl) only [SB, EQ, Nat.reduceMul, Nat.reduceAdd, Nat.reduceSub, Nat.reduceLT, Nat.reduceEqDiff, Nat.reduceLeDiff, Nat.reduceBEq, reduceCtorEq, Int.reduceToNat, ↓reduceIte]; try omega)
      · refine hN (i + 1) _ (by omega) (by omega) ?_
        rw [hsn, if_neg f, List.append_nil]
        (simp (disch := first | omega | (simp only [LN, numOk, verOk] <;> omega) | exact Ck.mk rfl) only [SB, EQ, Nat.reduceMul, Nat.reduceAdd, Nat.reduceSub, Nat.reduceLT, Nat.reduceEqDiff, Nat.reduceLeDiff, Nat.reduceBEq, reduceCtorEq, Int.reduceToNat, ↓reduceIte]; try omega)
    · obtain rfl : i = L.length := by omega
      rw [List.take_length] at hM
      rw [hM]
      refine Wr.go ?_
      repeat' ((first | (have ee := True.intro; refine Wr.mk ?_) | ((first | refine br_go ?_ ?_ | refine pick_go ?_ ?_) <;> intro ee f <;> (try simp only [BB] at f) <;> (try simp only [numOk, verOk] at f)) | (have ee := True.intro; first | refine call_hx [576] [] (hS (by omega)) (by decide) rfl rfl ?_)) <;> (try simp (maxSteps := 1000000) (disch := first | omega | (simp only [LN, numOk, verOk, rfP, rvP, rhP, frP, bkd] <;> omega) | exact Ck.mk rfl) only [ee, VC, T, Nat.reduceMul, Nat.reduceAdd, Nat.reduceSub, Nat.reduceLT, Nat.reduceEqDiff, Nat.reduceLeDiff, Nat.reduceBEq, reduceCtorEq, Int.reduceToNat, ↓reduceIte, rfP, rvP, rhP, frP, bkd]) <;> (try clear ee))
      rw [← hsl]
      exact fin_t [some 576] (⟨rfl, rfl⟩) rfl (by simp [RV, RV2, RVl, RV1, tau, tget, hget, data1, oneOf]) (by simp [RH, RVl, RV1, tau, hget, data1]) (by simp [Taus, hget])
theorem spec_BasesOn (d : Dk) (h : DkOk d) : Fn Tryz.prog 19 [dkP d] [] (.far ((basesT d).map (.int .i64))) [] := by
  have hes := h.es
  have hnb := h.et
  have hR := fun b hb => spec_ReadName b hb
  have hsn := basesL_snoc (d.2.1.map (·.1))
  have hbl := basesL_len
  have huq := fun M => sortT_uniq (L := basesL (namesT d)) (M := M)
  have hpl := fun {A B : List Int} (hp : A.Perm B) => hp.length_eq
  unfold basesT namesT at *
  obtain ⟨ns, es, os, ss, r, x⟩ := d
  simp only at *
  unfold dkP
  refine fn_x tok (n := 58) (rs := [.tmp 2]) Tryz.func19 (by decide) rfl rfl rfl rfl ?_
  refine Wr.go ?_
  repeat' ((first | (have ee := True.intro; refine Wr.mk ?_) | ((first | refine br_go ?_ ?_ | refine pick_go ?_ ?_) <;> intro ee f <;> (try simp only [BB] at f) <;> (try simp only [numOk, verOk] at f))) <;> (try simp (maxSteps := 1000000) (disch := first | omega | (simp only [LN, numOk, verOk, rfP, rvP, rhP, frP, bkd] <;> omega) | exact Ck.mk rfl) only [ee, VC, T, Nat.reduceMul, Nat.reduceAdd, Nat.reduceSub, Nat.reduceLT, Nat.reduceEqDiff, Nat.reduceLeDiff, Nat.reduceBEq, reduceCtorEq, Int.reduceToNat, ↓reduceIte, rfP, rvP, rhP, frP, bkd]) <;> (try clear ee))
  refine lp_im (fun x' : Nat × List Int => ⟨58, [(1, .ref 128 0), (3, .far (x'.2.map (.int .i64))), (4, .int .i64 x'.1)], [(128, .box 32 [.far (ns.map ndP), .far (es.map enP), .far (os.map enP), .far (ss.map .str), .int .i64 r, .int .i64 x])]⟩) (fun x' => x'.1 ≤ es.length ∧ x'.2.Pairwise (· ≤ ·) ∧ x'.2.Perm (basesL ((es.map (·.1)).take x'.1))) (fun x' => es.length - x'.1) (0, []) ?_ ⟨Nat.zero_le _, List.Pairwise.nil, List.Perm.nil⟩ ?_
  · refine Im.go 3 640 rfl rfl rfl ?_
    (simp (disch := first | omega | (simp only [LN, numOk, verOk] <;> omega) | exact Ck.mk rfl) only [SB, EQ, Nat.reduceMul, Nat.reduceAdd, Nat.reduceSub, Nat.reduceLT, Nat.reduceEqDiff, Nat.reduceLeDiff, Nat.reduceBEq, reduceCtorEq, Int.reduceToNat, ↓reduceIte]; try omega)
  · rintro ⟨i, M⟩ ⟨hi, hso, hpe⟩ N hN
    simp only at hi hso hpe hN ⊢
    have hsn := hsn i
    have hM1 := hbl ((es.map (·.1)).take i)
    rw [List.length_take, List.length_map] at hM1
    have hM2 := hpl hpe
    rw [List.length_map] at hsn
    have hat := namesT_at es i
    have hg : i < es.length → (es.map enP).getD i .junk = .agg [.str (es.getD i default).1, .int .i64 (es.getD i default).2] := fun h => by
      rw [List.getD_eq_getElem?_getD, List.getElem?_map, List.getElem?_eq_getElem h, List.getD_eq_getElem?_getD, List.getElem?_eq_getElem h]; rfl
    by_cases hi2 : i < es.length
    · have hbx : (es.getD i default).1.size ≤ 1048576 := by
        rw [List.getD_eq_getElem?_getD, List.getElem?_eq_getElem hi2]; exact hnb _ (List.getElem_mem hi2)
      have hg := hg hi2
      have hsn := hsn hi2
      rw [hat hi2] at hsn
      generalize es.getD i default = p at *
      obtain ⟨nm, id⟩ := p
      simp only at *
      have hR := hR nm hbx
      have hr := nameOf_range nm
      generalize nameOf nm = q at *
      obtain ⟨k, n⟩ := q
      simp only at *
      refine Wr.go ?_
      repeat' ((first | (have ee := True.intro; refine Wr.mk ?_) | ((first | refine br_go ?_ ?_ | refine pick_go ?_ ?_) <;> intro ee f <;> (try simp only [BB] at f) <;> (try simp only [numOk, verOk] at f)) | (have ee := True.intro; first | refine call_x (hR) rfl ⟨rfl⟩ ?_)) <;> (try simp (maxSteps := 1000000) (disch := first | omega | (simp only [LN, numOk, verOk, rfP, rvP, rhP, frP, bkd, hg] <;> omega) | exact Ck.mk rfl) only [ee, VC, T, Nat.reduceMul, Nat.reduceAdd, Nat.reduceSub, Nat.reduceLT, Nat.reduceEqDiff, Nat.reduceLeDiff, Nat.reduceBEq, reduceCtorEq, Int.reduceToNat, ↓reduceIte, rfP, rvP, rhP, frP, bkd, hg]) <;> (try clear ee))
      · refine lp_go (fun j : Nat => ⟨58, [(1, .ref 128 0), (3, .far (M.map (.int .i64))), (4, .int .i64 i), (6, .int .i64 n), (7, .int .i64 j)], [(128, .box 32 [.far (ns.map ndP), .far (es.map enP), .far (os.map enP), .far (ss.map .str), .int .i64 r, .int .i64 x])]⟩) (fun j => j ≤ M.length ∧ ∀ t, j ≤ t → t < M.length → n < M.getD t default) (fun j => j) M.length ?_ ⟨Nat.le_refl _, fun t h1 h2 => by omega⟩ ?_
        · (simp (disch := first | omega | (simp only [LN, numOk, verOk] <;> omega) | exact Ck.mk rfl) only [SB, EQ, Nat.reduceMul, Nat.reduceAdd, Nat.reduceSub, Nat.reduceLT, Nat.reduceEqDiff, Nat.reduceLeDiff, Nat.reduceBEq, reduceCtorEq, Int.reduceToNat, ↓reduceIte]; try omega)
        · rintro j ⟨hj1, hj2⟩ N2 hN2
          have hln : ((M.take j).length + 1 + (M.drop j).length : Nat) = M.length + 1 := by rw [List.length_take, List.length_drop]; omega
          have hj0 : 0 < (j : Int) → ((j : Int) - 1).toNat = j - 1 := fun h => by omega
          have fin : (j = 0 ∨ M.getD (j - 1) default ≤ n) → (M.take j ++ [n] ++ M.drop j).Pairwise (· ≤ ·) ∧ (M.take j ++ [n] ++ M.drop j).Perm (basesL ((es.map (·.1)).take (i + 1))) := fun h => by
            rw [hsn, if_pos (by assumption)]
            exact ins_ok hso hpe hj1 hj2 h
          refine Wr.go ?_
          repeat' ((first | (have ee := True.intro; refine Wr.mk ?_) | ((first | refine br_go ?_ ?_ | refine pick_go ?_ ?_) <;> intro ee f <;> (try simp only [BB] at f) <;> (try simp only [numOk, verOk] at f))) <;> (try simp (maxSteps := 1000000) (disch := first | omega | (simp only [LN, numOk, verOk, rfP, rvP, rhP, frP, bkd] <;> omega) | exact Ck.mk rfl) only [ee, VC, T, Nat.reduceMul, Nat.reduceAdd, Nat.reduceSub, Nat.reduceLT, Nat.reduceEqDiff, Nat.reduceLeDiff, Nat.reduceBEq, reduceCtorEq, Int.reduceToNat, ↓reduceIte, rfP, rvP, rhP, frP, bkd]) <;> (try clear ee))
          · rename_i f0
            rw [hj0 f0] at f
            refine hN2 (j - 1) _ ⟨by omega, fun t h1 h2 => ?_⟩ (by omega) ?_
            · by_cases e : t = j - 1
              · rw [e]; exact f
              · exact hj2 t (by omega) h2
            · (simp (disch := first | omega | (simp only [LN, numOk, verOk] <;> omega) | exact Ck.mk rfl) only [SB, EQ, Nat.reduceMul, Nat.reduceAdd, Nat.reduceSub, Nat.reduceLT, Nat.reduceEqDiff, Nat.reduceLeDiff, Nat.reduceBEq, reduceCtorEq, Int.reduceToNat, ↓reduceIte]; try omega)
          · rename_i f0
            rw [hj0 f0] at f
            obtain ⟨q1, q2⟩ := fin (.inr f)
            refine hN (i + 1, M.take j ++ [n] ++ M.drop j) _ ⟨by simp only; omega, q1, q2⟩ (by simp only; omega) (Im.go 3 2880 rfl rfl ?_ ?_)
            · simp only [List.take_length, List.length_append, List.length_map, List.length_singleton]
            · simp only [List.take_length, ← List.map_append]
              (simp (disch := first | omega | (simp only [LN, numOk, verOk] <;> omega) | exact Ck.mk rfl) only [SB, EQ, Nat.reduceMul, Nat.reduceAdd, Nat.reduceSub, Nat.reduceLT, Nat.reduceEqDiff, Nat.reduceLeDiff, Nat.reduceBEq, reduceCtorEq, Int.reduceToNat, ↓reduceIte]; try omega)
          · obtain ⟨q1, q2⟩ := fin (.inl (by omega))
            refine hN (i + 1, M.take j ++ [n] ++ M.drop j) _ ⟨by simp only; omega, q1, q2⟩ (by simp only; omega) (Im.go 3 2880 rfl rfl ?_ ?_)
            · simp only [List.take_length, List.length_append, List.length_map, List.length_singleton]
            · simp only [List.take_length, ← List.map_append]
              (simp (disch := first | omega | (simp only [LN, numOk, verOk] <;> omega) | exact Ck.mk rfl) only [SB, EQ, Nat.reduceMul, Nat.reduceAdd, Nat.reduceSub, Nat.reduceLT, Nat.reduceEqDiff, Nat.reduceLeDiff, Nat.reduceBEq, reduceCtorEq, Int.reduceToNat, ↓reduceIte]; try omega)
      · refine hN (i + 1, M) _ ⟨by simp only; omega, hso, ?_⟩ (by simp only; omega) (Im.sub ?_)
        · simp only
          rw [hsn, if_neg f, List.append_nil]
          exact hpe
        · (simp (disch := first | omega | (simp only [LN, numOk, verOk] <;> omega) | exact Ck.mk rfl) only [SB, EQ, Nat.reduceMul, Nat.reduceAdd, Nat.reduceSub, Nat.reduceLT, Nat.reduceEqDiff, Nat.reduceLeDiff, Nat.reduceBEq, reduceCtorEq, Int.reduceToNat, ↓reduceIte]; try omega)
    · refine Wr.go ?_
      repeat' ((first | (have ee := True.intro; refine Wr.mk ?_) | ((first | refine br_go ?_ ?_ | refine pick_go ?_ ?_) <;> intro ee f <;> (try simp only [BB] at f) <;> (try simp only [numOk, verOk] at f))) <;> (try simp (maxSteps := 1000000) (disch := first | omega | (simp only [LN, numOk, verOk, rfP, rvP, rhP, frP, bkd] <;> omega) | exact Ck.mk rfl) only [ee, VC, T, Nat.reduceMul, Nat.reduceAdd, Nat.reduceSub, Nat.reduceLT, Nat.reduceEqDiff, Nat.reduceLeDiff, Nat.reduceBEq, reduceCtorEq, Int.reduceToNat, ↓reduceIte, rfP, rvP, rhP, frP, bkd]) <;> (try clear ee))
      obtain rfl : i = es.length := by omega
      rw [List.take_of_length_le (by rw [List.length_map]; exact Nat.le_refl _)] at hpe
      rw [huq M hso hpe]
end Go.Pv

/- What functions of the program and of the reference do, in plain values. -/
namespace Go.Pv
open Go.Proofs Go.Mth
set_option linter.unusedSimpArgs false
set_option linter.unusedVariables false
set_option maxHeartbeats 4000000
set_option maxRecDepth 4000

end Go.Pv
