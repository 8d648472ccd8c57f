/- The texts of this claim, part 4: a small logic of plain values for the model's runs, what it says of the functions, in plain values. -/
import Derived.Lib.AtoiAll
import Derived.Lib.ItoaNum
import Derived.Shelf.LaysM
import Derived.Shelf.Strconv.Itoa3
import Derived.Shelf.LaysC
import Derived.Shelf.Strconv.AtoiAll
import Derived.Test.YtboeojpjgncjoaaGreatDoorProg
import Derived.Lib.Strings
import Derived.Lib.Walk
import Derived.Lib.Bytealg
import Derived.WalkKit
import Derived.Laws.Externs
import Derived.Shelf.RegionOpenPlain
import Derived.Laws.IdiomCopy
import Derived.Lib.AppendZerosOnto
import Derived.Lib.SliceRun
import Derived.Laws.NewBlocks
import Derived.Test.YtboeojpjgncjoaaGreatDoorPvI0
import Derived.Test.YtboeojpjgncjoaaGreatDoorPvI1
import Derived.Test.YtboeojpjgncjoaaGreatDoorPvI2
import Derived.Test.YtboeojpjgncjoaaGreatDoorPvI3
/- What functions of the program and of the reference do, in plain values. -/
namespace Go.Pv
open Go.Proofs Go.Mth
set_option linter.unusedSimpArgs false
set_option linter.unusedVariables false
set_option maxHeartbeats 4000000
set_option maxRecDepth 4000

/-! ### the reference's deeds on disks -/
theorem usedT_nn (d : Dk) : 0 ≤ usedT d := by
  unfold usedT
  induction d.1 with
  | nil => exact Int.le_refl _
  | cons x r ih =>
    rw [List.map_cons, List.sum_cons]
    omega
theorem spec_SyncFile_W (d : Dk) (n : ByteArray) (h : DkW d) : FnE Tryz.prog 31 [dkP d, .str n] [] (fun r m => r = .tup [dkR 64 (syncT d n).1, .int .i64 (syncT d n).2] ∧ m = dkH (syncT d n).1) := by
  have hes := h.es
  have hss := h.ss
  have hns := h.ns
  have hos := h.os
  have hc := spec_l05Copy_R d h
  have hO := spec_DiskOk d h
  have hH : Fn Tryz.prog 64 [.far (d.2.1.map enP), .str n] [] (.bool (decide (hasT d.2.1 n))) [] := spec_l06Has d.2.1 n (by omega)
  have hE := spec_EntryAt d.2.1 n (by omega)
  have hNd := spec_l05Node d (entT d.2.1 n) (by omega)
  have e1 : ¬ diskOk d → syncT d n = (d, 3) := fun a => if_pos (.inl a)
  have e2 : ¬ hasT d.2.1 n → syncT d n = (d, 3) := fun a => if_pos (.inr a)
  by_cases a1 : diskOk d
  · rw [decide_eq_true a1] at hO
    by_cases a2 : hasT d.2.1 n
    · rw [decide_eq_true a2] at hH
      obtain ⟨t1, t2⟩ := node_there a1 a2
      have e3 : syncT d n = (setNd d (nodeI d.1 (entT d.2.1 n)).toNat ((d.1.getD (nodeI d.1 (entT d.2.1 n)).toNat default).1, (d.1.getD (nodeI d.1 (entT d.2.1 n)).toNat default).2.1, (d.1.getD (nodeI d.1 (entT d.2.1 n)).toNat default).2.1.size), 0) := if_neg (by simp [a1, a2])
      obtain ⟨k, hk⟩ : ∃ k : Nat, nodeI d.1 (entT d.2.1 n) = k := ⟨_, (Int.toNat_of_nonneg t1).symm⟩
      rw [hk] at t1 t2 e3 hNd
      rw [Int.toNat_natCast] at e3
      have hg : (d.1.map ndP).getD k .junk = .agg [.int .i64 (d.1.getD k default).1, .str (d.1.getD k default).2.1, .int .i64 (d.1.getD k default).2.2] := by
        rw [List.getD_eq_getElem?_getD, List.getElem?_map, List.getElem?_eq_getElem (by omega), List.getD_eq_getElem?_getD, List.getElem?_eq_getElem (by omega)]; rfl
      have hu : ∀ a b c z : PV, upd (.agg [a, b, c]) 2 [z] = .agg [a, b, z] := fun _ _ _ _ => rfl
      have hset : (d.1.map ndP).set k (.agg [.int .i64 (d.1.getD k default).1, .str (d.1.getD k default).2.1, .int .i64 (d.1.getD k default).2.1.size]) = (d.1.set k ((d.1.getD k default).1, (d.1.getD k default).2.1, (d.1.getD k default).2.1.size)).map ndP := by rw [List.map_set]; rfl
      have hz := nd_leW h k
      rw [e3]
      unfold setNd dkP dkR dkH at *
      generalize entT d.2.1 n = en at *
      refine fn_e tok (n := 39) (rs := [.cell 4 35, .tmp 5]) Tryz.func31 (by decide) rfl rfl rfl rfl (low_of rfl) ?_
      refine Wr.go ?_
      repeat' ((first | (have ee := True.intro; refine Wr.mk ?_) | ((first | refine br_go ?_ ?_ | refine pick_go ?_ ?_) <;> intro ee f <;> (try simp only [BB] at f) <;> (try simp only [numOk, verOk] at f)) | (have ee := True.intro; first | refine dr_go mixed (id := 4) [([], [2], []), ([], [2], []), ([1], [21], []), ([], [1], []), ([1, 2, 3], [22, 23], []), ([0, 1, 2, 3, 4], [20, 24], []), ([0, 1, 2, 3, 4, 5], [25], [])] rfl rfl rfl ?_ | refine dr_go mixed (id := 5) [([], [2], []), ([0], [26], []), ([], [6], []), ([], [2], []), ([3], [29], []), ([], [6], []), ([3, 4, 5], [30, 31], []), ([3, 4, 5, 6], [32], []), ([3, 4, 5, 6, 7], [33], []), ([3, 4, 5, 6, 7, 8], [34], []), ([0, 1, 2, 3, 4, 5, 6, 7, 8, 9], [27, 28], []), ([0, 1, 2, 3, 4, 5, 6, 7, 8, 9, 10], [36], []), ([0, 1, 2, 3, 4, 5, 6, 7, 8, 9, 10, 11], [35, 37], [])] rfl rfl rfl ?_ | (refine call_h [] [] (hc) (by decide) rfl rfl ?_; rintro _ _ ⟨rfl, rfl⟩) | (refine call_hx [] [576,577,578,579] (hO) (by decide) ?_ rfl ?_; (focus (first | rfl | (simp (maxSteps := 1000000) (disch := first | omega | (simp only [LN, numOk, verOk, rfP, rvP, rhP, frP, elOk_en, elOk_nd, nfx_en, nfx_nd, hg, hu, hset] <;> omega) | exact Ck.mk rfl) only [VC, T, Nat.reduceMul, Nat.reduceAdd, Nat.reduceSub, Nat.reduceLT, Nat.reduceEqDiff, Nat.reduceLeDiff, Nat.reduceBEq, reduceCtorEq, Int.reduceToNat, ↓reduceIte, rfP, rvP, rhP, frP, elOk_en, elOk_nd, nfx_en, nfx_nd, hg, hu, hset]; done)))) | (refine call_hx [] [577] (hH) (by decide) ?_ rfl ?_; (focus (first | rfl | (simp (maxSteps := 1000000) (disch := first | omega | (simp only [LN, numOk, verOk, rfP, rvP, rhP, frP, elOk_en, elOk_nd, nfx_en, nfx_nd, hg, hu, hset] <;> omega) | exact Ck.mk rfl) only [VC, T, Nat.reduceMul, Nat.reduceAdd, Nat.reduceSub, Nat.reduceLT, Nat.reduceEqDiff, Nat.reduceLeDiff, Nat.reduceBEq, reduceCtorEq, Int.reduceToNat, ↓reduceIte, rfP, rvP, rhP, frP, elOk_en, elOk_nd, nfx_en, nfx_nd, hg, hu, hset]; done)))) | (refine call_hx [] [577] (hE) (by decide) ?_ rfl ?_; (focus (first | rfl | (simp (maxSteps := 1000000) (disch := first | omega | (simp only [LN, numOk, verOk, rfP, rvP, rhP, frP, elOk_en, elOk_nd, nfx_en, nfx_nd, hg, hu, hset] <;> omega) | exact Ck.mk rfl) only [VC, T, Nat.reduceMul, Nat.reduceAdd, Nat.reduceSub, Nat.reduceLT, Nat.reduceEqDiff, Nat.reduceLeDiff, Nat.reduceBEq, reduceCtorEq, Int.reduceToNat, ↓reduceIte, rfP, rvP, rhP, frP, elOk_en, elOk_nd, nfx_en, nfx_nd, hg, hu, hset]; done)))) | (refine call_hx [] [576,577,578,579] (hNd) (by decide) ?_ rfl ?_; (focus (first | rfl | (simp (maxSteps := 1000000) (disch := first | omega | (simp only [LN, numOk, verOk, rfP, rvP, rhP, frP, elOk_en, elOk_nd, nfx_en, nfx_nd, hg, hu, hset] <;> omega) | exact Ck.mk rfl) only [VC, T, Nat.reduceMul, Nat.reduceAdd, Nat.reduceSub, Nat.reduceLT, Nat.reduceEqDiff, Nat.reduceLeDiff, Nat.reduceBEq, reduceCtorEq, Int.reduceToNat, ↓reduceIte, rfP, rvP, rhP, frP, elOk_en, elOk_nd, nfx_en, nfx_nd, hg, hu, hset]; done)))))) <;> (try simp (maxSteps := 1000000) (disch := first | omega | (simp only [LN, numOk, verOk, rfP, rvP, rhP, frP, elOk_en, elOk_nd, nfx_en, nfx_nd, hg, hu, hset] <;> omega) | exact Ck.mk rfl) only [ee, VC, T, Nat.reduceMul, Nat.reduceAdd, Nat.reduceSub, Nat.reduceLT, Nat.reduceEqDiff, Nat.reduceLeDiff, Nat.reduceBEq, reduceCtorEq, Int.reduceToNat, ↓reduceIte, rfP, rvP, rhP, frP, elOk_en, elOk_nd, nfx_en, nfx_nd, hg, hu, hset]) <;> (try clear ee))
      exact fin_t [some 576, some 577, some 578, some 579] (⟨rfl, rfl⟩) rfl (by simp [RV, RV2, RVl, RV1, tau, tget, hget, data1, oneOf, List.length_set]) (by simp [RH, RVl, RV1, tau, hget, data1, List.length_set]) (by simp [Taus, hget, List.length_set])
    · rw [decide_eq_false a2] at hH
      rw [e2 a2]
      unfold dkP dkR dkH at *
      refine fn_e tok (n := 39) (rs := [.cell 4 35, .tmp 5]) Tryz.func31 (by decide) rfl rfl rfl rfl (low_of rfl) ?_
      refine Wr.go ?_
      repeat' ((first | (have ee := True.intro; refine Wr.mk ?_) | ((first | refine br_go ?_ ?_ | refine pick_go ?_ ?_) <;> intro ee f <;> (try simp only [BB] at f) <;> (try simp only [numOk, verOk] at f)) | (have ee := True.intro; first | (refine call_h [] [] (hc) (by decide) rfl rfl ?_; rintro _ _ ⟨rfl, rfl⟩) | (refine call_hx [] [576,577,578,579] (hO) (by decide) ?_ rfl ?_; (focus (first | rfl | (simp (maxSteps := 1000000) (disch := first | omega | (simp only [LN, numOk, verOk, rfP, rvP, rhP, frP, elOk_en, elOk_nd, nfx_en, nfx_nd] <;> omega) | exact Ck.mk rfl) only [VC, T, Nat.reduceMul, Nat.reduceAdd, Nat.reduceSub, Nat.reduceLT, Nat.reduceEqDiff, Nat.reduceLeDiff, Nat.reduceBEq, reduceCtorEq, Int.reduceToNat, ↓reduceIte, rfP, rvP, rhP, frP, elOk_en, elOk_nd, nfx_en, nfx_nd]; done)))) | (refine call_hx [] [577] (hH) (by decide) ?_ rfl ?_; (focus (first | rfl | (simp (maxSteps := 1000000) (disch := first | omega | (simp only [LN, numOk, verOk, rfP, rvP, rhP, frP, elOk_en, elOk_nd, nfx_en, nfx_nd] <;> omega) | exact Ck.mk rfl) only [VC, T, Nat.reduceMul, Nat.reduceAdd, Nat.reduceSub, Nat.reduceLT, Nat.reduceEqDiff, Nat.reduceLeDiff, Nat.reduceBEq, reduceCtorEq, Int.reduceToNat, ↓reduceIte, rfP, rvP, rhP, frP, elOk_en, elOk_nd, nfx_en, nfx_nd]; done)))))) <;> (try simp (maxSteps := 1000000) (disch := first | omega | (simp only [LN, numOk, verOk, rfP, rvP, rhP, frP, elOk_en, elOk_nd, nfx_en, nfx_nd] <;> omega) | exact Ck.mk rfl) only [ee, VC, T, Nat.reduceMul, Nat.reduceAdd, Nat.reduceSub, Nat.reduceLT, Nat.reduceEqDiff, Nat.reduceLeDiff, Nat.reduceBEq, reduceCtorEq, Int.reduceToNat, ↓reduceIte, rfP, rvP, rhP, frP, elOk_en, elOk_nd, nfx_en, nfx_nd]) <;> (try clear ee))
      exact fin_t [some 576, some 577, some 578, some 579] (⟨rfl, rfl⟩) rfl (by simp [RV, RV2, RVl, RV1, tau, tget, hget, data1, oneOf]) (by simp [RH, RVl, RV1, tau, hget, data1]) (by simp [Taus, hget])
  · rw [decide_eq_false a1] at hO
    rw [e1 a1]
    unfold dkP dkR dkH at *
    refine fn_e tok (n := 39) (rs := [.cell 4 35, .tmp 5]) Tryz.func31 (by decide) rfl rfl rfl rfl (low_of rfl) ?_
    refine Wr.go ?_
    repeat' ((first | (have ee := True.intro; refine Wr.mk ?_) | ((first | refine br_go ?_ ?_ | refine pick_go ?_ ?_) <;> intro ee f <;> (try simp only [BB] at f) <;> (try simp only [numOk, verOk] at f)) | (have ee := True.intro; first | (refine call_h [] [] (hc) (by decide) rfl rfl ?_; rintro _ _ ⟨rfl, rfl⟩) | (refine call_hx [] [576,577,578,579] (hO) (by decide) ?_ rfl ?_; (focus (first | rfl | (simp (maxSteps := 1000000) (disch := first | omega | (simp only [LN, numOk, verOk, rfP, rvP, rhP, frP, elOk_en, elOk_nd, nfx_en, nfx_nd] <;> omega) | exact Ck.mk rfl) only [VC, T, Nat.reduceMul, Nat.reduceAdd, Nat.reduceSub, Nat.reduceLT, Nat.reduceEqDiff, Nat.reduceLeDiff, Nat.reduceBEq, reduceCtorEq, Int.reduceToNat, ↓reduceIte, rfP, rvP, rhP, frP, elOk_en, elOk_nd, nfx_en, nfx_nd]; done)))))) <;> (try simp (maxSteps := 1000000) (disch := first | omega | (simp only [LN, numOk, verOk, rfP, rvP, rhP, frP, elOk_en, elOk_nd, nfx_en, nfx_nd] <;> omega) | exact Ck.mk rfl) only [ee, VC, T, Nat.reduceMul, Nat.reduceAdd, Nat.reduceSub, Nat.reduceLT, Nat.reduceEqDiff, Nat.reduceLeDiff, Nat.reduceBEq, reduceCtorEq, Int.reduceToNat, ↓reduceIte, rfP, rvP, rhP, frP, elOk_en, elOk_nd, nfx_en, nfx_nd]) <;> (try clear ee))
    exact fin_t [some 576, some 577, some 578, some 579] (⟨rfl, rfl⟩) rfl (by simp [RV, RV2, RVl, RV1, tau, tget, hget, data1, oneOf]) (by simp [RH, RVl, RV1, tau, hget, data1]) (by simp [Taus, hget])
theorem spec_AppendFile_W (d : Dk) (n t : ByteArray) (h : DkW d) (ht : t.size ≤ 1073741824) : FnE Tryz.prog 28 [dkP d, .str n, .str t] [] (fun r m => r = .tup [dkR 64 (appendT d n t).1, .int .i64 (appendT d n t).2] ∧ m = dkH (appendT d n t).1) := by
  have hes := h.es
  have hss := h.ss
  have hns := h.ns
  have hos := h.os
  have hc := spec_l05Copy_R d h
  have hO := spec_DiskOk d h
  have hH : Fn Tryz.prog 64 [.far (d.2.1.map enP), .str n] [] (.bool (decide (hasT d.2.1 n))) [] := spec_l06Has d.2.1 n (by omega)
  have hE := spec_EntryAt d.2.1 n (by omega)
  have hNd := spec_l05Node d (entT d.2.1 n) (by omega)
  have hU := spec_UsedOn d h
  have hu0 := usedT_nn d
  have e1 : ¬ diskOk d → appendT d n t = (d, 3) := fun a => if_pos (.inl a)
  have e2 : ¬ hasT d.2.1 n → appendT d n t = (d, 3) := fun a => if_pos (.inr a)
  by_cases a1 : diskOk d
  · rw [decide_eq_true a1] at hO
    by_cases a2 : hasT d.2.1 n
    · rw [decide_eq_true a2] at hH
      obtain ⟨t1, t2⟩ := node_there a1 a2
      obtain ⟨_, hr1, _, hr2⟩ := a1.1
      obtain ⟨k, hk⟩ : ∃ k : Nat, nodeI d.1 (entT d.2.1 n) = k := ⟨_, (Int.toNat_of_nonneg t1).symm⟩
      have e3 : (t.size : Int) > d.2.2.2.2.1 - usedT d → appendT d n t = (setNd d k ((d.1.getD k default).1, (d.1.getD k default).2.1 ++ t.extract 0 (d.2.2.2.2.1 - usedT d).toNat, (d.1.getD k default).2.2), 5) := fun q => by
        unfold appendT
        rw [if_neg (by simp [a1, a2]), if_pos q, hk, Int.toNat_natCast]
      have e4 : ¬ (t.size : Int) > d.2.2.2.2.1 - usedT d → appendT d n t = (setNd d k ((d.1.getD k default).1, (d.1.getD k default).2.1 ++ t, (d.1.getD k default).2.2), 0) := fun q => by
        unfold appendT
        rw [if_neg (by simp [a1, a2]), if_neg q, hk, Int.toNat_natCast]
      rw [hk] at t1 t2 hNd
      have hg : (d.1.map ndP).getD k .junk = .agg [.int .i64 (d.1.getD k default).1, .str (d.1.getD k default).2.1, .int .i64 (d.1.getD k default).2.2] := by
        rw [List.getD_eq_getElem?_getD, List.getElem?_map, List.getElem?_eq_getElem (by omega), List.getD_eq_getElem?_getD, List.getElem?_eq_getElem (by omega)]; rfl
      have hu : ∀ a b c z : PV, upd (.agg [a, b, c]) 1 [z] = .agg [a, z, c] := fun _ _ _ _ => rfl
      have hset : ∀ s, (d.1.map ndP).set k (.agg [.int .i64 (d.1.getD k default).1, .str s, .int .i64 (d.1.getD k default).2.2]) = (d.1.set k ((d.1.getD k default).1, s, (d.1.getD k default).2.2)).map ndP := fun s => by rw [List.map_set]; rfl
      have hz := nd_leW h k
      have hex := ex_le t 0 (d.2.2.2.2.1 - usedT d).toNat
      generalize appendT d n t = q at *
      unfold setNd at *
      unfold dkP dkR dkH at *
      generalize entT d.2.1 n = en at *
      generalize usedT d = u at *
      refine fn_e tok (n := 68) (rs := [.cell 6 35, .tmp 7]) Tryz.func28 (by decide) rfl rfl rfl rfl (low_of rfl) ?_
      refine Wr.go ?_
      repeat' ((first | (have ee := True.intro; refine Wr.mk ?_) | ((first | refine br_go ?_ ?_ | refine pick_go ?_ ?_) <;> intro ee f <;> (try simp only [BB] at f) <;> (try simp only [numOk, verOk] at f)) | (have ee := True.intro; first | refine dr_go mixed (id := 4) [([], [3], []), ([], [3], []), ([1], [24], []), ([], [1], []), ([1, 2, 3], [25, 26], []), ([0, 1, 2, 3, 4], [23, 27], []), ([0, 1, 2, 3, 4, 5], [28], [])] rfl rfl rfl ?_ | refine dr_go mixed (id := 5) [([], [3], []), ([0], [29], []), ([], [3], []), ([2], [31], []), ([0, 1, 2, 3], [30, 32], []), ([0, 1, 2, 3, 4], [33], [])] rfl rfl rfl ?_ | refine dr_go mixed (id := 7) [([], [3], []), ([0], [38], []), ([], [8], []), ([], [3], []), ([3], [41], []), ([], [8], []), ([3, 4, 5], [42, 43], []), ([3, 4, 5, 6], [44], []), ([3, 4, 5, 6, 7], [45], []), ([], [2], []), ([], [9], []), ([9, 10], [47, 48], []), ([3, 4, 5, 6, 7, 8, 9, 10, 11], [46, 49], []), ([0, 1, 2, 3, 4, 5, 6, 7, 8, 9, 10, 11, 12], [39, 40], []), ([0, 1, 2, 3, 4, 5, 6, 7, 8, 9, 10, 11, 12, 13], [51], []), ([0, 1, 2, 3, 4, 5, 6, 7, 8, 9, 10, 11, 12, 13, 14], [50, 52], [])] rfl rfl rfl ?_ | refine dr_go mixed (id := 9) [([], [3], []), ([0], [54], []), ([], [8], []), ([], [3], []), ([3], [57], []), ([], [8], []), ([3, 4, 5], [58, 59], []), ([3, 4, 5, 6], [60], []), ([3, 4, 5, 6, 7], [61], []), ([], [2], []), ([3, 4, 5, 6, 7, 8, 9], [62, 63], []), ([0, 1, 2, 3, 4, 5, 6, 7, 8, 9, 10], [55, 56], []), ([0, 1, 2, 3, 4, 5, 6, 7, 8, 9, 10, 11], [65], []), ([0, 1, 2, 3, 4, 5, 6, 7, 8, 9, 10, 11, 12], [64, 66], [])] rfl rfl rfl ?_ | (refine call_h [] [] (hc) (by decide) rfl rfl ?_; rintro _ _ ⟨rfl, rfl⟩) | (refine call_hx [] [768,769,770,771] (hO) (by decide) ?_ rfl ?_; (focus (first | rfl | (simp (maxSteps := 1000000) (disch := first | omega | (simp only [LN, numOk, verOk, rfP, rvP, rhP, frP, elOk_en, elOk_nd, nfx_en, nfx_nd, hg, hu, hset] <;> omega) | exact Ck.mk rfl) only [VC, T, Nat.reduceMul, Nat.reduceAdd, Nat.reduceSub, Nat.reduceLT, Nat.reduceEqDiff, Nat.reduceLeDiff, Nat.reduceBEq, reduceCtorEq, Int.reduceToNat, ↓reduceIte, rfP, rvP, rhP, frP, elOk_en, elOk_nd, nfx_en, nfx_nd, hg, hu, hset]; done)))) | (refine call_hx [] [769] (hH) (by decide) ?_ rfl ?_; (focus (first | rfl | (simp (maxSteps := 1000000) (disch := first | omega | (simp only [LN, numOk, verOk, rfP, rvP, rhP, frP, elOk_en, elOk_nd, nfx_en, nfx_nd, hg, hu, hset] <;> omega) | exact Ck.mk rfl) only [VC, T, Nat.reduceMul, Nat.reduceAdd, Nat.reduceSub, Nat.reduceLT, Nat.reduceEqDiff, Nat.reduceLeDiff, Nat.reduceBEq, reduceCtorEq, Int.reduceToNat, ↓reduceIte, rfP, rvP, rhP, frP, elOk_en, elOk_nd, nfx_en, nfx_nd, hg, hu, hset]; done)))) | (refine call_hx [] [769] (hE) (by decide) ?_ rfl ?_; (focus (first | rfl | (simp (maxSteps := 1000000) (disch := first | omega | (simp only [LN, numOk, verOk, rfP, rvP, rhP, frP, elOk_en, elOk_nd, nfx_en, nfx_nd, hg, hu, hset] <;> omega) | exact Ck.mk rfl) only [VC, T, Nat.reduceMul, Nat.reduceAdd, Nat.reduceSub, Nat.reduceLT, Nat.reduceEqDiff, Nat.reduceLeDiff, Nat.reduceBEq, reduceCtorEq, Int.reduceToNat, ↓reduceIte, rfP, rvP, rhP, frP, elOk_en, elOk_nd, nfx_en, nfx_nd, hg, hu, hset]; done)))) | (refine call_hx [] [768,769,770,771] (hNd) (by decide) ?_ rfl ?_; (focus (first | rfl | (simp (maxSteps := 1000000) (disch := first | omega | (simp only [LN, numOk, verOk, rfP, rvP, rhP, frP, elOk_en, elOk_nd, nfx_en, nfx_nd, hg, hu, hset] <;> omega) | exact Ck.mk rfl) only [VC, T, Nat.reduceMul, Nat.reduceAdd, Nat.reduceSub, Nat.reduceLT, Nat.reduceEqDiff, Nat.reduceLeDiff, Nat.reduceBEq, reduceCtorEq, Int.reduceToNat, ↓reduceIte, rfP, rvP, rhP, frP, elOk_en, elOk_nd, nfx_en, nfx_nd, hg, hu, hset]; done)))) | (refine call_hx [] [768,769,770,771] (hU) (by decide) ?_ rfl ?_; (focus (first | rfl | (simp (maxSteps := 1000000) (disch := first | omega | (simp only [LN, numOk, verOk, rfP, rvP, rhP, frP, elOk_en, elOk_nd, nfx_en, nfx_nd, hg, hu, hset] <;> omega) | exact Ck.mk rfl) only [VC, T, Nat.reduceMul, Nat.reduceAdd, Nat.reduceSub, Nat.reduceLT, Nat.reduceEqDiff, Nat.reduceLeDiff, Nat.reduceBEq, reduceCtorEq, Int.reduceToNat, ↓reduceIte, rfP, rvP, rhP, frP, elOk_en, elOk_nd, nfx_en, nfx_nd, hg, hu, hset]; done)))))) <;> (try simp (maxSteps := 1000000) (disch := first | omega | (simp only [LN, numOk, verOk, rfP, rvP, rhP, frP, elOk_en, elOk_nd, nfx_en, nfx_nd, hg, hu, hset] <;> omega) | exact Ck.mk rfl) only [ee, VC, T, Nat.reduceMul, Nat.reduceAdd, Nat.reduceSub, Nat.reduceLT, Nat.reduceEqDiff, Nat.reduceLeDiff, Nat.reduceBEq, reduceCtorEq, Int.reduceToNat, ↓reduceIte, rfP, rvP, rhP, frP, elOk_en, elOk_nd, nfx_en, nfx_nd, hg, hu, hset]) <;> (try clear ee))
      · cases e3 (by omega)
        exact fin_t [some 768, some 769, some 770, some 771] (⟨rfl, rfl⟩) rfl (by simp [RV, RV2, RVl, RV1, tau, tget, hget, data1, oneOf, List.length_set]) (by simp [RH, RVl, RV1, tau, hget, data1, List.length_set]) (by simp [Taus, hget, List.length_set])
      · cases e4 (by omega)
        exact fin_t [some 768, some 769, some 770, some 771] (⟨rfl, rfl⟩) rfl (by simp [RV, RV2, RVl, RV1, tau, tget, hget, data1, oneOf, List.length_set]) (by simp [RH, RVl, RV1, tau, hget, data1, List.length_set]) (by simp [Taus, hget, List.length_set])
    · rw [decide_eq_false a2] at hH
      rw [e2 a2]
      unfold dkP dkR dkH at *
      refine fn_e tok (n := 68) (rs := [.cell 6 35, .tmp 7]) Tryz.func28 (by decide) rfl rfl rfl rfl (low_of rfl) ?_
      refine Wr.go ?_
      repeat' ((first | (have ee := True.intro; refine Wr.mk ?_) | ((first | refine br_go ?_ ?_ | refine pick_go ?_ ?_) <;> intro ee f <;> (try simp only [BB] at f) <;> (try simp only [numOk, verOk] at f)) | (have ee := True.intro; first | (refine call_h [] [] (hc) (by decide) rfl rfl ?_; rintro _ _ ⟨rfl, rfl⟩) | (refine call_hx [] [768,769,770,771] (hO) (by decide) ?_ rfl ?_; (focus (first | rfl | (simp (maxSteps := 1000000) (disch := first | omega | (simp only [LN, numOk, verOk, rfP, rvP, rhP, frP, elOk_en, elOk_nd, nfx_en, nfx_nd] <;> omega) | exact Ck.mk rfl) only [VC, T, Nat.reduceMul, Nat.reduceAdd, Nat.reduceSub, Nat.reduceLT, Nat.reduceEqDiff, Nat.reduceLeDiff, Nat.reduceBEq, reduceCtorEq, Int.reduceToNat, ↓reduceIte, rfP, rvP, rhP, frP, elOk_en, elOk_nd, nfx_en, nfx_nd]; done)))) | (refine call_hx [] [769] (hH) (by decide) ?_ rfl ?_; (focus (first | rfl | (simp (maxSteps := 1000000) (disch := first | omega | (simp only [LN, numOk, verOk, rfP, rvP, rhP, frP, elOk_en, elOk_nd, nfx_en, nfx_nd] <;> omega) | exact Ck.mk rfl) only [VC, T, Nat.reduceMul, Nat.reduceAdd, Nat.reduceSub, Nat.reduceLT, Nat.reduceEqDiff, Nat.reduceLeDiff, Nat.reduceBEq, reduceCtorEq, Int.reduceToNat, ↓reduceIte, rfP, rvP, rhP, frP, elOk_en, elOk_nd, nfx_en, nfx_nd]; done)))))) <;> (try simp (maxSteps := 1000000) (disch := first | omega | (simp only [LN, numOk, verOk, rfP, rvP, rhP, frP, elOk_en, elOk_nd, nfx_en, nfx_nd] <;> omega) | exact Ck.mk rfl) only [ee, VC, T, Nat.reduceMul, Nat.reduceAdd, Nat.reduceSub, Nat.reduceLT, Nat.reduceEqDiff, Nat.reduceLeDiff, Nat.reduceBEq, reduceCtorEq, Int.reduceToNat, ↓reduceIte, rfP, rvP, rhP, frP, elOk_en, elOk_nd, nfx_en, nfx_nd]) <;> (try clear ee))
      exact fin_t [some 768, some 769, some 770, some 771] (⟨rfl, rfl⟩) rfl (by simp [RV, RV2, RVl, RV1, tau, tget, hget, data1, oneOf]) (by simp [RH, RVl, RV1, tau, hget, data1]) (by simp [Taus, hget])
  · rw [decide_eq_false a1] at hO
    rw [e1 a1]
    unfold dkP dkR dkH at *
    refine fn_e tok (n := 68) (rs := [.cell 6 35, .tmp 7]) Tryz.func28 (by decide) rfl rfl rfl rfl (low_of rfl) ?_
    refine Wr.go ?_
    repeat' ((first | (have ee := True.intro; refine Wr.mk ?_) | ((first | refine br_go ?_ ?_ | refine pick_go ?_ ?_) <;> intro ee f <;> (try simp only [BB] at f) <;> (try simp only [numOk, verOk] at f)) | (have ee := True.intro; first | (refine call_h [] [] (hc) (by decide) rfl rfl ?_; rintro _ _ ⟨rfl, rfl⟩) | (refine call_hx [] [768,769,770,771] (hO) (by decide) ?_ rfl ?_; (focus (first | rfl | (simp (maxSteps := 1000000) (disch := first | omega | (simp only [LN, numOk, verOk, rfP, rvP, rhP, frP, elOk_en, elOk_nd, nfx_en, nfx_nd] <;> omega) | exact Ck.mk rfl) only [VC, T, Nat.reduceMul, Nat.reduceAdd, Nat.reduceSub, Nat.reduceLT, Nat.reduceEqDiff, Nat.reduceLeDiff, Nat.reduceBEq, reduceCtorEq, Int.reduceToNat, ↓reduceIte, rfP, rvP, rhP, frP, elOk_en, elOk_nd, nfx_en, nfx_nd]; done)))))) <;> (try simp (maxSteps := 1000000) (disch := first | omega | (simp only [LN, numOk, verOk, rfP, rvP, rhP, frP, elOk_en, elOk_nd, nfx_en, nfx_nd] <;> omega) | exact Ck.mk rfl) only [ee, VC, T, Nat.reduceMul, Nat.reduceAdd, Nat.reduceSub, Nat.reduceLT, Nat.reduceEqDiff, Nat.reduceLeDiff, Nat.reduceBEq, reduceCtorEq, Int.reduceToNat, ↓reduceIte, rfP, rvP, rhP, frP, elOk_en, elOk_nd, nfx_en, nfx_nd]) <;> (try clear ee))
    exact fin_t [some 768, some 769, some 770, some 771] (⟨rfl, rfl⟩) rfl (by simp [RV, RV2, RVl, RV1, tau, tget, hget, data1, oneOf]) (by simp [RH, RVl, RV1, tau, hget, data1]) (by simp [Taus, hget])
end Go.Pv

/- What functions of the program and of the reference do, in plain values. -/
namespace Go.Pv
open Go.Proofs Go.Mth
set_option linter.unusedSimpArgs false
set_option linter.unusedVariables false
set_option maxHeartbeats 4000000
set_option maxRecDepth 4000

/-! ### writers; what is held of disks -/
abbrev Wt := Int × Int × Int × Int × Int × List Int × Int × Bool × Int
instance : DecidableEq (Int × Bool × Int) := inferInstance
instance : DecidableEq (Int × List Int × Int × Bool × Int) := inferInstance
instance : DecidableEq (Int × Int × Int × List Int × Int × Bool × Int) := inferInstance
instance : DecidableEq Wt := inferInstance
def wrP (w : Wt) : PV := .agg [.int .i64 w.1, .int .i64 w.2.1, .int .i64 w.2.2.1, .int .i64 w.2.2.2.1, .int .i64 w.2.2.2.2.1, .far (w.2.2.2.2.2.1.map (.int .i64)), .int .i64 w.2.2.2.2.2.2.1, .bool w.2.2.2.2.2.2.2.1, .int .i64 w.2.2.2.2.2.2.2.2]
/-- A writer whose row is one's own. -/
def wrR (K : Nat) (w : Wt) : PV := .agg [.int .i64 w.1, .int .i64 w.2.1, .int .i64 w.2.2.1, .int .i64 w.2.2.2.1, .int .i64 w.2.2.2.2.1, .row K w.2.2.2.2.2.1.length, .int .i64 w.2.2.2.2.2.2.1, .bool w.2.2.2.2.2.2.2.1, .int .i64 w.2.2.2.2.2.2.2.2]
theorem laws_szIntS (xs : List Int) (n : Int) (hn : 0 ≤ n ∧ n ≤ 1048576) (hx : xs.length ≤ 9223372036854775807) : FnV Tryz.prog 22 [.far (xs.map (.int .i64)), .int .i64 n] (fun r => ∃ m : Int, r = .int .i64 m ∧ (0 ≤ m → xs.length ≤ 1048576) ∧ -1 ≤ m ∧ m ≤ n) := by
  refine fn_v tok (n := 12) (rs := [.tmp 4]) Tryz.func22 (by decide) rfl rfl rfl rfl ?_
  refine Wr.go ?_
  repeat' ((first | (have ee := True.intro; refine Wr.mk ?_) | ((first | refine br_go ?_ ?_ | refine pick_go ?_ ?_) <;> intro ee f <;> (try simp only [BB] at f) <;> (try simp only [numOk, verOk] at f))) <;> (try simp (maxSteps := 1000000) (disch := first | omega | (simp only [LN, numOk, verOk, rfP, rvP, rhP, frP, elOk_en, elOk_nd, nfx_en, nfx_nd] <;> omega) | exact Ck.mk rfl) only [ee, VC, T, Nat.reduceMul, Nat.reduceAdd, Nat.reduceSub, Nat.reduceLT, Nat.reduceEqDiff, Nat.reduceLeDiff, Nat.reduceBEq, reduceCtorEq, Int.reduceToNat, ↓reduceIte, rfP, rvP, rhP, frP, elOk_en, elOk_nd, nfx_en, nfx_nd]) <;> (try clear ee))
  all_goals
    refine ⟨_, rfl, ?_⟩
    omega
theorem laws_szWriter (w : Wt) (n : Int) (hn : 0 ≤ n ∧ n ≤ 1048576) (h1 : w.2.2.2.2.2.1.length ≤ 9223372036854775807) : FnV Tryz.prog 6 [wrP w, .int .i64 n] (fun r => ∃ m : Int, r = .int .i64 m ∧ (0 ≤ m → w.2.2.2.2.2.1.length ≤ 1048576) ∧ -1 ≤ m ∧ m ≤ n) := by
  obtain ⟨a, b, c, d, e, L, g, o, k⟩ := w
  simp only at h1 ⊢
  unfold wrP
  refine fn_v tok (n := 12) (rs := [.tmp 4]) Tryz.func6 (by decide) rfl rfl rfl rfl ?_
  refine Wr.go ?_
  repeat' ((first | (have ee := True.intro; refine Wr.mk ?_) | ((first | refine br_go ?_ ?_ | refine pick_go ?_ ?_) <;> intro ee f <;> (try simp only [BB] at f) <;> (try simp only [numOk, verOk] at f))) <;> (try simp (maxSteps := 1000000) (disch := first | omega | (simp only [LN, numOk, verOk, rfP, rvP, rhP, frP, elOk_en, elOk_nd, nfx_en, nfx_nd] <;> omega) | exact Ck.mk rfl) only [ee, VC, T, Nat.reduceMul, Nat.reduceAdd, Nat.reduceSub, Nat.reduceLT, Nat.reduceEqDiff, Nat.reduceLeDiff, Nat.reduceBEq, reduceCtorEq, Int.reduceToNat, ↓reduceIte, rfP, rvP, rhP, frP, elOk_en, elOk_nd, nfx_en, nfx_nd]) <;> (try clear ee))
  refine call_v (laws_szIntS L n hn h1) rfl ?_
  rintro _ ⟨m1, rfl, q1, q2, q3⟩
  refine ⟨⟨rfl⟩, ?_⟩
  refine Wr.go ?_
  repeat' ((first | (have ee := True.intro; refine Wr.mk ?_) | ((first | refine br_go ?_ ?_ | refine pick_go ?_ ?_) <;> intro ee f <;> (try simp only [BB] at f) <;> (try simp only [numOk, verOk] at f))) <;> (try simp (maxSteps := 1000000) (disch := first | omega | (simp only [LN, numOk, verOk, rfP, rvP, rhP, frP, elOk_en, elOk_nd, nfx_en, nfx_nd] <;> omega) | exact Ck.mk rfl) only [ee, VC, T, Nat.reduceMul, Nat.reduceAdd, Nat.reduceSub, Nat.reduceLT, Nat.reduceEqDiff, Nat.reduceLeDiff, Nat.reduceBEq, reduceCtorEq, Int.reduceToNat, ↓reduceIte, rfP, rvP, rhP, frP, elOk_en, elOk_nd, nfx_en, nfx_nd]) <;> (try clear ee))
  all_goals
    refine ⟨_, rfl, ?_⟩
    omega
theorem laws_toWriter_R (w : Wt) (h : w.2.2.2.2.2.1.length ≤ 1048576) : FnE Tryz.prog 9 [wrP w] [] (fun r m => r = wrR 64 w ∧ m = [(64, .row ⟨1, 0⟩ (w.2.2.2.2.2.1.map (.int .i64)))]) := by
  obtain ⟨a, b, c, d, e, L, g, o, k⟩ := w
  simp only at h
  unfold wrP
  refine fn_e tok (n := 33) (rs := [.cell 2 36]) Tryz.func9 (by decide) rfl rfl rfl rfl (low_of rfl) ?_
  refine Wr.go ?_
  repeat' ((first | (have ee := True.intro; refine Wr.mk ?_) | ((first | refine br_go ?_ ?_ | refine pick_go ?_ ?_) <;> intro ee f <;> (try simp only [BB] at f) <;> (try simp only [numOk, verOk] at f)) | (have ee := True.intro; first | (refine call_h [] [] (laws_toInt_R L (by omega)) (by decide) rfl rfl ?_; rintro _ _ ⟨rfl, rfl⟩))) <;> (try simp (maxSteps := 1000000) (disch := first | omega | (simp only [LN, numOk, verOk, rfP, rvP, rhP, frP, elOk_en, elOk_nd, nfx_en, nfx_nd] <;> omega) | exact Ck.mk rfl) only [ee, VC, T, Nat.reduceMul, Nat.reduceAdd, Nat.reduceSub, Nat.reduceLT, Nat.reduceEqDiff, Nat.reduceLeDiff, Nat.reduceBEq, reduceCtorEq, Int.reduceToNat, ↓reduceIte, rfP, rvP, rhP, frP, elOk_en, elOk_nd, nfx_en, nfx_nd]) <;> (try clear ee))
  exact fin_t [some 1408] (⟨rfl, rfl⟩) rfl (by simp [RV, RV2, RVl, RV1, tau, tget, hget, data1, oneOf, wrR]) (by simp [RH, RVl, RV1, tau, hget, data1, wrR]) (by simp [Taus, hget, wrR])
theorem laws_toWriter (w : Wt) (h : w.2.2.2.2.2.1.length ≤ 1048576) : Fn Tryz.prog 9 [wrP w] [] (wrP w) [] := by
  obtain ⟨_, _, ⟨rfl, rfl⟩, k⟩ := laws_toWriter_R w h
  refine k.far ?_
  simp [fz, fz2, fz1, cvtl, elems, wrR, wrP, hget, data1]
theorem laws_eqWriter (x y : Wt) (h : x.2.2.2.2.2.1.length ≤ 1048576) : Fn Tryz.prog 12 [wrP x, wrP y] [] (.bool (decide (x = y))) [] := by
  obtain ⟨a, b, c, d, e, L, g, o, k⟩ := x
  obtain ⟨a', b', c', d', e', L', g', o', k'⟩ := y
  simp only at h
  unfold wrP
  refine fn_x tok (n := 51) (rs := [.tmp 4]) Tryz.func12 (by decide) rfl rfl rfl rfl ?_
  refine Wr.go ?_
  repeat' ((first | (have ee := True.intro; refine Wr.mk ?_) | ((first | refine br_go ?_ ?_ | refine pick_go ?_ ?_) <;> intro ee f <;> (try simp only [BB] at f) <;> (try simp only [numOk, verOk] at f)) | (have ee := True.intro; first | refine call_x (laws_eqInt L L' (by omega)) rfl ⟨rfl⟩ ?_)) <;> (try simp (maxSteps := 1000000) (disch := first | omega | (simp only [LN, numOk, verOk, rfP, rvP, rhP, frP, elOk_en, elOk_nd, nfx_en, nfx_nd] <;> omega) | exact Ck.mk rfl) only [ee, VC, T, Nat.reduceMul, Nat.reduceAdd, Nat.reduceSub, Nat.reduceLT, Nat.reduceEqDiff, Nat.reduceLeDiff, Nat.reduceBEq, reduceCtorEq, Int.reduceToNat, ↓reduceIte, rfP, rvP, rhP, frP, elOk_en, elOk_nd, nfx_en, nfx_nd]) <;> (try clear ee))
  all_goals simp_all
theorem laws_markWriter (w : Wt) (k : Int) (h : w.2.2.2.2.2.1.length ≤ 1048576) (hk : 0 ≤ k ∧ k ≤ 1099511627776) (t : TypeId) : FnE Tryz.prog 14 [wrR 0 w, .int .i64 k] [(0, .row ⟨1, t⟩ (w.2.2.2.2.2.1.map (.int .i64)))]
    (fun r m => r = .int .i64 (k + w.2.2.2.2.2.1.length) ∧ m = [(0, .row ⟨1, t⟩ ((seqL w.2.2.2.2.2.1.length k).map (.int .i64)))]) := by
  obtain ⟨a, b, c, d, e, L, g, o, i⟩ := w
  simp only at h
  unfold wrR
  refine fn_e tok (n := 10) (rs := [.tmp 4]) Tryz.func14 (by decide) rfl rfl rfl rfl (low_of rfl) ?_
  refine Wr.go ?_
  repeat' ((first | (have ee := True.intro; refine Wr.mk ?_) | ((first | refine br_go ?_ ?_ | refine pick_go ?_ ?_) <;> intro ee f <;> (try simp only [BB] at f) <;> (try simp only [numOk, verOk] at f)) | (have ee := True.intro; first | (refine call_h [0] [] (laws_markIntS L k (by omega) (by omega) t) (by decide) rfl rfl ?_; rintro _ _ ⟨rfl, rfl⟩))) <;> (try simp (maxSteps := 1000000) (disch := first | omega | (simp only [LN, numOk, verOk, rfP, rvP, rhP, frP, elOk_en, elOk_nd, nfx_en, nfx_nd, seqL_length] <;> omega) | exact Ck.mk rfl) only [ee, VC, T, Nat.reduceMul, Nat.reduceAdd, Nat.reduceSub, Nat.reduceLT, Nat.reduceEqDiff, Nat.reduceLeDiff, Nat.reduceBEq, reduceCtorEq, Int.reduceToNat, ↓reduceIte, rfP, rvP, rhP, frP, elOk_en, elOk_nd, nfx_en, nfx_nd, seqL_length]) <;> (try clear ee))
  exact fin_t [] (⟨rfl, rfl⟩) rfl (by simp [RV, RV2, RVl, RV1, tau, tget, hget, data1, oneOf]) (by simp [RH, RVl, RV1, tau, hget, data1]) (by simp [Taus, hget])
theorem laws_heldWriter (w : Wt) (k : Int) (n : Nat) (hw : w.2.2.2.2.2.1 = seqL n k) (h : n ≤ 1048576) (hk : 0 ≤ k ∧ k ≤ 1099511627776) : Fn Tryz.prog 16 [wrP w, .int .i64 k] [] (.int .i64 (k + n)) [] := by
  obtain ⟨a, b, c, d, e, L, g, o, i⟩ := w
  simp only at hw
  subst hw
  unfold wrP
  refine fn_x tok (n := 12) (rs := [.tmp 4]) Tryz.func16 (by decide) rfl rfl rfl rfl ?_
  refine Wr.go ?_
  repeat' ((first | (have ee := True.intro; refine Wr.mk ?_) | ((first | refine br_go ?_ ?_ | refine pick_go ?_ ?_) <;> intro ee f <;> (try simp only [BB] at f) <;> (try simp only [numOk, verOk] at f)) | (have ee := True.intro; first | refine call_x (laws_heldIntS n k (by omega) hk) rfl ⟨rfl⟩ ?_)) <;> (try simp (maxSteps := 1000000) (disch := first | omega | (simp only [LN, numOk, verOk, rfP, rvP, rhP, frP, elOk_en, elOk_nd, nfx_en, nfx_nd] <;> omega) | exact Ck.mk rfl) only [ee, VC, T, Nat.reduceMul, Nat.reduceAdd, Nat.reduceSub, Nat.reduceLT, Nat.reduceEqDiff, Nat.reduceLeDiff, Nat.reduceBEq, reduceCtorEq, Int.reduceToNat, ↓reduceIte, rfP, rvP, rhP, frP, elOk_en, elOk_nd, nfx_en, nfx_nd]) <;> (try clear ee))
theorem laws_heldNodeS (n : Nat) (k : Int) (hx : n ≤ 1073741824) (hk : 0 ≤ k ∧ k ≤ 1099511627776) : Fn Tryz.prog 53 [.far (((seqL n 0).map (mkNd k)).map ndP), .int .i64 k] [] (.int .i64 (k + 3 * n)) [] := by
  have hl := seqL_length n 0
  refine fn_x tok (n := 41) (rs := [.tmp 4]) Tryz.func53 (by decide) rfl rfl rfl rfl ?_
  refine Wr.go ?_
  repeat' ((first | (have ee := True.intro; refine Wr.mk ?_) | ((first | refine br_go ?_ ?_ | refine pick_go ?_ ?_) <;> intro ee f <;> (try simp only [BB] at f) <;> (try simp only [numOk, verOk] at f))) <;> (try simp (maxSteps := 1000000) (disch := first | omega | (simp only [LN, numOk, verOk, rfP, rvP, rhP, frP, elOk_en, elOk_nd, nfx_en, nfx_nd, hl] <;> omega) | exact Ck.mk rfl) only [ee, VC, T, Nat.reduceMul, Nat.reduceAdd, Nat.reduceSub, Nat.reduceLT, Nat.reduceEqDiff, Nat.reduceLeDiff, Nat.reduceBEq, reduceCtorEq, Int.reduceToNat, ↓reduceIte, rfP, rvP, rhP, frP, elOk_en, elOk_nd, nfx_en, nfx_nd, hl]) <;> (try clear ee))
  refine lp_go (fun i : Nat => ⟨41, [(0, .far (((seqL n 0).map (mkNd k)).map ndP)), (1, .int .i64 (k + 3 * i)), (5, .int .i64 i)], []⟩) (fun i => i ≤ n) (fun i => n - i) 0 ?_ (Nat.zero_le _) ?_
  · (simp (disch := first | omega | (simp only [LN, numOk, verOk] <;> omega) | exact Ck.mk rfl) only [SB, EQ, Nat.reduceMul, Nat.reduceAdd, Nat.reduceSub, Nat.reduceLT, Nat.reduceEqDiff, Nat.reduceLeDiff, Nat.reduceBEq, reduceCtorEq, Int.reduceToNat, ↓reduceIte]; try omega)
  · intro i hi N hN
    have hg : i < n → (((seqL n 0).map (mkNd k)).map ndP).getD i .junk = .agg [.int .i64 (k + 3 * i), .str (markT (k + 3 * i + 1)), .int .i64 (k + 3 * i + 2)] := fun h => by
      have := seqL_getD (mkNd k) n 0 i h
      rw [List.getD_eq_getElem?_getD, List.getElem?_map, List.getElem?_eq_getElem (by rw [List.length_map, hl]; exact h)]
      rw [List.getD_eq_getElem?_getD, List.getElem?_eq_getElem (by rw [List.length_map, hl]; exact h)] at this
      simp only [Option.map_some, Option.getD_some] at this ⊢
      rw [this]
      simp [mkNd, ndP]
    refine Wr.go ?_
    repeat' ((first | (have ee := True.intro; refine Wr.mk ?_) | ((first | refine br_go ?_ ?_ | refine pick_go ?_ ?_) <;> intro ee f <;> (try simp only [BB] at f) <;> (try simp only [numOk, verOk] at f)) | (have ee := True.intro; first | refine dr_go mixed (id := 7) [([], [0], []), ([], [5], []), ([0, 1], [21, 22], []), ([0, 1, 2], [23], []), ([0, 1, 2, 3], [24], []), ([], [1], []), ([5], [26], []), ([0, 1, 2, 3, 4, 5, 6], [25, 27], [])] rfl rfl rfl ?_ | refine call_x (laws_markText _ (by omega)) rfl ⟨rfl⟩ ?_)) <;> (try simp (maxSteps := 1000000) (disch := first | omega | (simp only [LN, numOk, verOk, rfP, rvP, rhP, frP, elOk_en, elOk_nd, nfx_en, nfx_nd, hl, hg] <;> omega) | exact Ck.mk rfl) only [ee, VC, T, Nat.reduceMul, Nat.reduceAdd, Nat.reduceSub, Nat.reduceLT, Nat.reduceEqDiff, Nat.reduceLeDiff, Nat.reduceBEq, reduceCtorEq, Int.reduceToNat, ↓reduceIte, rfP, rvP, rhP, frP, elOk_en, elOk_nd, nfx_en, nfx_nd, hl, hg]) <;> (try clear ee))
    · refine hN (i + 1) _ (by omega) (by omega) ?_
      (simp (disch := first | omega | (simp only [LN, numOk, verOk] <;> omega) | exact Ck.mk rfl) only [SB, EQ, Nat.reduceMul, Nat.reduceAdd, Nat.reduceSub, Nat.reduceLT, Nat.reduceEqDiff, Nat.reduceLeDiff, Nat.reduceBEq, reduceCtorEq, Int.reduceToNat, ↓reduceIte]; try omega)
    · obtain rfl : i = n := by omega
      rfl
theorem laws_heldEntryS (n : Nat) (k : Int) (hx : n ≤ 1073741824) (hk : 0 ≤ k ∧ k ≤ 1099511627776) : Fn Tryz.prog 54 [.far (((seqL n 0).map (mkEt k)).map enP), .int .i64 k] [] (.int .i64 (k + 2 * n)) [] := by
  have hl := seqL_length n 0
  refine fn_x tok (n := 32) (rs := [.tmp 4]) Tryz.func54 (by decide) rfl rfl rfl rfl ?_
  refine Wr.go ?_
  repeat' ((first | (have ee := True.intro; refine Wr.mk ?_) | ((first | refine br_go ?_ ?_ | refine pick_go ?_ ?_) <;> intro ee f <;> (try simp only [BB] at f) <;> (try simp only [numOk, verOk] at f))) <;> (try simp (maxSteps := 1000000) (disch := first | omega | (simp only [LN, numOk, verOk, rfP, rvP, rhP, frP, elOk_en, elOk_nd, nfx_en, nfx_nd, hl] <;> omega) | exact Ck.mk rfl) only [ee, VC, T, Nat.reduceMul, Nat.reduceAdd, Nat.reduceSub, Nat.reduceLT, Nat.reduceEqDiff, Nat.reduceLeDiff, Nat.reduceBEq, reduceCtorEq, Int.reduceToNat, ↓reduceIte, rfP, rvP, rhP, frP, elOk_en, elOk_nd, nfx_en, nfx_nd, hl]) <;> (try clear ee))
  refine lp_go (fun i : Nat => ⟨32, [(0, .far (((seqL n 0).map (mkEt k)).map enP)), (1, .int .i64 (k + 2 * i)), (5, .int .i64 i)], []⟩) (fun i => i ≤ n) (fun i => n - i) 0 ?_ (Nat.zero_le _) ?_
  · (simp (disch := first | omega | (simp only [LN, numOk, verOk] <;> omega) | exact Ck.mk rfl) only [SB, EQ, Nat.reduceMul, Nat.reduceAdd, Nat.reduceSub, Nat.reduceLT, Nat.reduceEqDiff, Nat.reduceLeDiff, Nat.reduceBEq, reduceCtorEq, Int.reduceToNat, ↓reduceIte]; try omega)
  · intro i hi N hN
    have hg : i < n → (((seqL n 0).map (mkEt k)).map enP).getD i .junk = .agg [.str (markT (k + 2 * i)), .int .i64 (k + 2 * i + 1)] := fun h => by
      have := seqL_getD (mkEt k) n 0 i h
      rw [List.getD_eq_getElem?_getD, List.getElem?_map, List.getElem?_eq_getElem (by rw [List.length_map, hl]; exact h)]
      rw [List.getD_eq_getElem?_getD, List.getElem?_eq_getElem (by rw [List.length_map, hl]; exact h)] at this
      simp only [Option.map_some, Option.getD_some] at this ⊢
      rw [this]
      simp [mkEt, enP]
    refine Wr.go ?_
    repeat' ((first | (have ee := True.intro; refine Wr.mk ?_) | ((first | refine br_go ?_ ?_ | refine pick_go ?_ ?_) <;> intro ee f <;> (try simp only [BB] at f) <;> (try simp only [numOk, verOk] at f)) | (have ee := True.intro; first | refine dr_go mixed (id := 4) [([], [0], []), ([], [5], []), ([0, 1], [12, 13], []), ([0, 1, 2], [14], []), ([0, 1, 2, 3], [15], []), ([], [1], []), ([5], [17], []), ([0, 1, 2, 3, 4, 5, 6], [16, 18], [])] rfl rfl rfl ?_ | refine call_x (laws_markText _ (by omega)) rfl ⟨rfl⟩ ?_)) <;> (try simp (maxSteps := 1000000) (disch := first | omega | (simp only [LN, numOk, verOk, rfP, rvP, rhP, frP, elOk_en, elOk_nd, nfx_en, nfx_nd, hl, hg] <;> omega) | exact Ck.mk rfl) only [ee, VC, T, Nat.reduceMul, Nat.reduceAdd, Nat.reduceSub, Nat.reduceLT, Nat.reduceEqDiff, Nat.reduceLeDiff, Nat.reduceBEq, reduceCtorEq, Int.reduceToNat, ↓reduceIte, rfP, rvP, rhP, frP, elOk_en, elOk_nd, nfx_en, nfx_nd, hl, hg]) <;> (try clear ee))
    · refine hN (i + 1) _ (by omega) (by omega) ?_
      (simp (disch := first | omega | (simp only [LN, numOk, verOk] <;> omega) | exact Ck.mk rfl) only [SB, EQ, Nat.reduceMul, Nat.reduceAdd, Nat.reduceSub, Nat.reduceLT, Nat.reduceEqDiff, Nat.reduceLeDiff, Nat.reduceBEq, reduceCtorEq, Int.reduceToNat, ↓reduceIte]; try omega)
    · obtain rfl : i = n := by omega
      rfl
/-- A disk as it is when it has been marked. -/
def mkDk (a b c d : Nat) (k r x : Int) : Dk := ((seqL a 0).map (mkNd k), (seqL b 0).map (mkEt (k + 3 * a)), (seqL c 0).map (mkEt (k + 3 * a + 2 * b)), (seqL d (k + 3 * a + 2 * b + 2 * c)).map markT, r, x)
theorem laws_heldDisk (a b c d : Nat) (k r x : Int) (ha : a ≤ 1048576) (hb : b ≤ 1048576) (hc : c ≤ 1048576) (hd : d ≤ 1048576) (hk : 0 ≤ k ∧ k ≤ 1073741824) : Fn Tryz.prog 15 [dkP (mkDk a b c d k r x), .int .i64 k] [] (.int .i64 (k + 3 * a + 2 * b + 2 * c + d)) [] := by
  unfold dkP mkDk
  refine fn_x tok (n := 30) (rs := [.tmp 4]) Tryz.func15 (by decide) rfl rfl rfl rfl ?_
  refine Wr.go ?_
  repeat' ((first | (have ee := True.intro; refine Wr.mk ?_) | ((first | refine br_go ?_ ?_ | refine pick_go ?_ ?_) <;> intro ee f <;> (try simp only [BB] at f) <;> (try simp only [numOk, verOk] at f)) | (have ee := True.intro; first | refine call_x (laws_heldNodeS a k (by omega) (by omega)) rfl ⟨rfl⟩ ?_ | refine call_x (laws_heldEntryS b _ (by omega) (by omega)) rfl ⟨rfl⟩ ?_ | refine call_x (laws_heldEntryS c _ (by omega) (by omega)) rfl ⟨rfl⟩ ?_ | refine call_x (laws_heldStringS d _ (by omega) (by omega)) rfl ⟨rfl⟩ ?_)) <;> (try simp (maxSteps := 1000000) (disch := first | omega | (simp only [LN, numOk, verOk, rfP, rvP, rhP, frP, elOk_en, elOk_nd, nfx_en, nfx_nd] <;> omega) | exact Ck.mk rfl) only [ee, VC, T, Nat.reduceMul, Nat.reduceAdd, Nat.reduceSub, Nat.reduceLT, Nat.reduceEqDiff, Nat.reduceLeDiff, Nat.reduceBEq, reduceCtorEq, Int.reduceToNat, ↓reduceIte, rfP, rvP, rhP, frP, elOk_en, elOk_nd, nfx_en, nfx_nd]) <;> (try clear ee))
end Go.Pv

/- A slice that is only read and has no elements, looked at as a value. -/
namespace Go.Pv
open Go.RowKit

theorem Fn.far0 {P : Program} {f : FuncId} {ha hr : Hp} {res : PV} {ys : List PV} (h : ∀ a c, Fn P f (.raw (.slice a 0 c) :: ys) ha res hr) : Fn P f (.far [] :: ys) ha res hr := ⟨(h none 0).ent, fun w V Γ vs hv hs hA hH hD => by
  obtain ⟨a, c, e⟩ : ∃ a c, vs.getD 0 undef = .slice a 0 c := by
    have k := hA 0 _ rfl
    generalize vs.getD 0 undef = q at k
    cases k with
    | data k => cases k with
      | far0 a c => exact ⟨a, c, rfl⟩
      | far => exact ⟨_, _, rfl⟩
  exact (h a c).run w V Γ vs hv hs (fun i x hx => by
    cases i with
    | zero => cases hx; rw [e]; exact .data (.raw _)
    | succ i => exact hA (i + 1) x (by simpa using hx)) hH hD⟩
end Go.Pv

/- A view of one's own row, from its first element on, handed back as a row that is shorter. -/
namespace Go.Pv
open Go.RowKit

theorem addr_zero (a : Option Addr) (z : Nat) : a.map (·.add (0 * z)) = a := by
  cases a with
  | none => rfl
  | some a => obtain ⟨b, o, v⟩ := a; simp [Addr.add]

theorem hget_one (q : HC) (j k : Nat) (h : k ≠ j) : hget [(j, q)] k = none := by simp [hget, h]
theorem live_one {q : HC} {j k : Nat} (h : live [(j, q)] k) : k = j := by
  by_cases e : k = j
  · exact e
  · unfold live at h; rw [hget_one q j k e] at h; exact h.elim

theorem Fn.cut {P : Program} {f : FuncId} {args : List PV} {ha : Hp} {sz : Sz} {xs : List PV} {n m : Nat} (h : Fn P f args ha (.view 0 n 0 m) [(0, .row sz xs)]) (hn : n = xs.length) (h1 : hget ha 64 = none) :
    Fn P f args ha (.row 64 m) [(64, .row sz (xs.take m))] := ⟨h.ent, fun w V Γ vs hv hs hA hH hD => by
  refine (h.run w V Γ vs hv hs hA hH hD).mono ?_
  rintro e w' ⟨v, Γ', he, hk, hvr, hhr, hdis, how, hst⟩
  have hg0 : hget [(0, HC.row sz xs)] 0 = some (.row sz xs) := rfl
  have hg1 : hget [(64, HC.row sz (xs.take m))] 64 = some (.row sz (xs.take m)) := rfl
  obtain ⟨_, hhi, a, cap, hΓ, hvv⟩ : 0 ≤ m ∧ m ≤ n ∧ ∃ a cap, Γ' 0 = .slice a n cap ∧ v = .slice (if cap = 0 then a else a.map (·.add (0 * sz))) (m - 0) (cap - 0) := by
    cases hvr with
    | data h => cases h
    | view _ _ _ _ _ _ _ h5 => exact (h5 _ _ hg0).2 hn
  have hvv : v = .slice a m cap := by rw [hvv, addr_zero]; simp
  have live0 : live [(0, HC.row sz xs)] 0 := by unfold live; rw [hg0]; trivial
  have live1 : live [(64, HC.row sz (xs.take m))] 64 := by unfold live; rw [hg1]; trivial
  obtain ⟨Γ'', e1⟩ : ∃ Γ'' : Nat → Value, Γ'' 64 = v := ⟨fun _ => v, rfl⟩
  have hob : ob v = ob (Γ' 0) := by rw [hvv, hΓ]; cases a <;> rfl
  have ow : ∀ b, Ow Γ'' [(64, HC.row sz (xs.take m))] b → Ow Γ' [(0, HC.row sz xs)] b := fun b ⟨k, l, o⟩ => by
    obtain rfl := live_one l
    exact ⟨0, live0, by rw [← hob, ← e1]; exact o⟩
  have lift : ∀ x y, DR w' (Av V Γ' [(0, HC.row sz xs)]) x y → DR w' (Av V Γ'' [(64, HC.row sz (xs.take m))]) x y := fun x y h => h.step (fun _ _ _ => rfl) fun b _ hb => hb.elim .inl fun hb => .inr (ow b hb)
  have hl : (xs.take m).length = m := by rw [List.length_take]; omega
  refine ⟨v, Γ'', he, hk, .row 64 m v (by rw [hvv]; rfl) (by rw [hg1]; simp) fun sz' xs' h' => ?_, fun k => ?_, fun k k' b l l' _ _ => (live_one l).trans (live_one l').symm, fun b hb => how b (ow b hb), fun k l1 l2 _ => ?_⟩
  · rw [hg1] at h'
    cases h'
    exact ⟨by omega, fun _ => e1.symm⟩
  · by_cases ek : k = 64
    · subst ek
      have h0 := hhr 0
      unfold HR at h0 ⊢
      rw [hg0] at h0
      rw [hg1]
      dsimp only at h0 ⊢
      refine ⟨h0.1, ?_⟩
      rcases h0.2 with ⟨x1, x2⟩ | ⟨β, o, cap', c, et, fr, k1, k2, kq, k3, k4, k5, k6, k7⟩
      · subst x1
        rw [hΓ] at x2
        cases x2
        have hm0 : m = 0 := by simp at hn; omega
        subst hm0
        exact .inl ⟨by simp, by rw [e1, hvv]⟩
      · rw [hΓ] at k1
        have k1' := k1
        simp only [Value.slice.injEq] at k1'
        obtain ⟨rfl, _, rfl⟩ := k1'
        refine .inr ⟨β, o, cap, c, et, fr, by rw [e1, hvv, hl], k2, kq, by omega, k4, k5, fun i x hx => ?_, fun i x j y hx hy => ?_⟩
        · rw [List.getElem?_take] at hx
          split at hx
          · exact k6 i x hx
          · cases hx
        · rw [List.getElem?_take] at hx
          split at hx
          · exact lift _ _ (k7 i x j y hx hy)
          · cases hx
    · unfold HR
      rw [hget_one _ 64 k ek]
      trivial
  · obtain rfl := live_one l2
    unfold live at l1
    rw [h1] at l1
    exact l1.elim⟩
end Go.Pv

/- The program's own steps on entries, in plain numbers: on entries in order they are the reference's. -/
namespace Go.Mth
open Go.RowKit
set_option linter.unusedVariables false

/-- Entries in which a name stands for a node: in its place, or ahead of the first greater name. -/
def putI : List Et → ByteArray → Int → List Et
  | [], n, i => [(n, i)]
  | x :: r, n, i => if x.1 = n then (n, i) :: r else if sLt n x.1 = true then (n, i) :: x :: r else x :: putI r n i
def dropI : List Et → ByteArray → List Et
  | [], _ => []
  | x :: r, n => if x.1 = n then r else x :: dropI r n
def Asc (L : List Et) : Prop := (L.map (·.1)).Pairwise fun a b => sLt a b = true
theorem Asc.tail {x : Et} {L : List Et} (h : Asc (x :: L)) : Asc L := (List.pairwise_cons.1 h).2
theorem Asc.head {x : Et} {L : List Et} (h : Asc (x :: L)) : ∀ y ∈ L, sLt x.1 y.1 = true := fun y hy => (List.pairwise_cons.1 h).1 y.1 (List.mem_map.2 ⟨y, hy, rfl⟩)
theorem bl_irr : ∀ a : List UInt8, Op.bytesLess a a = false
  | [] => rfl
  | x :: a => by
    simp only [Op.bytesLess, bl_irr a, Bool.and_false, Bool.or_false]
    exact decide_eq_false (fun h => by exact absurd h (UInt8.lt_irrefl x))
theorem sLt_irr (a : ByteArray) : sLt a a = false := bl_irr _
theorem sLt_ne {a b : ByteArray} (h : sLt a b = true) : a ≠ b := fun e => by rw [e, sLt_irr] at h; exact Bool.noConfusion h
theorem sLt_asym {a b : ByteArray} (h : sLt a b = true) : sLt b a = false := by
  cases hb : sLt b a with
  | false => rfl
  | true => have := sLt_trans h hb; rw [sLt_irr] at this; exact Bool.noConfusion this
theorem bl_tri : ∀ a b : List UInt8, Op.bytesLess a b = false → Op.bytesLess b a = false → a = b
  | [], [], _, _ => rfl
  | [], _ :: _, h, _ => by simp [Op.bytesLess] at h
  | _ :: _, [], _, h => by simp [Op.bytesLess] at h
  | x :: a, y :: b, h1, h2 => by
    simp only [Op.bytesLess, Bool.or_eq_false_iff, Bool.and_eq_false_iff, decide_eq_false_iff_not, beq_eq_false_iff_ne] at h1 h2
    have e : x = y := by
      have h3 := h1.1
      have h4 := h2.1
      exact UInt8.le_antisymm (UInt8.not_lt.1 h4) (UInt8.not_lt.1 h3)
    subst e
    rw [bl_tri a b (h1.2.resolve_left fun k => k rfl) (h2.2.resolve_left fun k => k rfl)]
/-- Behind its place nothing stands for the name any more. -/
theorem putG_done (e : Et) : ∀ L : List Et, (∀ y ∈ L, sLt e.1 y.1 = true) → putG e true L = L
  | [], _ => rfl
  | y :: L, h => by
    have h1 := h y List.mem_cons_self
    unfold putG
    rw [if_neg (by simp), if_neg (fun k => sLt_ne h1 k.symm), Bool.true_or, putG_done e L (fun z hz => h z (List.mem_cons_of_mem _ hz))]
    rfl
theorem putI_eq (n : ByteArray) (i : Int) : ∀ L : List Et, Asc L → putI L n i = putT L (n, i)
  | [], _ => rfl
  | x :: L, h => by
    have ih := putI_eq n i L h.tail
    have hh := h.head
    unfold putT at ih ⊢
    unfold putI putG
    by_cases hx : x.1 = n
    · rw [if_pos hx, if_pos ⟨rfl, by rw [hx]; exact sLt_irr n⟩, if_pos hx]
      have e : sLt x.1 (n, i).1 = false := by rw [hx]; exact sLt_irr n
      rw [e, Bool.not_false, Bool.or_true, putG_done _ L (fun y hy => by rw [← hx]; exact hh y hy)]
      rfl
    · rw [if_neg hx, if_neg hx]
      by_cases hl : sLt n x.1 = true
      · have e : sLt x.1 (n, i).1 = false := sLt_asym hl
        rw [if_pos hl, if_pos ⟨rfl, e⟩, e, Bool.not_false, Bool.or_true, putG_done _ L (fun y hy => sLt_trans hl (hh y hy))]
        rfl
      · have e : sLt x.1 (n, i).1 = true := by
          cases hb : sLt x.1 n with
          | true => rfl
          | false =>
            exfalso
            have hl : sLt n x.1 = false := by simpa using hl
            have := bl_tri _ _ hb hl
            rw [ByteArray.toList_eq, ByteArray.toList_eq] at this
            exact hx (bytesOf_inj (by unfold bytesOf; rw [this]))
        rw [if_neg hl, if_neg (fun k => by rw [e] at k; exact Bool.noConfusion k.2), e, Bool.not_true, Bool.or_false, ih]
        rfl
theorem dropT_none (n : ByteArray) (L : List Et) (h : ∀ y ∈ L, y.1 ≠ n) : dropT L n = L := List.filter_eq_self.2 fun y hy => decide_eq_true (h y hy)
theorem dropI_eq (n : ByteArray) : ∀ L : List Et, Asc L → dropI L n = dropT L n
  | [], _ => rfl
  | x :: L, h => by
    have ih := dropI_eq n L h.tail
    have hh := h.head
    unfold dropI
    by_cases hx : x.1 = n
    · rw [if_pos hx]
      have : dropT (x :: L) n = dropT L n := List.filter_cons_of_neg (by simp [hx])
      rw [this, dropT_none n L (fun y hy k => sLt_ne (hh y hy) (hx.trans k.symm))]
    · rw [if_neg hx, ih]
      exact (List.filter_cons_of_pos (by simp [hx])).symm
theorem dropT_asc {L : List Et} (n : ByteArray) (h : Asc L) : Asc (dropT L n) := by
  unfold Asc dropT at *
  exact h.sublist ((List.filter_sublist).map _)

/-! ### a step of the program -/
def cutI (s : ByteArray) : ByteArray × ByteArray × Bool := if 0 ≤ colI s then (s.extract 1 (colI s).toNat, s.extract ((colI s).toNat + 1) s.size, true) else (s.extract 1 s.size, ⟨#[]⟩, false)
/-- The entries behind a step, as the program makes them. -/
def stI (L : List Et) (s : ByteArray) : Option (List Et) :=
  if s.size = 0 then none
  else if bt s 0 = 43 then (if (cutI s).2.2 = true ∧ (rdec (cutI s).2.1).2 = true ∧ nmOk (cutI s).1 then some (putI L (cutI s).1 (rdec (cutI s).2.1).1) else none)
  else if bt s 0 = 45 then (if hasT L (s.extract 1 s.size) ∧ nmOk (s.extract 1 s.size) then some (dropI L (s.extract 1 s.size)) else none)
  else if bt s 0 = 62 then (if (cutI s).2.2 = true ∧ (hasT L (cutI s).1 ∧ nmOk (cutI s).1) ∧ nmOk (cutI s).2.1 ∧ (cutI s).1 ≠ (cutI s).2.1 then some (putI (dropI L (cutI s).1) (cutI s).2.1 (entT L (cutI s).1)) else none)
  else none
theorem nmOk_pos {b : ByteArray} (h : nmOk b) : 0 < b.size := by have := h.2.1; omega
theorem colI_lt (s : ByteArray) (h : 0 ≤ colI s) : 1 ≤ colI s ∧ colI s < s.size := by
  unfold colI at *
  rcases findI_cases (fun x : Int => decide (x = 58)) ((bytesOf s).drop 1) 1 with ⟨h1, _⟩ | ⟨k, h1, h2, _, _⟩
  · omega
  · rw [List.length_drop, bytesOf_length] at h2
    omega
theorem stI_eq (L : List Et) (s : ByteArray) (h : Asc L) : stI L s = sdT L s := by
  have hp := fun n i => putI_eq n i L h
  have hd := fun n => dropI_eq n L h
  have hpd := fun m n i => putI_eq n i (dropT L m) (dropT_asc m h)
  unfold stI
  by_cases h0 : s.size = 0
  · rw [if_pos h0]
    exact (sdT_no L s (.inl (by rw [stT_A s (.inl (by omega))]))).symm
  · rw [if_neg h0]
    by_cases hc : 0 ≤ colI s
    · obtain ⟨c1, c2⟩ := colI_lt s hc
      obtain ⟨c, hcc⟩ : ∃ c : Nat, colI s = c := ⟨_, (Int.toNat_of_nonneg hc).symm⟩
      have hcut : cutI s = (s.extract 1 c, s.extract (c + 1) s.size, true) := by unfold cutI; rw [if_pos hc, hcc, Int.toNat_natCast]
      rw [hcut]
      simp only
      by_cases h43 : bt s 0 = 43
      · rw [if_pos h43]
        have hst := stT_E s (by unfold stNo; omega) h43 c hcc
        by_cases q : (rdec (s.extract (c + 1) s.size)).2 = true ∧ nmOk (s.extract 1 c)
        · rw [if_pos ⟨trivial, q.1, q.2⟩, hp, sdT_43 L s (by rw [hst]; simp [q.1, q.2]) (by rw [hst]; exact q.2) h43, hst]
        · rw [if_neg (fun k => q ⟨k.2.1, k.2.2⟩)]
          refine (sdT_no L s (.inl ?_)).symm
          rw [hst]
          simp only [Bool.and_eq_false_iff, decide_eq_false_iff_not]
          by_cases q1 : (rdec (s.extract (c + 1) s.size)).2 = true
          · exact .inr fun k => q ⟨q1, k⟩
          · exact .inl (by simpa using q1)
      · rw [if_neg h43]
        by_cases h45 : bt s 0 = 45
        · rw [if_pos h45]
          have hst := stT_B s (by unfold stNo; omega) h45
          by_cases q : hasT L (s.extract 1 s.size) ∧ nmOk (s.extract 1 s.size)
          · rw [if_pos q, hd, sdT_45 L s (by rw [hst]) (by rw [hst]; exact q.2) h45 (by rw [hst]; exact q.1), hst]
          · rw [if_neg q]
            refine (sdT_no L s ?_).symm
            rw [hst]
            by_cases q1 : nmOk (s.extract 1 s.size)
            · exact .inr (.inr ⟨h43, fun k => q ⟨k, q1⟩⟩)
            · exact .inr (.inl q1)
        · rw [if_neg h45]
          by_cases h62 : bt s 0 = 62
          · rw [if_pos h62]
            have hst := stT_D s (by unfold stNo; omega) h62 c hcc
            by_cases q : (hasT L (s.extract 1 c) ∧ nmOk (s.extract 1 c)) ∧ nmOk (s.extract (c + 1) s.size) ∧ s.extract 1 c ≠ s.extract (c + 1) s.size
            · rw [if_pos ⟨trivial, q⟩, hd, hpd, sdT_62 L s (by rw [hst]; simp [q.2.1, q.2.2]) (by rw [hst]; exact q.1.2) h62 (by rw [hst]; exact q.1.1), hst]
            · rw [if_neg (fun k => q k.2)]
              refine (sdT_no L s ?_).symm
              rw [hst]
              simp only [Bool.and_eq_false_iff, decide_eq_false_iff_not, Bool.not_eq_false', decide_eq_true_eq]
              by_cases q1 : nmOk (s.extract 1 c)
              · by_cases q2 : hasT L (s.extract 1 c)
                · by_cases q3 : nmOk (s.extract (c + 1) s.size)
                  · exact .inl (.inr (Classical.byContradiction fun k => q ⟨⟨q2, q1⟩, q3, k⟩))
                  · exact .inl (.inl q3)
                · exact .inr (.inr ⟨h43, q2⟩)
              · exact .inr (.inl q1)
          · rw [if_neg h62]
            exact (sdT_no L s (.inl (by rw [stT_A s (.inr ⟨h43, h45, h62⟩)]))).symm
    · have hcm : colI s = -1 := by
        unfold colI at *
        rcases findI_cases (fun x : Int => decide (x = 58)) ((bytesOf s).drop 1) 1 with ⟨h1, _⟩ | ⟨k, h1, _⟩
        · exact h1
        · omega
      have hcut : cutI s = (s.extract 1 s.size, ⟨#[]⟩, false) := if_neg hc
      rw [hcut]
      simp only
      by_cases h43 : bt s 0 = 43
      · rw [if_pos h43, if_neg (fun k => Bool.noConfusion k.1)]
        by_cases hs : stNo s
        · exact (sdT_no L s (.inl (by rw [stT_A s hs]))).symm
        · exact (sdT_no L s (.inl (by rw [stT_C s hs (by omega) hcm]))).symm
      · rw [if_neg h43]
        by_cases h45 : bt s 0 = 45
        · rw [if_pos h45]
          by_cases hs : stNo s
          · have h1 : s.size = 1 := by unfold stNo at hs; omega
            rw [if_neg (fun k => by have := nmOk_pos k.2; rw [ByteArray.size_extract] at this; omega)]
            exact (sdT_no L s (.inl (by rw [stT_A s hs]))).symm
          · have hst := stT_B s hs h45
            by_cases q : hasT L (s.extract 1 s.size) ∧ nmOk (s.extract 1 s.size)
            · rw [if_pos q, hd, sdT_45 L s (by rw [hst]) (by rw [hst]; exact q.2) h45 (by rw [hst]; exact q.1), hst]
            · rw [if_neg q]
              refine (sdT_no L s ?_).symm
              rw [hst]
              by_cases q1 : nmOk (s.extract 1 s.size)
              · exact .inr (.inr ⟨h43, fun k => q ⟨k, q1⟩⟩)
              · exact .inr (.inl q1)
        · rw [if_neg h45]
          by_cases h62 : bt s 0 = 62
          · rw [if_pos h62, if_neg (fun k => Bool.noConfusion k.1)]
            by_cases hs : stNo s
            · exact (sdT_no L s (.inl (by rw [stT_A s hs]))).symm
            · exact (sdT_no L s (.inl (by rw [stT_C s hs (by omega) hcm]))).symm
          · rw [if_neg h62]
            exact (sdT_no L s (.inl (by rw [stT_A s (.inr ⟨h43, h45, h62⟩)]))).symm

/-! ### right disks, as the program looks -/
def okGo (d : Dk) : List Et → List ByteArray → Prop
  | L, [] => entsOk d L ∧ L = d.2.1
  | L, s :: r => entsOk d L ∧ match stI L s with
    | some M => okGo d M r
    | none => False
theorem okGo_iff (d : Dk) : ∀ (S : List ByteArray) (L : List Et), okGo d L S ↔ ∀ k : Nat, k < S.length + 1 → (sgT L (S.take k)).2 = true ∧ entsOk d (sgT L (S.take k)).1 ∧ (k = S.length → (sgT L (S.take k)).1 = d.2.1)
  | [], L => by
    constructor
    · rintro ⟨h1, h2⟩ k hk
      rw [List.take_nil]
      exact ⟨rfl, h1, fun _ => h2⟩
    · intro h
      obtain ⟨_, h2, h3⟩ := h 0 (by simp)
      exact ⟨h2, h3 rfl⟩
  | s :: r, L => by
    have ih := okGo_iff d r
    have hs : ∀ k, sgT L ((s :: r).take (k + 1)) = match sdT L s with
      | some L2 => sgT L2 (r.take k)
      | none => ([], false) := fun k => rfl
    unfold okGo
    constructor
    · rintro ⟨h1, h2⟩ k hk
      rw [stI_eq L s (entsOk_pairs h1)] at h2
      cases k with
      | zero => exact ⟨rfl, h1, fun e => by simp at e⟩
      | succ k =>
        rw [hs]
        cases hd : sdT L s with
        | none => rw [hd] at h2; exact h2.elim
        | some M =>
          rw [hd] at h2
          rw [List.length_cons] at hk
          have := (ih M).1 h2 k (by omega)
          exact ⟨this.1, this.2.1, fun e => this.2.2 (by rw [List.length_cons] at e; omega)⟩
    · intro h
      have h1 := (h 0 (by simp)).2.1
      have h1 : entsOk d L := h1
      refine ⟨h1, ?_⟩
      rw [stI_eq L s (entsOk_pairs h1)]
      cases hd : sdT L s with
      | none =>
        have := (h 1 (by simp)).1
        rw [hs, hd] at this
        exact Bool.noConfusion this
      | some M =>
        refine (ih M).2 fun k hk => ?_
        have := h (k + 1) (by rw [List.length_cons]; omega)
        rw [hs, hd] at this
        exact ⟨this.1, this.2.1, fun e => this.2.2 (by rw [List.length_cons]; omega)⟩
theorem stepsOk_go (d : Dk) : stepsOk d ↔ okGo d d.2.2.1 d.2.2.2.1 := (okGo_iff d d.2.2.2.1 d.2.2.1).symm
end Go.Mth

/- What functions of the program and of the reference do, in plain values. -/
namespace Go.Pv
open Go.Proofs Go.Mth
set_option linter.unusedSimpArgs false
set_option linter.unusedVariables false
set_option maxHeartbeats 4000000
set_option maxRecDepth 4000

/-! ### the program's looks at disks: names, nodes, entries -/
theorem impl_NameOk (b : ByteArray) (hb : b.size ≤ 9223372036854775807) : Fn Tryz.prog 162 [.str b] [] (.bool (decide (nmOk b))) [] := by
  have hlast : (∀ i : Nat, i < b.size → nmB (bt b i)) → nmOk b = (1 ≤ (b.size : Int) ∧ (b.size : Int) ≤ 20) := fun h => propext ⟨fun q => by have := q.2; omega, fun q => ⟨h, by omega⟩⟩
  have hno : ∀ i : Nat, i < b.size → ¬ nmB (bt b i) → nmOk b = False := fun i hi h => propext ⟨fun q => h (q.1 i hi), False.elim⟩
  refine fn_x tok (n := 40) (rs := [.tmp 2]) Tryz.func162 (by decide) rfl rfl rfl rfl ?_
  refine Wr.go ?_
  repeat' ((first | (have ee := True.intro; refine Wr.mk ?_) | ((first | refine br_go ?_ ?_ | refine pick_go ?_ ?_) <;> intro ee f <;> (try simp only [BB] at f) <;> (try simp only [numOk, verOk] at f))) <;> (try simp (maxSteps := 1000000) (disch := first | omega | (simp only [LN, numOk, verOk, rfP, rvP, rhP, frP, elOk_en, elOk_nd, nfx_en, nfx_nd] <;> omega) | exact Ck.mk rfl) only [ee, VC, T, Nat.reduceMul, Nat.reduceAdd, Nat.reduceSub, Nat.reduceLT, Nat.reduceEqDiff, Nat.reduceLeDiff, Nat.reduceBEq, reduceCtorEq, Int.reduceToNat, ↓reduceIte, rfP, rvP, rhP, frP, elOk_en, elOk_nd, nfx_en, nfx_nd]) <;> (try clear ee))
  refine lp_go (fun i : Nat => ⟨40, [(0, .str b), (6, .int .i64 b.size), (7, .int .i64 i)], []⟩) (fun i => i ≤ b.size ∧ ∀ j : Nat, j < i → nmB (bt b j)) (fun i => b.size - i) 0 ?_ ⟨Nat.zero_le _, fun j h => by omega⟩ ?_
  · (simp (disch := first | omega | (simp only [LN, numOk, verOk] <;> omega) | exact Ck.mk rfl) only [SB, EQ, Nat.reduceMul, Nat.reduceAdd, Nat.reduceSub, Nat.reduceLT, Nat.reduceEqDiff, Nat.reduceLeDiff, Nat.reduceBEq, reduceCtorEq, Int.reduceToNat, ↓reduceIte]; try omega)
  · rintro i ⟨h1, h2⟩ N hN
    have hno := hno i
    have hr := bt_range b i
    have hnx : nmB (bt b i) → ∀ j : Nat, j < i + 1 → nmB (bt b j) := fun h j hj => by
      by_cases e : j = i
      · rw [e]; exact h
      · exact h2 j (by omega)
    have hB : nmB (bt b i) = ((97 ≤ bt b i ∧ bt b i ≤ 122) ∨ (48 ≤ bt b i ∧ bt b i ≤ 57) ∨ bt b i = 46 ∨ bt b i = 45) := rfl
    refine Wr.go ?_
    repeat' ((first | (have ee := True.intro; refine Wr.mk ?_) | ((first | refine br_go ?_ ?_ | refine pick_go ?_ ?_) <;> intro ee f <;> (try simp only [BB] at f) <;> (try simp only [numOk, verOk] at f)) | (have ee := True.intro; first | refine call_x (impl_within _ _ _) rfl ⟨rfl⟩ ?_)) <;> (try simp (maxSteps := 1000000) (disch := first | omega | (simp only [LN, numOk, verOk, rfP, rvP, rhP, frP, elOk_en, elOk_nd, nfx_en, nfx_nd] <;> omega) | exact Ck.mk rfl) only [ee, VC, T, Nat.reduceMul, Nat.reduceAdd, Nat.reduceSub, Nat.reduceLT, Nat.reduceEqDiff, Nat.reduceLeDiff, Nat.reduceBEq, reduceCtorEq, Int.reduceToNat, ↓reduceIte, rfP, rvP, rhP, frP, elOk_en, elOk_nd, nfx_en, nfx_nd]) <;> (try clear ee))
    all_goals first
      | (refine hN (i + 1) _ ⟨by omega, hnx (by rw [hB]; omega)⟩ (by omega) ?_
         (simp (disch := first | omega | (simp only [LN, numOk, verOk] <;> omega) | exact Ck.mk rfl) only [SB, EQ, Nat.reduceMul, Nat.reduceAdd, Nat.reduceSub, Nat.reduceLT, Nat.reduceEqDiff, Nat.reduceLeDiff, Nat.reduceBEq, reduceCtorEq, Int.reduceToNat, ↓reduceIte]; try omega))
      | (have e := hno (by omega) (by rw [hB]; omega)
         simp only [e, decide_false])
      | (have e := hlast (by
           obtain rfl : i = b.size := by omega
           exact h2)
         simp only [e])
theorem impl_UsedOn (d : Dk) (h : DkW d) : Fn Tryz.prog 88 [dkP d] [] (.int .i64 (usedT d)) [] := by
  have hns := h.ns
  have hnt := h.nt
  unfold usedT
  obtain ⟨ns, es, os, ss, r, x⟩ := d
  simp only at *
  unfold dkP
  refine fn_x tok (n := 20) (rs := [.tmp 2]) Tryz.func88 (by decide) rfl rfl rfl rfl ?_
  refine Wr.go ?_
  repeat' ((first | (have ee := True.intro; refine Wr.mk ?_) | ((first | refine br_go ?_ ?_ | refine pick_go ?_ ?_) <;> intro ee f <;> (try simp only [BB] at f) <;> (try simp only [numOk, verOk] at f))) <;> (try simp (maxSteps := 1000000) (disch := first | omega | (simp only [LN, numOk, verOk, rfP, rvP, rhP, frP, elOk_en, elOk_nd, nfx_en, nfx_nd] <;> omega) | exact Ck.mk rfl) only [ee, VC, T, Nat.reduceMul, Nat.reduceAdd, Nat.reduceSub, Nat.reduceLT, Nat.reduceEqDiff, Nat.reduceLeDiff, Nat.reduceBEq, reduceCtorEq, Int.reduceToNat, ↓reduceIte, rfP, rvP, rhP, frP, elOk_en, elOk_nd, nfx_en, nfx_nd]) <;> (try clear ee))
  refine lp_go (fun i : Nat => ⟨20, [(1, .ref 128 0), (3, .int .i64 ((ns.take i).map fun x => (x.2.1.size : Int)).sum), (7, .far (ns.map ndP)), (8, .int .i64 ns.length), (9, .int .i64 i)], [(128, .box 35 [.far (ns.map ndP), .far (es.map enP), .far (os.map enP), .far (ss.map .str), .int .i64 r, .int .i64 x])]⟩) (fun i => i ≤ ns.length ∧ 0 ≤ ((ns.take i).map fun x => (x.2.1.size : Int)).sum ∧ ((ns.take i).map fun x => (x.2.1.size : Int)).sum ≤ 1073741824 * i) (fun i => ns.length - i) 0 ?_ ⟨Nat.zero_le _, Int.le_refl _, Int.le_refl _⟩ ?_
  · (simp (disch := first | omega | (simp only [LN, numOk, verOk] <;> omega) | exact Ck.mk rfl) only [SB, EQ, Nat.reduceMul, Nat.reduceAdd, Nat.reduceSub, Nat.reduceLT, Nat.reduceEqDiff, Nat.reduceLeDiff, Nat.reduceBEq, reduceCtorEq, Int.reduceToNat, ↓reduceIte]; try omega)
    try rfl
  · rintro i ⟨hi, hs1, hs2⟩ N hN
    have hg : i < ns.length → (ns.map ndP).getD i .junk = .agg [.int .i64 (ns.getD i default).1, .str (ns.getD i default).2.1, .int .i64 (ns.getD i default).2.2] := fun h => by
      rw [List.getD_eq_getElem?_getD, List.getElem?_map, List.getElem?_eq_getElem h, List.getD_eq_getElem?_getD, List.getElem?_eq_getElem h]; rfl
    have hsn : i < ns.length → ((ns.take (i + 1)).map fun x => (x.2.1.size : Int)).sum = ((ns.take i).map fun x => (x.2.1.size : Int)).sum + (ns.getD i default).2.1.size := fun h => by
      rw [take_snoc default ns i h, List.map_append, List.sum_append]
      simp [rdOf]
    have hz : i < ns.length → (ns.getD i default).2.1.size ≤ 1073741824 := fun h => by
      rw [List.getD_eq_getElem?_getD, List.getElem?_eq_getElem h]; exact hnt _ (List.getElem_mem h)
    generalize hu : ((ns.take i).map fun x => (x.2.1.size : Int)).sum = u at *
    by_cases h : i < ns.length
    · have hsn := hsn h
      have hz := hz h
      refine Wr.go ?_
      repeat' ((first | (have ee := True.intro; refine Wr.mk ?_) | ((first | refine br_go ?_ ?_ | refine pick_go ?_ ?_) <;> intro ee f <;> (try simp only [BB] at f) <;> (try simp only [numOk, verOk] at f))) <;> (try simp (maxSteps := 1000000) (disch := first | omega | (simp only [LN, numOk, verOk, rfP, rvP, rhP, frP, elOk_en, elOk_nd, nfx_en, nfx_nd, hg] <;> omega) | exact Ck.mk rfl) only [ee, VC, T, Nat.reduceMul, Nat.reduceAdd, Nat.reduceSub, Nat.reduceLT, Nat.reduceEqDiff, Nat.reduceLeDiff, Nat.reduceBEq, reduceCtorEq, Int.reduceToNat, ↓reduceIte, rfP, rvP, rhP, frP, elOk_en, elOk_nd, nfx_en, nfx_nd, hg]) <;> (try clear ee))
      refine hN (i + 1) _ ⟨by omega, by rw [hsn]; omega, by rw [hsn]; omega⟩ (by omega) ?_
      rw [hsn]
      (simp (disch := first | omega | (simp only [LN, numOk, verOk] <;> omega) | exact Ck.mk rfl) only [SB, EQ, Nat.reduceMul, Nat.reduceAdd, Nat.reduceSub, Nat.reduceLT, Nat.reduceEqDiff, Nat.reduceLeDiff, Nat.reduceBEq, reduceCtorEq, Int.reduceToNat, ↓reduceIte]; try omega)
      try rfl
    · obtain rfl : i = ns.length := by omega
      refine Wr.go ?_
      repeat' ((first | (have ee := True.intro; refine Wr.mk ?_) | ((first | refine br_go ?_ ?_ | refine pick_go ?_ ?_) <;> intro ee f <;> (try simp only [BB] at f) <;> (try simp only [numOk, verOk] at f))) <;> (try simp (maxSteps := 1000000) (disch := first | omega | (simp only [LN, numOk, verOk, rfP, rvP, rhP, frP, elOk_en, elOk_nd, nfx_en, nfx_nd] <;> omega) | exact Ck.mk rfl) only [ee, VC, T, Nat.reduceMul, Nat.reduceAdd, Nat.reduceSub, Nat.reduceLT, Nat.reduceEqDiff, Nat.reduceLeDiff, Nat.reduceBEq, reduceCtorEq, Int.reduceToNat, ↓reduceIte, rfP, rvP, rhP, frP, elOk_en, elOk_nd, nfx_en, nfx_nd]) <;> (try clear ee))
      rw [← hu, List.take_length]
theorem impl_areNodes (d : Dk) (h : DkW d) (hx : d.2.2.2.2.2 ≤ 1000000000 ∧ 0 ≤ d.2.2.2.2.2) : Fn Tryz.prog 124 [dkP d] [] (.bool (decide (nodesOk d ∧ d.1.length ≤ 64))) [] := by
  have hns := h.ns
  have hnt := h.nt
  have hlast : (∀ i : Nat, i < d.1.length → ndB d i) → (nodesOk d ∧ d.1.length ≤ 64) = ((d.1.length : Int) ≤ 64) := fun h => propext ⟨fun q => by have := q.2; omega, fun q => ⟨h, by omega⟩⟩
  have hno : ∀ i : Nat, i < d.1.length → ¬ ndB d i → (nodesOk d ∧ d.1.length ≤ 64) = False := fun i hi h => propext ⟨fun q => h (q.1 i hi), False.elim⟩
  have hB1 : ∀ i, ndB d i = ((1 ≤ (d.1.getD i default).1 ∧ (d.1.getD i default).1 ≤ d.2.2.2.2.2 - 1) ∧ (0 ≤ (d.1.getD i default).2.2 ∧ (d.1.getD i default).2.2 ≤ (d.1.getD i default).2.1.size) ∧ (0 < i → (d.1.getD (i - 1) default).1 < (d.1.getD i default).1)) := fun i => rfl
  unfold dkP at *
  refine fn_x tok (n := 50) (rs := [.tmp 2]) Tryz.func124 (by decide) rfl rfl rfl rfl ?_
  refine Wr.go ?_
  repeat' ((first | (have ee := True.intro; refine Wr.mk ?_) | ((first | refine br_go ?_ ?_ | refine pick_go ?_ ?_) <;> intro ee f <;> (try simp only [BB] at f) <;> (try simp only [numOk, verOk] at f))) <;> (try simp (maxSteps := 1000000) (disch := first | omega | (simp only [LN, numOk, verOk, rfP, rvP, rhP, frP, elOk_en, elOk_nd, nfx_en, nfx_nd] <;> omega) | exact Ck.mk rfl) only [ee, VC, T, Nat.reduceMul, Nat.reduceAdd, Nat.reduceSub, Nat.reduceLT, Nat.reduceEqDiff, Nat.reduceLeDiff, Nat.reduceBEq, reduceCtorEq, Int.reduceToNat, ↓reduceIte, rfP, rvP, rhP, frP, elOk_en, elOk_nd, nfx_en, nfx_nd]) <;> (try clear ee))
  refine lp_go (fun i : Nat => ⟨50, [(1, .ref 128 0), (6, .far (d.1.map ndP)), (7, .int .i64 d.1.length), (8, .int .i64 i)], [(128, .box 35 [.far (d.1.map ndP), .far (d.2.1.map enP), .far (d.2.2.1.map enP), .far (d.2.2.2.1.map .str), .int .i64 d.2.2.2.2.1, .int .i64 d.2.2.2.2.2])]⟩) (fun i => i ≤ d.1.length ∧ ∀ j : Nat, j < i → ndB d j) (fun i => d.1.length - i) 0 ?_ ⟨Nat.zero_le _, fun j h => by omega⟩ ?_
  · (simp (disch := first | omega | (simp only [LN, numOk, verOk] <;> omega) | exact Ck.mk rfl) only [SB, EQ, Nat.reduceMul, Nat.reduceAdd, Nat.reduceSub, Nat.reduceLT, Nat.reduceEqDiff, Nat.reduceLeDiff, Nat.reduceBEq, reduceCtorEq, Int.reduceToNat, ↓reduceIte]; try omega)
    try rfl
  · rintro i ⟨h1, h2⟩ N hN
    have hg : ∀ j, j < d.1.length → (d.1.map ndP).getD j .junk = .agg [.int .i64 (d.1.getD j default).1, .str (d.1.getD j default).2.1, .int .i64 (d.1.getD j default).2.2] := fun j h => by
      rw [List.getD_eq_getElem?_getD, List.getElem?_map, List.getElem?_eq_getElem h, List.getD_eq_getElem?_getD, List.getElem?_eq_getElem h]; rfl
    have hnx : ndB d i → ∀ j : Nat, j < i + 1 → ndB d j := fun h j hj => by
      by_cases e : j = i
      · rw [e]; exact h
      · exact h2 j (by omega)
    have hj : ((i : Int) - 1).toNat = i - 1 := by omega
    have hB := hB1 i
    have hno := hno i
    by_cases hi : i < d.1.length
    · have hno := hno hi
      refine Wr.go ?_
      repeat' ((first | (have ee := True.intro; refine Wr.mk ?_) | ((first | refine br_go ?_ ?_ | refine pick_go ?_ ?_) <;> intro ee f <;> (try simp only [BB] at f) <;> (try simp only [numOk, verOk] at f)) | (have ee := True.intro; first | refine dr_go mixed (id := 4) [([], [3], []), ([0], [13], []), ([0, 1], [14], []), ([0, 1, 2], [4, 15], []), ([0, 1, 2, 3], [15, 16], []), ([0, 1, 2], [1, 15], []), ([0, 1, 2, 5], [15, 18], []), ([0, 1, 2], [3, 15], []), ([0, 1, 2, 7], [15, 20], []), ([0, 1, 2, 5, 6, 7, 8], [15, 19, 21], []), ([0, 1, 2, 5, 6, 7, 8, 9], [15, 22], []), ([0, 1, 2, 5, 6, 7, 8, 9, 10], [15, 23], []), ([0, 1, 2, 3, 4, 5, 6, 7, 8, 9, 10, 11], [15, 17, 24], []), ([0, 1, 2, 3, 4, 5, 6, 7, 8, 9, 10, 11, 12], [15, 25], []), ([0, 1, 2, 3, 4, 5, 6, 7, 8, 9, 10, 11, 12, 13], [26], []), ([0, 1, 2, 3, 4, 5, 6, 7, 8, 9, 10, 11, 12, 13, 14], [4, 27], []), ([0, 1, 2, 3, 4, 5, 6, 7, 8, 9, 10, 11, 12, 13, 14, 15], [27, 28], []), ([0, 1, 2, 3, 4, 5, 6, 7, 8, 9, 10, 11, 12, 13, 14], [1, 27], []), ([0, 1, 2, 3, 4, 5, 6, 7, 8, 9, 10, 11, 12, 13, 14, 17], [27, 30], []), ([0, 1, 2, 3, 4, 5, 6, 7, 8, 9, 10, 11, 12, 13, 14, 17, 18], [27, 31], []), ([0, 1, 2, 3, 4, 5, 6, 7, 8, 9, 10, 11, 12, 13, 14, 15, 16, 17, 18, 19], [27, 29, 32], []), ([0, 1, 2, 3, 4, 5, 6, 7, 8, 9, 10, 11, 12, 13, 14, 15, 16, 17, 18, 19, 20], [27, 33], []), ([0, 1, 2, 3, 4, 5, 6, 7, 8, 9, 10, 11, 12, 13, 14, 15, 16, 17, 18, 19, 20, 21], [27, 34], []), ([0, 1, 2, 3, 4, 5, 6, 7, 8, 9, 10, 11, 12, 13, 14, 15, 16, 17, 18, 19, 20, 21, 22], [35], []), ([0, 1, 2, 3, 4, 5, 6, 7, 8, 9, 10, 11, 12, 13, 14, 15, 16, 17, 18, 19, 20, 21, 22, 23], [4, 36], []), ([0, 1, 2, 3, 4, 5, 6, 7, 8, 9, 10, 11, 12, 13, 14, 15, 16, 17, 18, 19, 20, 21, 22, 23, 24], [36, 37], []), ([0, 1, 2, 3, 4, 5, 6, 7, 8, 9, 10, 11, 12, 13, 14, 15, 16, 17, 18, 19, 20, 21, 22, 23], [4, 36], []), ([0, 1, 2, 3, 4, 5, 6, 7, 8, 9, 10, 11, 12, 13, 14, 15, 16, 17, 18, 19, 20, 21, 22, 23, 26], [36, 39], []), ([0, 1, 2, 3, 4, 5, 6, 7, 8, 9, 10, 11, 12, 13, 14, 15, 16, 17, 18, 19, 20, 21, 22, 23, 26, 27], [36, 40], []), ([0, 1, 2, 3, 4, 5, 6, 7, 8, 9, 10, 11, 12, 13, 14, 15, 16, 17, 18, 19, 20, 21, 22, 23, 24, 25, 26, 27, 28], [36, 38, 41], []), ([0, 1, 2, 3, 4, 5, 6, 7, 8, 9, 10, 11, 12, 13, 14, 15, 16, 17, 18, 19, 20, 21, 22, 23, 24, 25, 26, 27, 28, 29], [36, 42], []), ([0, 1, 2, 3, 4, 5, 6, 7, 8, 9, 10, 11, 12, 13, 14, 15, 16, 17, 18, 19, 20, 21, 22, 23, 24, 25, 26, 27, 28, 29, 30], [36, 43], [])] rfl rfl rfl ?_ | refine call_x (impl_within _ _ _) rfl ⟨rfl⟩ ?_)) <;> (try simp (maxSteps := 1000000) (disch := first | omega | (simp only [LN, numOk, verOk, rfP, rvP, rhP, frP, elOk_en, elOk_nd, nfx_en, nfx_nd, hg, hj] <;> omega) | exact Ck.mk rfl) only [ee, VC, T, Nat.reduceMul, Nat.reduceAdd, Nat.reduceSub, Nat.reduceLT, Nat.reduceEqDiff, Nat.reduceLeDiff, Nat.reduceBEq, reduceCtorEq, Int.reduceToNat, ↓reduceIte, rfP, rvP, rhP, frP, elOk_en, elOk_nd, nfx_en, nfx_nd, hg, hj]) <;> (try clear ee))
      all_goals first
        | (refine hN (i + 1) _ ⟨by omega, hnx (by rw [hB]; omega)⟩ (by omega) ?_
           (simp (disch := first | omega | (simp only [LN, numOk, verOk] <;> omega) | exact Ck.mk rfl) only [SB, EQ, Nat.reduceMul, Nat.reduceAdd, Nat.reduceSub, Nat.reduceLT, Nat.reduceEqDiff, Nat.reduceLeDiff, Nat.reduceBEq, reduceCtorEq, Int.reduceToNat, ↓reduceIte]; try omega)
           try rfl)
        | (have e := hno (by rw [hB]; omega)
           simp only [e, decide_false])
    · obtain rfl : i = d.1.length := by omega
      have hlast := hlast h2
      refine Wr.go ?_
      repeat' ((first | (have ee := True.intro; refine Wr.mk ?_) | ((first | refine br_go ?_ ?_ | refine pick_go ?_ ?_) <;> intro ee f <;> (try simp only [BB] at f) <;> (try simp only [numOk, verOk] at f))) <;> (try simp (maxSteps := 1000000) (disch := first | omega | (simp only [LN, numOk, verOk, rfP, rvP, rhP, frP, elOk_en, elOk_nd, nfx_en, nfx_nd] <;> omega) | exact Ck.mk rfl) only [ee, VC, T, Nat.reduceMul, Nat.reduceAdd, Nat.reduceSub, Nat.reduceLT, Nat.reduceEqDiff, Nat.reduceLeDiff, Nat.reduceBEq, reduceCtorEq, Int.reduceToNat, ↓reduceIte, rfP, rvP, rhP, frP, elOk_en, elOk_nd, nfx_en, nfx_nd]) <;> (try clear ee))
      simp only [hlast]
theorem le_nlt {a b : ByteArray} (h : Op.bytesLess a.toList b.toList = true ∨ a = b) : ¬ Op.bytesLess b.toList a.toList = true := fun k => by
  rcases h with h | h
  · have : sLt b a = false := sLt_asym h
    unfold sLt at this
    rw [k] at this; cases this
  · subst h
    have : sLt a a = false := sLt_irr a
    unfold sLt at this
    rw [k] at this; cases this
theorem nle_lt {a b : ByteArray} (h : Op.bytesLess a.toList b.toList = false ∧ ¬ a = b) : Op.bytesLess b.toList a.toList = true := by
  cases k : Op.bytesLess b.toList a.toList with
  | true => rfl
  | false =>
    have := bl_tri _ _ h.1 k
    rw [ByteArray.toList_eq, ByteArray.toList_eq] at this
    exact absurd (bytesOf_inj (by unfold bytesOf; rw [this])) h.2
theorem impl_areEntries (d : Dk) (L : List Et) (h : DkW d) (hl : L.length ≤ 16777216) (hz : ∀ e ∈ L, e.1.size ≤ 1048576) : Fn Tryz.prog 125 [dkP d, .far (L.map enP)] [] (.bool (decide (entsOk d L))) [] := by
  have hNd := fun k => impl_nodeOf d k (by have := h.ns; omega)
  have hlast : (∀ i : Nat, i < L.length → entB d L i) → entsOk d L = ((L.length : Int) ≤ 16) := fun h => propext ⟨fun q => by have := q.2; omega, fun q => ⟨h, by omega⟩⟩
  have hno : ∀ i : Nat, i < L.length → ¬ entB d L i → entsOk d L = False := fun i hi h => propext ⟨fun q => h (q.1 i hi), False.elim⟩
  have hB : ∀ i, entB d L i = (nmOk (L.getD i default).1 ∧ 0 ≤ nodeI d.1 (L.getD i default).2 ∧ (0 < i → sLt (L.getD (i - 1) default).1 (L.getD i default).1 = true)) := fun i => rfl
  unfold dkP at *
  refine fn_x tok (n := 44) (rs := [.tmp 4]) Tryz.func125 (by decide) rfl rfl rfl rfl ?_
  refine Wr.go ?_
  repeat' ((first | (have ee := True.intro; refine Wr.mk ?_) | ((first | refine br_go ?_ ?_ | refine pick_go ?_ ?_) <;> intro ee f <;> (try simp only [BB] at f) <;> (try simp only [numOk, verOk] at f))) <;> (try simp (maxSteps := 1000000) (disch := first | omega | (simp only [LN, numOk, verOk, rfP, rvP, rhP, frP, elOk_en, elOk_nd, nfx_en, nfx_nd] <;> omega) | exact Ck.mk rfl) only [ee, VC, T, Nat.reduceMul, Nat.reduceAdd, Nat.reduceSub, Nat.reduceLT, Nat.reduceEqDiff, Nat.reduceLeDiff, Nat.reduceBEq, reduceCtorEq, Int.reduceToNat, ↓reduceIte, rfP, rvP, rhP, frP, elOk_en, elOk_nd, nfx_en, nfx_nd]) <;> (try clear ee))
  refine lp_go (fun i : Nat => ⟨44, [(1, .far (L.map enP)), (2, .ref 192 0), (7, .far (L.map enP)), (8, .int .i64 L.length), (9, .int .i64 i)], [(192, .box 35 [.far (d.1.map ndP), .far (d.2.1.map enP), .far (d.2.2.1.map enP), .far (d.2.2.2.1.map .str), .int .i64 d.2.2.2.2.1, .int .i64 d.2.2.2.2.2])]⟩) (fun i => i ≤ L.length ∧ ∀ j : Nat, j < i → entB d L j) (fun i => L.length - i) 0 ?_ ⟨Nat.zero_le _, fun j h => by omega⟩ ?_
  · (simp (disch := first | omega | (simp only [LN, numOk, verOk] <;> omega) | exact Ck.mk rfl) only [SB, EQ, Nat.reduceMul, Nat.reduceAdd, Nat.reduceSub, Nat.reduceLT, Nat.reduceEqDiff, Nat.reduceLeDiff, Nat.reduceBEq, reduceCtorEq, Int.reduceToNat, ↓reduceIte]; try omega)
    try rfl
  · rintro i ⟨h1, h2⟩ N hN
    have hg : ∀ j, j < L.length → (L.map enP).getD j .junk = .agg [.str (L.getD j default).1, .int .i64 (L.getD j default).2] := fun j h => by
      rw [List.getD_eq_getElem?_getD, List.getElem?_map, List.getElem?_eq_getElem h, List.getD_eq_getElem?_getD, List.getElem?_eq_getElem h]; rfl
    have hnx : entB d L i → ∀ j : Nat, j < i + 1 → entB d L j := fun h j hj => by
      by_cases e : j = i
      · rw [e]; exact h
      · exact h2 j (by omega)
    have hj : ((i : Int) - 1).toNat = i - 1 := by omega
    by_cases hi : i < L.length
    · have hN1 := impl_NameOk (L.getD i default).1 (by have := hz _ (List.getElem_mem hi); rw [List.getD_eq_getElem?_getD, List.getElem?_eq_getElem hi]; simp only [Option.getD_some]; omega)
      have hno := hno i hi
      have hB := hB i
      unfold sLt at hB
      refine Wr.go ?_
      repeat' ((first | (have ee := True.intro; refine Wr.mk ?_) | ((first | refine br_go ?_ ?_ | refine pick_go ?_ ?_) <;> intro ee f <;> (try simp only [BB] at f) <;> (try simp only [numOk, verOk] at f)) | (have ee := True.intro; first | refine dr_go mixed (id := 4) [([], [5], []), ([0], [14], []), ([0, 1], [15], []), ([0, 1, 2], [6, 16], []), ([0, 1, 2, 3], [16, 17], []), ([0, 1, 2], [1, 16], []), ([0, 1, 2], [5, 16], []), ([0, 1, 2, 6], [16, 20], []), ([0, 1, 2, 5, 6, 7], [16, 19, 21], []), ([0, 1, 2, 5, 6, 7, 8], [16, 22], []), ([0, 1, 2, 5, 6, 7, 8, 9], [16, 23], []), ([0, 1, 2, 3, 4, 5, 6, 7, 8, 9, 10], [16, 18, 24], []), ([0, 1, 2, 3, 4, 5, 6, 7, 8, 9, 10, 11], [16, 25], []), ([0, 1, 2, 3, 4, 5, 6, 7, 8, 9, 10, 11, 12], [26], []), ([0, 1, 2, 3, 4, 5, 6, 7, 8, 9, 10, 11, 12, 13], [6, 27], []), ([0, 1, 2, 3, 4, 5, 6, 7, 8, 9, 10, 11, 12, 13, 14], [27, 28], []), ([0, 1, 2, 3, 4, 5, 6, 7, 8, 9, 10, 11, 12, 13, 14, 15], [27, 29], []), ([0, 1, 2, 3, 4, 5, 6, 7, 8, 9, 10, 11, 12, 13, 14, 15, 16], [27, 30], []), ([0, 1, 2, 3, 4, 5, 6, 7, 8, 9, 10, 11, 12, 13, 14, 15, 16, 17], [27, 31], []), ([0, 1, 2, 3, 4, 5, 6, 7, 8, 9, 10, 11, 12, 13, 14, 15, 16, 17, 18], [32], []), ([0, 1, 2, 3, 4, 5, 6, 7, 8, 9, 10, 11, 12, 13, 14, 15, 16, 17, 18, 19], [2, 33], []), ([0, 1, 2, 3, 4, 5, 6, 7, 8, 9, 10, 11, 12, 13, 14, 15, 16, 17, 18, 19], [6, 33], []), ([0, 1, 2, 3, 4, 5, 6, 7, 8, 9, 10, 11, 12, 13, 14, 15, 16, 17, 18, 19, 21], [33, 35], []), ([0, 1, 2, 3, 4, 5, 6, 7, 8, 9, 10, 11, 12, 13, 14, 15, 16, 17, 18, 19, 20, 21, 22], [33, 34, 36], []), ([0, 1, 2, 3, 4, 5, 6, 7, 8, 9, 10, 11, 12, 13, 14, 15, 16, 17, 18, 19, 20, 21, 22, 23], [33, 37], []), ([0, 1, 2, 3, 4, 5, 6, 7, 8, 9, 10, 11, 12, 13, 14, 15, 16, 17, 18, 19, 20, 21, 22, 23, 24], [33, 38], [])] rfl rfl rfl ?_ | refine call_x (hN1) rfl ⟨rfl⟩ ?_ | refine call_x (hNd _) rfl ⟨rfl⟩ ?_)) <;> (try simp (maxSteps := 1000000) (disch := first | omega | (simp only [LN, numOk, verOk, rfP, rvP, rhP, frP, elOk_en, elOk_nd, nfx_en, nfx_nd, hg, hj] <;> omega) | exact Ck.mk rfl) only [ee, VC, T, Nat.reduceMul, Nat.reduceAdd, Nat.reduceSub, Nat.reduceLT, Nat.reduceEqDiff, Nat.reduceLeDiff, Nat.reduceBEq, reduceCtorEq, Int.reduceToNat, ↓reduceIte, rfP, rvP, rhP, frP, elOk_en, elOk_nd, nfx_en, nfx_nd, hg, hj]) <;> (try clear ee))
      · have e := hno (by rw [hB]; exact fun q => le_nlt f (q.2.2 (by omega)))
        simp only [e, decide_false]
      · have e := hno (by rw [hB]; rintro ⟨_, q, _⟩; omega)
        simp only [e, decide_false]
      · rename_i g1 g2 g3
        refine hN (i + 1) _ ⟨by omega, hnx (by rw [hB]; exact ⟨g3, f, fun _ => nle_lt g2⟩)⟩ (by omega) ?_
        (simp (disch := first | omega | (simp only [LN, numOk, verOk] <;> omega) | exact Ck.mk rfl) only [SB, EQ, Nat.reduceMul, Nat.reduceAdd, Nat.reduceSub, Nat.reduceLT, Nat.reduceEqDiff, Nat.reduceLeDiff, Nat.reduceBEq, reduceCtorEq, Int.reduceToNat, ↓reduceIte]; try omega)
        try rfl
      · have e := hno (by rw [hB]; exact fun q => f q.1)
        simp only [e, decide_false]
      · have e := hno (by rw [hB]; rintro ⟨_, q, _⟩; omega)
        simp only [e, decide_false]
      · rename_i g1 g2
        refine hN (i + 1) _ ⟨by omega, hnx (by rw [hB]; exact ⟨g2, f, fun _ => by omega⟩)⟩ (by omega) ?_
        (simp (disch := first | omega | (simp only [LN, numOk, verOk] <;> omega) | exact Ck.mk rfl) only [SB, EQ, Nat.reduceMul, Nat.reduceAdd, Nat.reduceSub, Nat.reduceLT, Nat.reduceEqDiff, Nat.reduceLeDiff, Nat.reduceBEq, reduceCtorEq, Int.reduceToNat, ↓reduceIte]; try omega)
        try rfl
      · have e := hno (by rw [hB]; exact fun q => f q.1)
        simp only [e, decide_false]
    · obtain rfl : i = L.length := by omega
      have hlast := hlast h2
      refine Wr.go ?_
      repeat' ((first | (have ee := True.intro; refine Wr.mk ?_) | ((first | refine br_go ?_ ?_ | refine pick_go ?_ ?_) <;> intro ee f <;> (try simp only [BB] at f) <;> (try simp only [numOk, verOk] at f))) <;> (try simp (maxSteps := 1000000) (disch := first | omega | (simp only [LN, numOk, verOk, rfP, rvP, rhP, frP, elOk_en, elOk_nd, nfx_en, nfx_nd] <;> omega) | exact Ck.mk rfl) only [ee, VC, T, Nat.reduceMul, Nat.reduceAdd, Nat.reduceSub, Nat.reduceLT, Nat.reduceEqDiff, Nat.reduceLeDiff, Nat.reduceBEq, reduceCtorEq, Int.reduceToNat, ↓reduceIte, rfP, rvP, rhP, frP, elOk_en, elOk_nd, nfx_en, nfx_nd]) <;> (try clear ee))
      simp only [hlast]
theorem impl_EntryAt (es : List Et) (n : ByteArray) (hl : es.length ≤ 1048576) : Fn Tryz.prog 167 [.far (es.map enP), .str n] [] (.int .i64 (entT es n)) [] := by
  have hp := impl_placeOf es n hl
  have hr := placeI_r es n
  unfold entT
  generalize placeI es n = p at *
  have hg : (p.toNat < es.length) → (es.map enP).getD p.toNat .junk = .agg [.str (es.getD p.toNat default).1, .int .i64 (es.getD p.toNat default).2] := fun h => by
    rw [List.getD_eq_getElem?_getD, List.getElem?_map, List.getElem?_eq_getElem h, List.getD_eq_getElem?_getD, List.getElem?_eq_getElem h]; rfl
  refine fn_x tok (n := 16) (rs := [.tmp 4]) Tryz.func167 (by decide) rfl rfl rfl rfl ?_
  refine Wr.go ?_
  repeat' ((first | (have ee := True.intro; refine Wr.mk ?_) | ((first | refine br_go ?_ ?_ | refine pick_go ?_ ?_) <;> intro ee f <;> (try simp only [BB] at f) <;> (try simp only [numOk, verOk] at f)) | (have ee := True.intro; first | refine call_x (hp) rfl ⟨rfl⟩ ?_)) <;> (try simp (maxSteps := 1000000) (disch := first | omega | (simp only [LN, numOk, verOk, rfP, rvP, rhP, frP, elOk_en, elOk_nd, nfx_en, nfx_nd, hg] <;> omega) | exact Ck.mk rfl) only [ee, VC, T, Nat.reduceMul, Nat.reduceAdd, Nat.reduceSub, Nat.reduceLT, Nat.reduceEqDiff, Nat.reduceLeDiff, Nat.reduceBEq, reduceCtorEq, Int.reduceToNat, ↓reduceIte, rfP, rvP, rhP, frP, elOk_en, elOk_nd, nfx_en, nfx_nd, hg]) <;> (try clear ee))
  · rw [if_pos f]
  · rw [if_neg (by omega)]
theorem equalE (xs ys : List Et) (hx : xs.length ≤ 4611686018427387904) : Fn Tryz.prog 126 [.far (xs.map enP), .far (ys.map enP)] [] (.bool (decide (xs = ys))) [] := by
  refine fn_x tok (n := 26) (rs := [.tmp 4]) Tryz.func126 (by decide) rfl rfl rfl rfl ?_
  refine Wr.go ?_
  repeat' ((first | (have ee := True.intro; refine Wr.mk ?_) | ((first | refine br_go ?_ ?_ | refine pick_go ?_ ?_) <;> intro ee f <;> (try simp only [BB] at f) <;> (try simp only [numOk, verOk] at f))) <;> (try simp (maxSteps := 1000000) (disch := first | omega | (simp only [LN, numOk, verOk, rfP, rvP, rhP, frP, elOk_en, elOk_nd, nfx_en, nfx_nd] <;> omega) | exact Ck.mk rfl) only [ee, VC, T, Nat.reduceMul, Nat.reduceAdd, Nat.reduceSub, Nat.reduceLT, Nat.reduceEqDiff, Nat.reduceLeDiff, Nat.reduceBEq, reduceCtorEq, Int.reduceToNat, ↓reduceIte, rfP, rvP, rhP, frP, elOk_en, elOk_nd, nfx_en, nfx_nd]) <;> (try clear ee))
  · have hl : xs.length = ys.length := by omega
    refine lp_go (fun i : Nat => ⟨26, [(0, .far (xs.map enP)), (1, .far (ys.map enP)), (12, .int .i64 xs.length), (13, .int .i64 i)], []⟩) (fun i => i ≤ xs.length ∧ xs.take i = ys.take i) (fun i => xs.length - i) 0 ?_ ⟨Nat.zero_le _, rfl⟩ ?_
    · (simp (disch := first | omega | (simp only [LN, numOk, verOk] <;> omega) | exact Ck.mk rfl) only [SB, EQ, Nat.reduceMul, Nat.reduceAdd, Nat.reduceSub, Nat.reduceLT, Nat.reduceEqDiff, Nat.reduceLeDiff, Nat.reduceBEq, reduceCtorEq, Int.reduceToNat, ↓reduceIte]; try omega)
    · rintro i ⟨h1, h2⟩ N hN
      have hg : ∀ zs : List Et, i < zs.length → (zs.map enP).getD i .junk = .agg [.str (zs.getD i default).1, .int .i64 (zs.getD i default).2] := fun zs h => by
        rw [List.getD_eq_getElem?_getD, List.getElem?_map, List.getElem?_eq_getElem h, List.getD_eq_getElem?_getD, List.getElem?_eq_getElem h]; rfl
      have heq : (xs.getD i default).1 = (ys.getD i default).1 → (xs.getD i default).2 = (ys.getD i default).2 → xs.getD i default = ys.getD i default := fun h1 h2 => Prod.ext h1 h2
      refine Wr.go ?_
      repeat' ((first | (have ee := True.intro; refine Wr.mk ?_) | ((first | refine br_go ?_ ?_ | refine pick_go ?_ ?_) <;> intro ee f <;> (try simp only [BB] at f) <;> (try simp only [numOk, verOk] at f)) | (have ee := True.intro; first | refine dr_go mixed (id := 6) [([], [0], []), ([], [5], []), ([0, 1], [16, 17], []), ([0, 1, 2], [18], []), ([], [1], []), ([], [5], []), ([4, 5], [20, 21], []), ([4, 5, 6], [22], []), ([0, 1, 2, 3, 4, 5, 6, 7], [19, 23], [])] rfl rfl rfl ?_)) <;> (try simp (maxSteps := 1000000) (disch := first | omega | (simp only [LN, numOk, verOk, rfP, rvP, rhP, frP, elOk_en, elOk_nd, nfx_en, nfx_nd, hg] <;> omega) | exact Ck.mk rfl) only [ee, VC, T, Nat.reduceMul, Nat.reduceAdd, Nat.reduceSub, Nat.reduceLT, Nat.reduceEqDiff, Nat.reduceLeDiff, Nat.reduceBEq, reduceCtorEq, Int.reduceToNat, ↓reduceIte, rfP, rvP, rhP, frP, elOk_en, elOk_nd, nfx_en, nfx_nd, hg]) <;> (try clear ee))
      · refine hN (i + 1) _ ⟨by omega, eq_stp xs ys i hl (by omega) h2 (heq f.1 f.2)⟩ (by omega) ?_
        (simp (disch := first | omega | (simp only [LN, numOk, verOk] <;> omega) | exact Ck.mk rfl) only [SB, EQ, Nat.reduceMul, Nat.reduceAdd, Nat.reduceSub, Nat.reduceLT, Nat.reduceEqDiff, Nat.reduceLeDiff, Nat.reduceBEq, reduceCtorEq, Int.reduceToNat, ↓reduceIte]; try omega)
      · rw [decide_eq_false fun h => by subst h; rcases f with f | f <;> exact f rfl]
      · rw [List.take_of_length_le (by omega), List.take_of_length_le (by omega)] at h2
        rw [decide_eq_true h2]
  · rw [decide_eq_false fun h => f (by rw [h])]
end Go.Pv

/- Entries put and dropped by their places; decimals as the library reads and writes them. -/
namespace Go.Mth
open Go.RowKit
set_option linter.unusedVariables false

theorem findI_shift {α : Type} (p : α → Bool) : ∀ (xs : List α) (k : Nat), findI p xs k = if findI p xs 0 < 0 then -1 else findI p xs 0 + k
  | [], k => rfl
  | x :: r, k => by
    unfold findI
    cases hp : p x with
    | true => simp
    | false =>
      simp only [Bool.false_eq_true, if_false]
      rw [findI_shift p r (k + 1), findI_shift p r (0 + 1)]
      by_cases h : findI p r 0 < 0
      · rw [if_pos h, if_pos h, if_pos (by omega)]
      · rw [if_neg h, if_neg h, if_neg (by omega)]
        omega
theorem findI_cons {α : Type} (p : α → Bool) (x : α) (r : List α) (h : p x = false) : findI p (x :: r) 0 = if findI p r 0 < 0 then -1 else findI p r 0 + 1 := by
  have e : findI p (x :: r) 0 = if p x = true then ((0 : Nat) : Int) else findI p r 1 := rfl
  rw [e, h, if_neg (by simp)]
  exact findI_shift p r 1
theorem findI_ge {α : Type} (p : α → Bool) (xs : List α) : findI p xs 0 = -1 ∨ 0 ≤ findI p xs 0 := by
  induction xs with
  | nil => exact .inl rfl
  | cons x r ih =>
    cases h : p x with
    | true => unfold findI; rw [h, if_pos rfl]; exact .inr (Int.le_refl _)
    | false =>
      rw [findI_cons p x r h]
      by_cases k : findI p r 0 < 0
      · rw [if_pos k]; exact .inl rfl
      · rw [if_neg k]; exact .inr (by omega)
theorem findI_none {α : Type} (p : α → Bool) (xs : List α) (h : ∀ x ∈ xs, p x = false) : findI p xs 0 = -1 := by
  induction xs with
  | nil => rfl
  | cons x r ih =>
    rw [findI_cons p x r (h x List.mem_cons_self), ih (fun y hy => h y (List.mem_cons_of_mem _ hy)), if_pos (by decide)]
theorem dropI_at (n : ByteArray) : ∀ L : List Et, 0 ≤ placeI L n → dropI L n = L.take (placeI L n).toNat ++ L.drop ((placeI L n).toNat + 1)
  | [], h => by
    have e : placeI [] n = -1 := rfl
    omega
  | x :: r, h => by
    have ih := dropI_at n r
    unfold dropI
    by_cases hx : x.1 = n
    · have e : placeI (x :: r) n = 0 := by unfold placeI findI; rw [if_pos (decide_eq_true hx)]; rfl
      rw [if_pos hx, e]; rfl
    · have e : placeI (x :: r) n = if placeI r n < 0 then -1 else placeI r n + 1 := findI_cons _ x r (decide_eq_false hx)
      rw [e] at h ⊢
      by_cases k : placeI r n < 0
      · rw [if_pos k] at h; omega
      · rw [if_neg hx, if_neg k, ih (by omega)]
        obtain ⟨m, hm⟩ : ∃ m : Nat, placeI r n = m := ⟨_, (Int.toNat_of_nonneg (by omega)).symm⟩
        rw [hm]
        rfl
/-- What the program does to put an entry: its place is looked for, and then the first name that is greater. -/
def gtI (L : List Et) (n : ByteArray) : Int := findI (fun e => sLt n e.1) L 0
theorem gtI_r (L : List Et) (n : ByteArray) : gtI L n = -1 ∨ (0 ≤ gtI L n ∧ gtI L n < L.length) := by
  rcases findI_range (fun e : Et => sLt n e.1) L with h | ⟨h1, h2, _⟩
  · exact .inl h
  · exact .inr ⟨h1, h2⟩
theorem putI_at (n : ByteArray) (i : Int) : ∀ L : List Et, Asc L → putI L n i = if 0 ≤ placeI L n then L.set (placeI L n).toNat (n, i) else if gtI L n < 0 then L ++ [(n, i)] else L.take (gtI L n).toNat ++ [(n, i)] ++ L.drop (gtI L n).toNat
  | [], h => rfl
  | x :: r, h => by
    have ih := putI_at n i r h.tail
    have hh := h.head
    unfold putI
    by_cases hx : x.1 = n
    · have e : placeI (x :: r) n = 0 := by unfold placeI findI; rw [if_pos (decide_eq_true hx)]; rfl
      rw [if_pos hx, e]; rfl
    · have e : placeI (x :: r) n = if placeI r n < 0 then -1 else placeI r n + 1 := findI_cons _ x r (decide_eq_false hx)
      rw [if_neg hx]
      by_cases hl : sLt n x.1 = true
      · have e2 : placeI r n = -1 := findI_none _ r fun y hy => decide_eq_false fun k => by
          have := sLt_ne (sLt_trans hl (hh y hy))
          exact this k.symm
        have e3 : gtI (x :: r) n = 0 := by unfold gtI findI; rw [if_pos hl]; rfl
        have e4 : placeI (x :: r) n = -1 := by rw [e, e2]; rfl
        rw [if_pos hl, if_neg (by omega), if_neg (by omega), e3]; rfl
      · have e3 : gtI (x :: r) n = if gtI r n < 0 then -1 else gtI r n + 1 := findI_cons _ x r (by simpa using hl)
        rw [if_neg hl, ih]
        by_cases k : placeI r n < 0
        · have e4 : placeI (x :: r) n = -1 := by rw [e, if_pos k]
          rw [if_neg (by omega), if_neg (by omega : ¬ 0 ≤ placeI (x :: r) n)]
          by_cases k2 : gtI r n < 0
          · have e5 : gtI (x :: r) n = -1 := by rw [e3, if_pos k2]
            rw [if_pos k2, if_pos (by omega)]; rfl
          · have e5 : gtI (x :: r) n = gtI r n + 1 := by rw [e3, if_neg k2]
            rw [if_neg k2, if_neg (by omega), e5]
            obtain ⟨m, hm⟩ : ∃ m : Nat, gtI r n = m := ⟨_, (Int.toNat_of_nonneg (by omega)).symm⟩
            rw [hm]
            rfl
        · have e4 : placeI (x :: r) n = placeI r n + 1 := by rw [e, if_neg k]
          rw [if_pos (by omega), if_pos (by omega : 0 ≤ placeI (x :: r) n), e4]
          obtain ⟨m, hm⟩ : ∃ m : Nat, placeI r n = m := ⟨_, (Int.toNat_of_nonneg (by omega)).symm⟩
          rw [hm]
          rfl

/-! ### decimals -/
theorem decN_ge : ∀ (L : List Int) (a m : Int), 0 ≤ a → decN a L = some m → a ≤ m
  | [], a, m, _, h => by simp only [decN, Option.some.injEq] at h; omega
  | x :: r, a, m, h0, h => by
    unfold decN at h
    split at h
    · have := decN_ge r _ m (by omega) h
      omega
    · cases h
theorem parse_dec : ∀ (L : List UInt8) (a m : Nat), decN a (L.map fun b => (b.toNat : Int)) = some (m : Int) → m < 9223372036854775808 → Lib.parseUint10 a L = .ok m
  | [], a, m, h, _ => by
    simp only [List.map_nil, decN, Option.some.injEq] at h
    have : a = m := by omega
    subst this; rfl
  | c :: r, a, m, h, hm => by
    simp only [List.map_cons, decN] at h
    split at h
    · rename_i hc
      have hge := decN_ge _ _ _ (by omega) h
      unfold Lib.parseUint10
      rw [if_pos (by omega), if_neg (by omega), if_neg (by omega)]
      refine parse_dec r _ m ?_ hm
      have e : ((a * 10 + (c.toNat - 48) : Nat) : Int) = 10 * (a : Int) + ((c.toNat : Int) - 48) := by omega
      rw [e]; exact h
    · cases h
theorem atoi_dec (t : ByteArray) (m : Nat) (h0 : 0 < t.size) (h : decN 0 (bytesOf t) = some (m : Int)) (hm : m < 9223372036854775808) : Lib.atoiAll t.data.toList = .ok (m : Int) := by
  unfold bytesOf at h
  have h1 : t.data.toList.length = t.size := by rw [Array.length_toList]; rfl
  generalize t.data.toList = L at *
  cases L with
  | nil => simp at h1; omega
  | cons c r =>
    have hp := parse_dec (c :: r) 0 m h hm
    simp only [List.map_cons, decN] at h
    split at h
    · rename_i hc
      have e : Lib.parseMag (c :: r) = .ok m := by unfold Lib.parseMag; rw [if_neg (by simp)]; exact hp
      unfold Lib.atoiAll
      simp only
      rw [if_neg (by omega), e]
      simp only
      rw [if_neg (by omega), if_neg (by omega), if_neg (by omega)]
    · cases h
theorem decN_app : ∀ (L : List Int) (a m c : Int), decN a L = some m → 48 ≤ c → c ≤ 57 → decN a (L ++ [c]) = some (10 * m + (c - 48))
  | [], a, m, c, h, h1, h2 => by
    simp only [decN, Option.some.injEq] at h
    subst h
    simp only [List.nil_append, decN]
    rw [if_pos ⟨h1, h2⟩]
  | x :: r, a, m, c, h, h1, h2 => by
    simp only [List.cons_append]
    unfold decN at h ⊢
    split at h
    · rename_i hx
      rw [if_pos hx]
      exact decN_app r _ m c h h1 h2
    · cases h
theorem decN_decL : ∀ (k : Nat) (n : Int), 0 ≤ n → n < 10 ^ k → decN 0 (decL k n) = some n
  | 0, n, h0, h => by
    have : n = 0 := by simp at h; omega
    subst this; rfl
  | k + 1, n, h0, h => by
    unfold decL
    by_cases hn : n = 0
    · rw [if_pos hn, hn]; rfl
    · rw [if_neg hn]
      rw [Int.pow_succ] at h
      have := decN_app _ _ _ (48 + n % 10) (decN_decL k (n / 10) (by omega) (by omega)) (by omega) (by omega)
      rw [this]
      congr 1
      omega
theorem decL_lenB : ∀ (k j : Nat) (n : Int), 0 ≤ n → n < 10 ^ j → (decL k n).length ≤ j
  | 0, j, n, _, _ => Nat.zero_le _
  | k + 1, 0, n, h0, h => by
    have : n = 0 := by simp at h; omega
    unfold decL
    rw [if_pos this]; exact Nat.le_refl _
  | k + 1, j + 1, n, h0, h => by
    unfold decL
    by_cases hn : n = 0
    · rw [if_pos hn]; exact Nat.zero_le _
    · rw [if_neg hn, List.length_append, List.length_singleton]
      rw [Int.pow_succ] at h
      have := decL_lenB k j (n / 10) (by omega) (by omega)
      omega
theorem decL_dig : ∀ (k : Nat) (u : Nat), 0 < u → u < 10 ^ k → decL k (u : Int) = (Lib.decDigits u).map fun b => (b.toNat : Int)
  | 0, u, h0, h => by simp at h; omega
  | k + 1, u, h0, h => by
    have h8 : ∀ d : Nat, d < 10 → ((UInt8.ofNat (48 + d)).toNat : Int) = 48 + (d : Int) := fun d hd => by
      rw [UInt8.toNat_ofNat']
      have : (48 + d) % 2 ^ 8 = 48 + d := Nat.mod_eq_of_lt (by omega)
      rw [this]; omega
    unfold decL
    rw [if_neg (by omega), Lib.decDigits]
    by_cases hu : u < 10
    · rw [dif_pos hu]
      have e : (u : Int) / 10 = 0 := by omega
      have e2 : decL k 0 = [] := by cases k <;> rfl
      rw [e, e2]
      simp only [List.nil_append, List.map_cons, List.map_nil]
      rw [h8 u hu]
      congr 1
      omega
    · rw [dif_neg hu, List.map_append]
      have ih := decL_dig k (u / 10) (by omega) (by rw [Nat.pow_succ] at h; omega)
      have e : (u : Int) / 10 = ((u / 10 : Nat) : Int) := by omega
      rw [e, ih]
      simp only [List.map_cons, List.map_nil]
      rw [h8 (u % 10) (by omega)]
      congr 2
theorem pow20 : (10 : Int) ^ 20 = 100000000000000000000 := rfl
theorem decT_bytes (n : Int) (h0 : 0 ≤ n) (h : n ≤ 1000000000) : (decT n).size ≤ 10 ∧ 0 < (decT n).size ∧ decN 0 (bytesOf (decT n)) = some n ∧ decT n = ⟨(Lib.itoa n).toArray⟩ := by
  have e10 : (10 : Int) ^ 10 = 10000000000 := rfl
  unfold decT
  by_cases hn : n = 0
  · subst hn
    rw [if_pos rfl]
    refine ⟨by decide, by decide, rfl, ?_⟩
    have e : Lib.itoa 0 = [48] := by unfold Lib.itoa; rw [if_neg (by omega)]; unfold Lib.decDigits; rfl
    rw [e]; rfl
  · rw [if_neg hn]
    have hr : ∀ x ∈ decL 20 n, 0 ≤ x ∧ x ≤ 255 := fun x hx => by have := decL_range 20 n x hx; omega
    have hb := bytesOf_strOf _ hr
    have hd := decN_decL 20 n h0 (by rw [pow20]; omega)
    have hl := decL_lenB 20 10 n h0 (by rw [e10]; omega)
    have hsz : (strOf (decL 20 n)).size = (decL 20 n).length := by rw [← bytesOf_length, hb]
    refine ⟨by omega, ?_, by rw [hb]; exact hd, ?_⟩
    · cases hL : decL 20 n with
      | nil => rw [hL] at hd; simp only [decN, Option.some.injEq] at hd; omega
      | cons x r => rw [hL] at hsz; rw [hsz, List.length_cons]; omega
    · apply bytesOf_inj
      rw [hb]
      obtain ⟨u, rfl⟩ : ∃ u : Nat, n = u := ⟨n.toNat, by omega⟩
      rw [decL_dig 20 u (by omega) (by
        have : (10 : Nat) ^ 20 = 100000000000000000000 := rfl
        omega)]
      unfold bytesOf Lib.itoa
      rw [if_neg (by omega)]
      simp
theorem rdec_true (t : ByteArray) (h : (rdec t).2 = true) : rdec t = ((rdec t).1, true) ∧ (0 ≤ (rdec t).1 ∧ (rdec t).1 ≤ 1000000000) ∧ decT (rdec t).1 = t ∧ Lib.atoiAll t.data.toList = .ok (rdec t).1 := by
  unfold rdec at h ⊢
  cases hd : decN 0 (bytesOf t) with
  | none => rw [hd] at h; cases h
  | some n =>
    rw [hd] at h
    simp only at h ⊢
    split at h
    · rename_i q
      have hge := decN_ge _ _ _ (Int.le_refl 0) hd
      obtain ⟨s1, s2, s3, s4⟩ := decT_bytes n hge q.2.1
      rw [if_pos q]
      refine ⟨rfl, ⟨hge, q.2.1⟩, q.2.2, ?_⟩
      obtain ⟨u, rfl⟩ : ∃ u : Nat, n = u := ⟨n.toNat, by omega⟩
      exact atoi_dec t u (by rw [q.2.2] at s2; exact s2) hd (by omega)
    · cases h
theorem rdec_is (n : Int) (h0 : 0 ≤ n) (h : n ≤ 1000000000) : rdec (decT n) = (n, true) := by
  obtain ⟨s1, s2, s3, s4⟩ := decT_bytes n h0 h
  unfold rdec
  rw [s3]
  simp only
  rw [if_pos ⟨s1, h, trivial⟩]
theorem rdec_not (t : ByteArray) (h : ¬ (rdec t).2 = true) : rdec t = (0, false) := by
  unfold rdec at h ⊢
  cases hd : decN 0 (bytesOf t) with
  | none => rfl
  | some n =>
    rw [hd] at h
    simp only at h ⊢
    split
    · rename_i q; rw [if_pos q] at h; exact absurd rfl h
    · rfl
end Go.Mth

/-
  DERIVED: THE SHELF's CONTRACTS AT THIS DUMP, IN PLAIN WORDS (tools/lay-plain.mjs out of 'TryzShelf.lean', which tools/lay-shelf.mjs wrote): THE SAME DECLARATIONS UNDER THE SAME NAMES: 'import', 'namespace', 'open', 'def', 'theorem' AND NOTHING ELSE: no command of the shelf's: FOR A HAND-IN. Each laying: the table of numbers ('.._ren') and one theorem, a field a fact of the dump's own or the kernel's comparison; each contract: ONE APPLICATION.
-/
namespace Go.Proofs
open Go.Shelf
def Tryz.laysM171_ren : Go.Shelf.Ren := ⟨fun | 171 => 189 | 243 => 202 | 246 => 110 | 283 => 144 | 284 => 145 | 285 => 146 | 286 => 147 | 129 => 171 | 317 => 170 | 318 => 172 | 319 => 173 | 320 => 174 | 337 => 184 | 338 => 185 | n => n, fun | 3 => 3 | 9 => 9 | 2 => 2 | 4 => 4 | 171 => 153 | 0 => 0 | 53 => 154 | 37 => 81 | 5 => 5 | 173 => 157 | 212 => 176 | 51 => 159 | 20 => 20 | 213 => 177 | 46 => 82 | 232 => 189 | 233 => 190 | n => n, fun | 17 => 0 | 18 => 2 | 19 => 3 | n => n⟩
theorem Tryz.laysM171 : Go.Proofs.LaysM.n171 Tryz.prog Tryz.laysM171_ren := {
  mixed := by kernel_rfl
  f129 := Tryz.func171.trans (congrArg some (by kernel_rfl))
  f171 := Tryz.func189.trans (congrArg some (by kernel_rfl))
  f243 := Tryz.func202.trans (congrArg some (by kernel_rfl))
  f246 := Tryz.func110.trans (congrArg some (by kernel_rfl))
  f283 := Tryz.func144.trans (congrArg some (by kernel_rfl))
  f284 := Tryz.func145.trans (congrArg some (by kernel_rfl))
  f285 := Tryz.func146.trans (congrArg some (by kernel_rfl))
  f286 := Tryz.func147.trans (congrArg some (by kernel_rfl))
  f317 := Tryz.func170.trans (congrArg some (by kernel_rfl))
  f318 := Tryz.func172.trans (congrArg some (by kernel_rfl))
  f319 := Tryz.func173.trans (congrArg some (by kernel_rfl))
  f320 := Tryz.func174.trans (congrArg some (by kernel_rfl))
  f337 := Tryz.func184.trans (congrArg some (by kernel_rfl))
  f338 := Tryz.func185.trans (congrArg some (by kernel_rfl))
  t0 := Tryz.underlying0
  a0 := Tryz.isAgg0
  z0 := Tryz.sizeOf0
  v0 := Tryz.zeroValue0
  t2 := Tryz.underlying2
  a2 := Tryz.isAgg2
  z2 := Tryz.sizeOf2
  v2 := Tryz.zeroValue2
  t3 := Tryz.underlying3
  a3 := Tryz.isAgg3
  z3 := Tryz.sizeOf3
  v3 := Tryz.zeroValue3
  t4 := Tryz.underlying4
  a4 := Tryz.isAgg4
  z4 := Tryz.sizeOf4
  v4 := Tryz.zeroValue4
  t5 := Tryz.underlying5
  a5 := Tryz.isAgg5
  z5 := Tryz.sizeOf5
  v5 := Tryz.zeroValue5
  t9 := Tryz.underlying9
  a9 := Tryz.isAgg9
  z9 := Tryz.sizeOf9
  v9 := Tryz.zeroValue9
  t20 := Tryz.underlying20
  a20 := Tryz.isAgg20
  z20 := Tryz.sizeOf20
  v20 := Tryz.zeroValue20
  t37 := Tryz.underlying81
  a37 := Tryz.isAgg81
  z37 := Tryz.sizeOf81
  v37 := Tryz.zeroValue81
  t46 := Tryz.underlying82
  a46 := Tryz.isAgg82
  z46 := Tryz.sizeOf82
  v46 := Tryz.zeroValue82
  t51 := Tryz.underlying159
  a51 := Tryz.isAgg159
  z51 := Tryz.sizeOf159
  v51 := Tryz.zeroValue159
  t53 := Tryz.underlying154
  a53 := Tryz.isAgg154
  z53 := Tryz.sizeOf154
  v53 := Tryz.zeroValue154
  t171 := Tryz.underlying153
  a171 := Tryz.isAgg153
  z171 := Tryz.sizeOf153
  v171 := Tryz.zeroValue153
  t173 := Tryz.underlying157
  a173 := Tryz.isAgg157
  z173 := Tryz.sizeOf157
  v173 := Tryz.zeroValue157
  t212 := Tryz.underlying176
  a212 := Tryz.isAgg176
  z212 := Tryz.sizeOf176
  v212 := Tryz.zeroValue176
  t213 := Tryz.underlying177
  a213 := Tryz.isAgg177
  z213 := Tryz.sizeOf177
  t232 := Tryz.underlying189
  a232 := Tryz.isAgg189
  z232 := Tryz.sizeOf189
  v232 := Tryz.zeroValue189
  t233 := Tryz.underlying190
  a233 := Tryz.isAgg190
  z233 := Tryz.sizeOf190
  v233 := Tryz.zeroValue190
  g17 := by kernel_rfl
  g18 := by kernel_rfl
  g19 := by kernel_rfl
  i0 := by kernel_rfl
  i2 := by kernel_rfl
  i3 := by kernel_rfl
  i4 := by kernel_rfl
  i5 := by kernel_rfl
  i9 := by kernel_rfl
  i20 := by kernel_rfl
  i37 := by kernel_rfl
  i46 := by kernel_rfl
  i51 := by kernel_rfl
  i53 := by kernel_rfl
  i171 := by kernel_rfl
  i173 := by kernel_rfl
  i212 := by kernel_rfl
  i232 := by kernel_rfl
  i233 := by kernel_rfl
  m17 := by kernel_rfl
  m18 := by kernel_rfl
  m19 := by kernel_rfl }
open Go.RowKit Go.Sort Go.Lib in
/-- strconv.Itoa: "Itoa is equivalent to FormatInt(int64(i), 10).": i's DECIMAL NUMERAL ('Lib.itoa': a '-' where i is negative, then the digits), FOR EVERY int. The world behind the call: the world before it, new blocks behind the heap (the library's 'var a [24]byte'), draws. (LAID: no walk: one application.) -/
theorem Tryz.strconv_Itoa (n : Int) (h0 : -9223372036854775808 ≤ n) (h1 : n ≤ 9223372036854775807) (w : World) (htab : Lib.TabIs Tryz.prog w "internal/strconv.uint64pow10" .u64 Lib.pow10Tab) :
    Calls Tryz.prog 189 #[.int .i64 n] w fun e w' => e = .returned (.string ⟨(Lib.itoa n).toArray⟩) ∧ ∃ k os, w' = grow (w.drewN k) os := Any.strconv_Itoa Tryz.laysM171 n h0 h1 w htab
def Tryz.laysC172_ren : Go.Shelf.Ren := ⟨fun | 172 => 178 | 244 => 187 | 245 => 188 | 247 => 197 | 279 => 198 | 280 => 199 | 281 => 200 | 282 => 201 | 287 => 206 | 316 => 207 | 171 => 189 | 205 => 208 | 321 => 210 | 322 => 211 | 243 => 202 | 246 => 110 | 283 => 144 | 284 => 145 | 285 => 146 | 286 => 147 | 129 => 171 | 317 => 170 | 318 => 172 | 319 => 173 | 320 => 174 | 337 => 184 | 338 => 185 | n => n, fun | 9 => 9 | 3 => 3 | 75 => 132 | 76 => 133 | 4 => 4 | 5 => 5 | 167 => 192 | 37 => 81 | 0 => 0 | 85 => 193 | 2 => 2 | 168 => 195 | 53 => 154 | 175 => 199 | 46 => 82 | 210 => 203 | 127 => 164 | 145 => 209 | 143 => 207 | 21 => 21 | 171 => 153 | 173 => 157 | 212 => 176 | 51 => 159 | 20 => 20 | 213 => 177 | 232 => 189 | 233 => 190 | 80 => 136 | n => n, fun | 15 => 4 | 16 => 5 | 17 => 0 | 18 => 2 | 19 => 3 | n => n⟩
theorem Tryz.laysC172 : Go.Proofs.LaysC.n172 Tryz.prog Tryz.laysC172_ren := {
  mixed := by kernel_rfl
  f129 := Tryz.func171.trans (congrArg some (by kernel_rfl))
  f171 := Tryz.func189.trans (congrArg some (by kernel_rfl))
  f172 := Tryz.func178.trans (congrArg some (by kernel_rfl))
  f205 := Tryz.func208.trans (congrArg some (by kernel_rfl))
  f243 := Tryz.func202.trans (congrArg some (by kernel_rfl))
  f244 := Tryz.func187.trans (congrArg some (by kernel_rfl))
  f245 := Tryz.func188.trans (congrArg some (by kernel_rfl))
  f246 := Tryz.func110.trans (congrArg some (by kernel_rfl))
  f247 := Tryz.func197.trans (congrArg some (by kernel_rfl))
  f279 := Tryz.func198.trans (congrArg some (by kernel_rfl))
  f280 := Tryz.func199.trans (congrArg some (by kernel_rfl))
  f281 := Tryz.func200.trans (congrArg some (by kernel_rfl))
  f282 := Tryz.func201.trans (congrArg some (by kernel_rfl))
  f283 := Tryz.func144.trans (congrArg some (by kernel_rfl))
  f284 := Tryz.func145.trans (congrArg some (by kernel_rfl))
  f285 := Tryz.func146.trans (congrArg some (by kernel_rfl))
  f286 := Tryz.func147.trans (congrArg some (by kernel_rfl))
  f287 := Tryz.func206.trans (congrArg some (by kernel_rfl))
  f316 := Tryz.func207.trans (congrArg some (by kernel_rfl))
  f317 := Tryz.func170.trans (congrArg some (by kernel_rfl))
  f318 := Tryz.func172.trans (congrArg some (by kernel_rfl))
  f319 := Tryz.func173.trans (congrArg some (by kernel_rfl))
  f320 := Tryz.func174.trans (congrArg some (by kernel_rfl))
  f321 := Tryz.func210.trans (congrArg some (by kernel_rfl))
  f322 := Tryz.func211.trans (congrArg some (by kernel_rfl))
  f337 := Tryz.func184.trans (congrArg some (by kernel_rfl))
  f338 := Tryz.func185.trans (congrArg some (by kernel_rfl))
  t0 := Tryz.underlying0
  a0 := Tryz.isAgg0
  z0 := Tryz.sizeOf0
  v0 := Tryz.zeroValue0
  t2 := Tryz.underlying2
  a2 := Tryz.isAgg2
  z2 := Tryz.sizeOf2
  v2 := Tryz.zeroValue2
  t3 := Tryz.underlying3
  a3 := Tryz.isAgg3
  z3 := Tryz.sizeOf3
  v3 := Tryz.zeroValue3
  t4 := Tryz.underlying4
  a4 := Tryz.isAgg4
  z4 := Tryz.sizeOf4
  v4 := Tryz.zeroValue4
  t5 := Tryz.underlying5
  a5 := Tryz.isAgg5
  z5 := Tryz.sizeOf5
  v5 := Tryz.zeroValue5
  t9 := Tryz.underlying9
  a9 := Tryz.isAgg9
  z9 := Tryz.sizeOf9
  v9 := Tryz.zeroValue9
  t20 := Tryz.underlying20
  a20 := Tryz.isAgg20
  z20 := Tryz.sizeOf20
  v20 := Tryz.zeroValue20
  t21 := Tryz.underlying21
  a21 := Tryz.isAgg21
  z21 := Tryz.sizeOf21
  v21 := Tryz.zeroValue21
  t37 := Tryz.underlying81
  a37 := Tryz.isAgg81
  z37 := Tryz.sizeOf81
  v37 := Tryz.zeroValue81
  t46 := Tryz.underlying82
  a46 := Tryz.isAgg82
  z46 := Tryz.sizeOf82
  v46 := Tryz.zeroValue82
  t51 := Tryz.underlying159
  a51 := Tryz.isAgg159
  z51 := Tryz.sizeOf159
  v51 := Tryz.zeroValue159
  t53 := Tryz.underlying154
  a53 := Tryz.isAgg154
  z53 := Tryz.sizeOf154
  v53 := Tryz.zeroValue154
  t75 := Tryz.underlying132
  a75 := Tryz.isAgg132
  z75 := Tryz.sizeOf132
  v75 := Tryz.zeroValue132
  t76 := Tryz.underlying133
  a76 := Tryz.isAgg133
  z76 := Tryz.sizeOf133
  v76 := Tryz.zeroValue133
  t85 := Tryz.underlying193
  a85 := Tryz.isAgg193
  z85 := Tryz.sizeOf193
  v85 := Tryz.zeroValue193
  t127 := Tryz.underlying164
  a127 := Tryz.isAgg164
  z127 := Tryz.sizeOf164
  v127 := Tryz.zeroValue164
  t143 := Tryz.underlying207
  a143 := Tryz.isAgg207
  z143 := Tryz.sizeOf207
  v143 := Tryz.zeroValue207
  t145 := Tryz.underlying209
  a145 := Tryz.isAgg209
  z145 := Tryz.sizeOf209
  v145 := Tryz.zeroValue209
  t167 := Tryz.underlying192
  a167 := Tryz.isAgg192
  z167 := Tryz.sizeOf192
  v167 := Tryz.zeroValue192
  t168 := Tryz.underlying195
  a168 := Tryz.isAgg195
  z168 := Tryz.sizeOf195
  v168 := Tryz.zeroValue195
  t171 := Tryz.underlying153
  a171 := Tryz.isAgg153
  z171 := Tryz.sizeOf153
  v171 := Tryz.zeroValue153
  t173 := Tryz.underlying157
  a173 := Tryz.isAgg157
  z173 := Tryz.sizeOf157
  v173 := Tryz.zeroValue157
  t175 := Tryz.underlying199
  a175 := Tryz.isAgg199
  z175 := Tryz.sizeOf199
  v175 := Tryz.zeroValue199
  t210 := Tryz.underlying203
  a210 := Tryz.isAgg203
  z210 := Tryz.sizeOf203
  v210 := Tryz.zeroValue203
  t212 := Tryz.underlying176
  a212 := Tryz.isAgg176
  z212 := Tryz.sizeOf176
  v212 := Tryz.zeroValue176
  t213 := Tryz.underlying177
  a213 := Tryz.isAgg177
  z213 := Tryz.sizeOf177
  t232 := Tryz.underlying189
  a232 := Tryz.isAgg189
  z232 := Tryz.sizeOf189
  v232 := Tryz.zeroValue189
  t233 := Tryz.underlying190
  a233 := Tryz.isAgg190
  z233 := Tryz.sizeOf190
  v233 := Tryz.zeroValue190
  g15 := by kernel_rfl
  g16 := by kernel_rfl
  g17 := by kernel_rfl
  g18 := by kernel_rfl
  g19 := by kernel_rfl
  t80 := Tryz.underlying136
  a80 := Tryz.isAgg136
  z80 := Tryz.sizeOf136
  v80 := Tryz.zeroValue136
  i0 := by kernel_rfl
  i2 := by kernel_rfl
  i3 := by kernel_rfl
  i4 := by kernel_rfl
  i5 := by kernel_rfl
  i9 := by kernel_rfl
  i20 := by kernel_rfl
  i21 := by kernel_rfl
  i37 := by kernel_rfl
  i46 := by kernel_rfl
  i51 := by kernel_rfl
  i53 := by kernel_rfl
  i75 := by kernel_rfl
  i76 := by kernel_rfl
  i80 := by kernel_rfl
  i85 := by kernel_rfl
  i127 := by kernel_rfl
  i143 := by kernel_rfl
  i145 := by kernel_rfl
  i167 := by kernel_rfl
  i168 := by kernel_rfl
  i171 := by kernel_rfl
  i173 := by kernel_rfl
  i175 := by kernel_rfl
  i210 := by kernel_rfl
  i212 := by kernel_rfl
  i232 := by kernel_rfl
  i233 := by kernel_rfl
  m15 := by kernel_rfl
  m16 := by kernel_rfl
  m17 := by kernel_rfl
  m18 := by kernel_rfl
  m19 := by kernel_rfl
  c0 := by kernel_rfl
  c2 := by kernel_rfl
  c3 := by kernel_rfl
  c4 := by kernel_rfl
  c5 := by kernel_rfl
  c9 := by kernel_rfl
  c20 := by kernel_rfl
  c21 := by kernel_rfl
  c37 := by kernel_rfl
  c46 := by kernel_rfl
  c51 := by kernel_rfl
  c53 := by kernel_rfl
  c75 := by kernel_rfl
  c76 := by kernel_rfl
  c80 := by kernel_rfl
  c85 := by kernel_rfl
  c127 := by kernel_rfl
  c143 := by kernel_rfl
  c145 := by kernel_rfl
  c167 := by kernel_rfl
  c168 := by kernel_rfl
  c171 := by kernel_rfl
  c173 := by kernel_rfl
  c175 := by kernel_rfl
  c210 := by kernel_rfl
  c212 := by kernel_rfl
  c213 := by kernel_rfl
  c232 := by kernel_rfl
  c233 := by kernel_rfl }
open Go.RowKit in
/-- strconv.Atoi, AT EVERY STRING THAT SPELLS AN int ('Lib.atoiAll .. = .ok v'; of whatever length: leading zeros count): v, AND NO ERROR. The world: as it was, or with the one new row that '[]byte(..)' lays. (LAID: no walk: one application.) -/
theorem Tryz.strconv_Atoi_ok (s : ByteArray) (hmax : s.size ≤ 9223372036854775806) (v : Int) (h : Lib.atoiAll s.data.toList = .ok v) (w : World) :
    Calls Tryz.prog 178 #[.string s] w fun e w' => e = .returned (.tuple #[.int .i64 v, .nilIface]) ∧ (w' = w ∨ ∃ t, w' = Lib.bytesWorld w 5 t) := Any.strconv_Atoi_ok Tryz.laysC172 s hmax v h w
open Go.RowKit in
/-- strconv.Atoi, AT EVERY STRING THAT IS NO DECIMAL NUMERAL ('.syntax'): 0, AND AN ERROR THAT IS NOT nil: a *NumError in a new block N: {Func: "Atoi", Num: s's bytes, Err: what the variable ErrSyntax holds}. Of what was there nothing has turned. (LAID: no walk: one application.) -/
theorem Tryz.strconv_Atoi_syntax (s : ByteArray) (hlim : s.size ≤ 281474976710656) (h : Lib.atoiAll s.data.toList = .«syntax») (ev : Value) (w : World) (hv : w.cell? ⟨4, 0, none⟩ = some ev) (hev : ev = .nilIface ∨ ∃ te pe, ev = .iface te pe) :
    Calls Tryz.prog 178 #[.string s] w fun e w' => ∃ N, e = .returned (.tuple #[.int .i64 (0), .iface 195 (.pointer (some ⟨N, 0, none⟩))]) ∧ w.heap.size ≤ N ∧ w'.heap[N]? = some (.cells #[.string ⟨#[65, 116, 111, 105]⟩, .string s, ev] 203 (0, 0)) ∧ Below w.heap.size w w' := Any.strconv_Atoi_syntax Tryz.laysC172 s hlim h ev w hv hev
open Go.RowKit in
/-- strconv.Atoi, AT EVERY NUMERAL THAT NO int HOLDS ('.range'): THE GREATEST OR THE LEAST int, BY THE SIGN ('Lib.atoiSat'), AND AN ERROR THAT IS NOT nil: a *NumError in a new block N: {Func: "Atoi", Num: s's bytes, Err: what the variable ErrRange holds}. Of what was there nothing has turned. (LAID: no walk: one application.) -/
theorem Tryz.strconv_Atoi_range (s : ByteArray) (hlim : s.size ≤ 281474976710656) (h : Lib.atoiAll s.data.toList = .range) (ev : Value) (w : World) (hv : w.cell? ⟨5, 0, none⟩ = some ev) (hev : ev = .nilIface ∨ ∃ te pe, ev = .iface te pe) :
    Calls Tryz.prog 178 #[.string s] w fun e w' => ∃ N, e = .returned (.tuple #[.int .i64 (Lib.atoiSat s.data.toList), .iface 195 (.pointer (some ⟨N, 0, none⟩))]) ∧ w.heap.size ≤ N ∧ w'.heap[N]? = some (.cells #[.string ⟨#[65, 116, 111, 105]⟩, .string s, ev] 203 (0, 0)) ∧ Below w.heap.size w w' := Any.strconv_Atoi_range Tryz.laysC172 s hlim h ev w hv hev
end Go.Proofs

/- Decimals, by the library; a text cut at a byte: in plain values. -/
namespace Go.Pv
open Go.Proofs Go.Mth Go.RowKit
set_option linter.unusedSimpArgs false
set_option linter.unusedVariables false
set_option maxHeartbeats 4000000
set_option maxRecDepth 4000
/-! ### decimals, by the library; a text cut at a byte -/
theorem ent_Atoi : Ent Tryz.prog 178 := fun vs w => by
  simp [callFunc, Tryz.func178, show (Tryz.f178).name ≠ "runtime.NumGoroutine" by decide, show (Tryz.f178).body = some _ from rfl]
theorem ent_Itoa : Ent Tryz.prog 189 := fun vs w => by
  simp [callFunc, Tryz.func189, show (Tryz.f189).name ≠ "runtime.NumGoroutine" by decide, show (Tryz.f189).body = some _ from rfl]
theorem dr_tup2 {w : World} {A : Bl} {x y : PV} {u v : Value} (h1 : DR w A x u) (h2 : DR w A y v) : DR w A (.tup [x, y]) (.tuple #[u, v]) := .tup _ _ rfl fun i z h => by
  match i, h with
  | 0, h => cases h; exact h1
  | 1, h => cases h; exact h2
  | i + 2, h => simp at h
theorem glob_err {w : World} {V M : Bl} (hV : Vok w V M) {g : Nat} {t : TypeId} (hg : gget GS g = some [.ifc t]) : ∃ u, w.cell? ⟨g, 0, none⟩ = some (.iface t u) := by
  obtain ⟨_, _, cc, ee, fr, hw, hsz, hcells⟩ := hV.2 g [.ifc t] hg
  obtain ⟨hj, hdr⟩ := hcells 0 _ rfl
  obtain ⟨u, hu⟩ : ∃ u, cc.getD 0 undef = .iface t u := by
    have := hdr w V
    generalize cc.getD 0 undef = q at *
    cases this with
    | ifc _ u => exact ⟨u, rfl⟩
  exact ⟨u, by rw [cell_getD hw hj, hu]⟩
theorem atoi (s : ByteArray) (hs : s.size ≤ 281474976710656) : FnV Tryz.prog 178 [.str s] (fun r => (∃ v : Int, r = .tup [.int .i64 v, .raw .nilIface] ∧ Lib.atoiAll s.data.toList = .ok v) ∨ (∃ z : Int, r = .tup [.int .i64 z, .ifc 195] ∧ ∀ v, Lib.atoiAll s.data.toList ≠ .ok v)) := by
  cases h : Lib.atoiAll s.data.toList with
  | ok v =>
    refine ⟨_, .inl ⟨v, rfl, rfl⟩, ent_Atoi, fun w V Γ vs hV hvs hargs hhr hd => ?_⟩
    obtain ⟨l⟩ := vs
    match l, hvs, hargs with
    | [a0], _, hargs =>
    obtain rfl : a0 = .string s := vr_str (hargs 0 _ rfl)
    refine (Tryz.strconv_Atoi_ok s (by omega) v h w).mono ?_
    rintro e w' ⟨rfl, hw⟩
    refine ⟨_, Γ, rfl, ?_, .data (dr_tup2 (.int _ _) (.raw _)), fun _ => trivial, fun k _ _ l => l.elim, fun b ⟨k, l, _⟩ => l.elim, fun k l => l.elim⟩
    rcases hw with rfl | ⟨t, rfl⟩
    · exact Kp.refl _ _
    · have hb := Lib.bytesWorld_below w 5 t
      exact ⟨hb.os, hb.tape, hb.output, hb.size, fun k hk _ => hb.block k hk⟩
  | «syntax» =>
    refine ⟨_, .inr ⟨0, rfl, fun v hv => by cases hv⟩, ent_Atoi, fun w V Γ vs hV hvs hargs hhr hd => ?_⟩
    obtain ⟨l⟩ := vs
    match l, hvs, hargs with
    | [a0], _, hargs =>
    obtain rfl : a0 = .string s := vr_str (hargs 0 _ rfl)
    obtain ⟨u, hu⟩ := glob_err hV (g := 4) (t := 207) rfl
    refine (Tryz.strconv_Atoi_syntax s hs h _ w hu (.inr ⟨_, _, rfl⟩)).mono ?_
    rintro e w' ⟨N, rfl, h1, h2, hb⟩
    exact ⟨_, Γ, rfl, ⟨hb.os, hb.tape, hb.output, hb.size, fun k hk _ => hb.block k hk⟩, .data (dr_tup2 (.int _ _) (.ifc _ _)), fun _ => trivial, fun k _ _ l => l.elim, fun b ⟨k, l, _⟩ => l.elim, fun k l => l.elim⟩
  | range =>
    refine ⟨_, .inr ⟨Lib.atoiSat s.data.toList, rfl, fun v hv => by cases hv⟩, ent_Atoi, fun w V Γ vs hV hvs hargs hhr hd => ?_⟩
    obtain ⟨l⟩ := vs
    match l, hvs, hargs with
    | [a0], _, hargs =>
    obtain rfl : a0 = .string s := vr_str (hargs 0 _ rfl)
    obtain ⟨u, hu⟩ := glob_err hV (g := 5) (t := 207) rfl
    refine (Tryz.strconv_Atoi_range s hs h _ w hu (.inr ⟨_, _, rfl⟩)).mono ?_
    rintro e w' ⟨N, rfl, h1, h2, hb⟩
    exact ⟨_, Γ, rfl, ⟨hb.os, hb.tape, hb.output, hb.size, fun k hk _ => hb.block k hk⟩, .data (dr_tup2 (.int _ _) (.ifc _ _)), fun _ => trivial, fun k _ _ l => l.elim, fun b ⟨k, l, _⟩ => l.elim, fun k l => l.elim⟩
theorem itoa (n : Int) (h0 : 0 ≤ n) (h1 : n ≤ 1000000000) : Fn Tryz.prog 189 [.int .i64 n] [] (.str (decT n)) [] := by
  refine ⟨ent_Itoa, fun w V Γ vs hV hvs hargs hhr hd => ?_⟩
  obtain ⟨l⟩ := vs
  match l, hvs, hargs with
  | [a0], _, hargs =>
  obtain rfl : a0 = .int .i64 n := vr_int (hargs 0 _ rfl)
  have htab : Lib.TabIs Tryz.prog w "internal/strconv.uint64pow10" .u64 Lib.pow10Tab := by
    obtain ⟨_, _, cc, ee, fr, hw, hsz, hcells⟩ := hV.2 0 glob0 rfl
    have e1 : glob0 = Lib.pow10Tab.map (PV.int .u64) := rfl
    rw [e1] at hsz hcells
    have hcc : cc = (Lib.pow10Tab.map fun z => Value.int .u64 z).toArray := by
      apply Array.ext
      · rw [hsz]; simp
      · intro i h1 h2
        have h3 : i < Lib.pow10Tab.length := by simpa using h2
        have h4 := (hcells i (.int .u64 Lib.pow10Tab[i]) (by rw [List.getElem?_map, List.getElem?_eq_getElem h3]; rfl)).2 w V
        rw [Array.getD_eq_getD_getElem?, Array.getElem?_eq_getElem h1] at h4
        simp only [Option.getD_some] at h4
        generalize cc[i] = q at *
        cases h4
        simp
    unfold Lib.TabIs World.var?
    rw [show Tryz.prog.globalNamed "internal/strconv.uint64pow10" = some 0 by kernel_rfl]
    simp only [Option.bind_some]
    rw [hw]
    exact congrArg some hcc
  refine (Tryz.strconv_Itoa n (by omega) (by omega) w htab).mono ?_
  rintro e w' ⟨rfl, k, os, rfl⟩
  rw [(decT_bytes n h0 h1).2.2.2]
  exact ⟨_, Γ, rfl, ⟨rfl, rfl, rfl, by show w.heap.size ≤ (w.heap ++ os).size; rw [Array.size_append]; omega, fun b hb _ => by show (w.heap ++ os)[b]? = _; rw [Array.getElem?_append_left hb]⟩, .data (.str _), fun _ => trivial, fun k _ _ l => l.elim, fun b ⟨k, l, _⟩ => l.elim, fun k l => l.elim⟩
theorem impl_Decimal (n : Int) (h0 : 0 ≤ n) (h1 : n ≤ 1000000000) : Fn Tryz.prog 179 [.int .i64 n] [] (.str (decT n)) [] := by
  refine fn_x tok (n := 5) (rs := [.tmp 2]) Tryz.func179 (by decide) rfl rfl rfl rfl ?_
  refine Wr.go ?_
  repeat' ((first | (have ee := True.intro; refine Wr.mk ?_) | ((first | refine br_go ?_ ?_ | refine pick_go ?_ ?_) <;> intro ee f <;> (try simp only [BB] at f) <;> (try simp only [numOk, verOk] at f)) | (have ee := True.intro; first | refine call_x (itoa n h0 h1) rfl ⟨rfl⟩ ?_)) <;> (try simp (maxSteps := 1000000) (disch := first | omega | (simp only [LN, numOk, verOk] <;> omega) | exact Ck.mk rfl) only [ee, VC, T, Nat.reduceMul, Nat.reduceAdd, Nat.reduceSub, Nat.reduceLT, Nat.reduceEqDiff, Nat.reduceLeDiff, Nat.reduceBEq, reduceCtorEq, Int.reduceToNat, ↓reduceIte]) <;> (try clear ee))
theorem impl_ReadDecimal (t : ByteArray) (ht : t.size ≤ 281474976710656) : Fn Tryz.prog 164 [.str t] [] (.tup [.int .i64 (rdec t).1, .bool (rdec t).2]) [] := by
  have hT := rdec_true t
  have hN := rdec_not t
  have hI := fun v h0 h1 => rdec_is v h0 h1
  obtain ⟨r, hr, hA⟩ := atoi t ht
  rcases hr with ⟨v, rfl, hv⟩ | ⟨z, rfl, hz⟩
  · have hD := fun h0 h1 => impl_Decimal v h0 h1
    by_cases hb : 0 ≤ v ∧ v ≤ 1000000000
    · have hI := hI v hb.1 hb.2
      have hD := hD hb.1 hb.2
      by_cases he : decT v = t
      · rw [he] at hI hD
        rw [hI]
        refine fn_x tok (n := 25) (rs := [.tmp 2, .tmp 3]) Tryz.func164 (by decide) rfl rfl rfl rfl ?_
        refine Wr.go ?_
        repeat' ((first | (have ee := True.intro; refine Wr.mk ?_) | ((first | refine br_go ?_ ?_ | refine pick_go ?_ ?_) <;> intro ee f <;> (try simp only [BB] at f) <;> (try simp only [numOk, verOk] at f)) | (have ee := True.intro; first | refine call_x (hA) rfl ⟨rfl⟩ ?_ | refine call_x (impl_isNumber v) rfl ⟨rfl⟩ ?_ | refine call_x (hD) rfl ⟨rfl⟩ ?_)) <;> (try simp (maxSteps := 1000000) (disch := first | omega | (simp only [LN, numOk, verOk] <;> omega) | exact Ck.mk rfl) only [ee, VC, T, Nat.reduceMul, Nat.reduceAdd, Nat.reduceSub, Nat.reduceLT, Nat.reduceEqDiff, Nat.reduceLeDiff, Nat.reduceBEq, reduceCtorEq, Int.reduceToNat, ↓reduceIte]) <;> (try clear ee))
        all_goals (exfalso; first | omega | simp_all)
      · have hf : rdec t = (0, false) := hN fun k => by
          obtain ⟨_, _, q1, q2⟩ := hT k
          rw [hv] at q2
          cases q2
          exact he q1
        rw [hf]
        generalize decT v = dv at *
        refine fn_x tok (n := 25) (rs := [.tmp 2, .tmp 3]) Tryz.func164 (by decide) rfl rfl rfl rfl ?_
        refine Wr.go ?_
        repeat' ((first | (have ee := True.intro; refine Wr.mk ?_) | ((first | refine br_go ?_ ?_ | refine pick_go ?_ ?_) <;> intro ee f <;> (try simp only [BB] at f) <;> (try simp only [numOk, verOk] at f)) | (have ee := True.intro; first | refine call_x (hA) rfl ⟨rfl⟩ ?_ | refine call_x (impl_isNumber v) rfl ⟨rfl⟩ ?_ | refine call_x (hD) rfl ⟨rfl⟩ ?_)) <;> (try simp (maxSteps := 1000000) (disch := first | omega | (simp only [LN, numOk, verOk] <;> omega) | exact Ck.mk rfl) only [ee, VC, T, Nat.reduceMul, Nat.reduceAdd, Nat.reduceSub, Nat.reduceLT, Nat.reduceEqDiff, Nat.reduceLeDiff, Nat.reduceBEq, reduceCtorEq, Int.reduceToNat, ↓reduceIte]) <;> (try clear ee))
        all_goals first | rfl | (exfalso; first | omega | simp_all)
    · have hf : rdec t = (0, false) := hN fun k => by
        obtain ⟨_, q0, q1, q2⟩ := hT k
        rw [hv] at q2
        cases q2
        exact hb q0
      rw [hf]
      refine fn_x tok (n := 25) (rs := [.tmp 2, .tmp 3]) Tryz.func164 (by decide) rfl rfl rfl rfl ?_
      refine Wr.go ?_
      repeat' ((first | (have ee := True.intro; refine Wr.mk ?_) | ((first | refine br_go ?_ ?_ | refine pick_go ?_ ?_) <;> intro ee f <;> (try simp only [BB] at f) <;> (try simp only [numOk, verOk] at f)) | (have ee := True.intro; first | refine call_x (hA) rfl ⟨rfl⟩ ?_ | refine call_x (impl_isNumber v) rfl ⟨rfl⟩ ?_)) <;> (try simp (maxSteps := 1000000) (disch := first | omega | (simp only [LN, numOk, verOk] <;> omega) | exact Ck.mk rfl) only [ee, VC, T, Nat.reduceMul, Nat.reduceAdd, Nat.reduceSub, Nat.reduceLT, Nat.reduceEqDiff, Nat.reduceLeDiff, Nat.reduceBEq, reduceCtorEq, Int.reduceToNat, ↓reduceIte]) <;> (try clear ee))
      all_goals first | rfl | (exfalso; first | omega | simp_all)
  · have hf : rdec t = (0, false) := hN fun k => hz _ (hT k).2.2.2
    rw [hf]
    refine fn_x tok (n := 25) (rs := [.tmp 2, .tmp 3]) Tryz.func164 (by decide) rfl rfl rfl rfl ?_
    refine Wr.go ?_
    repeat' ((first | (have ee := True.intro; refine Wr.mk ?_) | ((first | refine br_go ?_ ?_ | refine pick_go ?_ ?_) <;> intro ee f <;> (try simp only [BB] at f) <;> (try simp only [numOk, verOk] at f)) | (have ee := True.intro; first | refine call_x (hA) rfl ⟨rfl⟩ ?_)) <;> (try simp (maxSteps := 1000000) (disch := first | omega | (simp only [LN, numOk, verOk] <;> omega) | exact Ck.mk rfl) only [ee, VC, T, Nat.reduceMul, Nat.reduceAdd, Nat.reduceSub, Nat.reduceLT, Nat.reduceEqDiff, Nat.reduceLeDiff, Nat.reduceBEq, reduceCtorEq, Int.reduceToNat, ↓reduceIte]) <;> (try clear ee))
theorem ent_IndexByte : Ent Tryz.prog 193 := fun vs w => by
  simp [callFunc, Tryz.func193, show (Tryz.f193).name ≠ "runtime.NumGoroutine" by decide, show (Tryz.f193).body = some _ from rfl]
def atB (s : ByteArray) (c : Int) : Int := Lib.indexByte s.data.toList c.toNat.toUInt8
set_option maxRecDepth 100000 in
theorem raw_IndexByte (s : ByteArray) (c : Int) (w : World) : Calls Tryz.prog 193 #[.string s, .int .u8 c] w fun e w' => e = .returned (.int .i64 (atB s c)) ∧ w' = w := by
  go_enter Tryz.func193, Tryz.ntmps193
  go_wp2
  rw [run_callFunc_extern Tryz.func204 (by kernel_rfl) (by kernel_rfl) (by kernel_rfl) (e := Extern.BytealgIndexByte.indexByte) (by kernel_rfl)]
  rw [Lib.run_indexByteString]
  simp only [Result.andThen]
  rw [Oper.upon_value]
  go_wp2
  go_ret
  exact ⟨rfl, rfl⟩
theorem indexByte (s : ByteArray) (c : Int) : Fn Tryz.prog 193 [.str s, .int .u8 c] [] (.int .i64 (atB s c)) [] := by
  refine ⟨ent_IndexByte, fun w V Γ vs hV hvs hargs hhr hd => ?_⟩
  obtain ⟨l⟩ := vs
  match l, hvs, hargs with
  | [a0, a1], _, hargs =>
  obtain rfl : a0 = .string s := vr_str (hargs 0 _ rfl)
  obtain rfl : a1 = .int .u8 c := vr_int (hargs 1 _ rfl)
  refine (raw_IndexByte s c w).mono ?_
  rintro e w' ⟨rfl, rfl⟩
  exact ⟨_, Γ, rfl, Kp.refl _ _, .data (.int _ _), fun _ => trivial, fun k _ _ l => l.elim, fun b ⟨k, l, _⟩ => l.elim, fun k l => l.elim⟩
theorem atB_is (s : ByteArray) (c : Nat) (hc : c < 256) : atB s c = findI (fun x : Int => decide (x = c)) (bytesOf s) 0 := by
  have e8 : ((c : Int).toNat.toUInt8).toNat = c := by
    rw [Int.toNat_natCast]
    show (UInt8.ofNat c).toNat = c
    rw [UInt8.toNat_ofNat']
    exact Nat.mod_eq_of_lt (by omega)
  unfold atB bytesOf
  generalize s.data.toList = L
  generalize (c : Int).toNat.toUInt8 = u at *
  induction L with
  | nil => rfl
  | cons b r ih =>
    have ed : (b == u) = decide ((b.toNat : Int) = c) := by
      rw [Bool.eq_iff_iff, beq_iff_eq, decide_eq_true_eq]
      constructor
      · rintro rfl; omega
      · intro h; exact UInt8.toNat_inj.1 (by omega)
    simp only [List.map_cons]
    unfold Lib.indexByte
    by_cases h : b == u
    · rw [if_pos h]
      unfold findI
      rw [← ed, if_pos h]; rfl
    · rw [if_neg h, findI_cons _ _ _ (by rw [← ed]; simpa using h), ← ih]
      have hr := findI_ge (fun x : Int => decide (x = c)) (r.map fun b => (b.toNat : Int))
      rw [← ih] at hr
      by_cases k : Lib.indexByte r u == -1
      · have k' : Lib.indexByte r u = -1 := by simpa using k
        rw [if_pos k, if_pos (by omega)]
      · have k' : ¬ Lib.indexByte r u = -1 := by simpa using k
        rw [if_neg k, if_neg (by omega)]
theorem index58 (s : ByteArray) (hs : s.size ≤ 1048576) : Fn Tryz.prog 186 [.str s, .str (strOf [58])] [] (.int .i64 (findI (fun x : Int => decide (x = 58)) (bytesOf s) 0)) [] := by
  have hx := indexByte s 58
  have e : atB s 58 = findI (fun x : Int => decide (x = 58)) (bytesOf s) 0 := atB_is s 58 (by decide)
  rw [e] at hx
  generalize hj : findI (fun x : Int => decide (x = 58)) (bytesOf s) 0 = j at *
  have hsz : (strOf [58]).size = 1 := rfl
  have hb : bt (strOf [58]) 0 = 58 := rfl
  have he : strOf [58] = s → j = 0 := fun h => by subst h; rw [← hj]; rfl
  generalize strOf [58] = q at *
  refine fn_x tok (n := 143) (rs := [.tmp 4]) Tryz.func186 (by decide) rfl rfl rfl rfl ?_
  refine Wr.go ?_
  repeat' ((first | (have ee := True.intro; refine Wr.mk ?_) | ((first | refine br_go ?_ ?_ | refine pick_go ?_ ?_) <;> intro ee f <;> (try simp only [BB] at f) <;> (try simp only [numOk, verOk] at f)) | (have ee := True.intro; first | refine call_x (hx) rfl ⟨rfl⟩ ?_)) <;> (try simp (maxSteps := 1000000) (disch := first | omega | (simp only [LN, numOk, verOk, hsz, hb] <;> omega) | exact Ck.mk rfl) only [ee, VC, T, Nat.reduceMul, Nat.reduceAdd, Nat.reduceSub, Nat.reduceLT, Nat.reduceEqDiff, Nat.reduceLeDiff, Nat.reduceBEq, reduceCtorEq, Int.reduceToNat, ↓reduceIte, hsz, hb]) <;> (try clear ee))
  rw [he f]
def cutT (t : ByteArray) : ByteArray × ByteArray × Bool := if 0 ≤ findI (fun x : Int => decide (x = 58)) (bytesOf t) 0 then (t.extract 0 (findI (fun x : Int => decide (x = 58)) (bytesOf t) 0).toNat, t.extract ((findI (fun x : Int => decide (x = 58)) (bytesOf t) 0).toNat + 1) t.size, true) else (t, ⟨#[]⟩, false)
theorem cutI_eq (s : ByteArray) : cutT (s.extract 1 s.size) = cutI s := by
  have hb : bytesOf (s.extract 1 s.size) = (bytesOf s).drop 1 := by
    rw [bytesOf_extract, List.take_of_length_le (by rw [bytesOf_length]; exact Nat.le_refl _)]
  have hc : colI s = if findI (fun x : Int => decide (x = 58)) ((bytesOf s).drop 1) 0 < 0 then -1 else findI (fun x : Int => decide (x = 58)) ((bytesOf s).drop 1) 0 + 1 := findI_shift _ _ 1
  have hr := findI_range (fun x : Int => decide (x = 58)) ((bytesOf s).drop 1)
  rw [List.length_drop, bytesOf_length] at hr
  unfold cutT cutI
  rw [hb, hc]
  generalize findI (fun x : Int => decide (x = 58)) ((bytesOf s).drop 1) 0 = j at *
  by_cases h : j < 0
  · rw [if_neg (by omega), if_pos h, if_neg (by decide)]
  · rw [if_pos (by omega), if_neg h, if_pos (by omega)]
    obtain ⟨m, rfl⟩ : ∃ m : Nat, j = m := ⟨j.toNat, by omega⟩
    have e1 : (s.extract 1 s.size).extract 0 (m : Int).toNat = s.extract 1 ((m : Int) + 1).toNat := by
      apply bytesOf_inj
      simp only [bytesOf_extract, Int.toNat_natCast, List.drop_zero, List.drop_take, List.take_take]
      have e : ((m : Int) + 1).toNat = m + 1 := by omega
      rw [e]
      congr 1
      omega
    have e2 : (s.extract 1 s.size).extract ((m : Int).toNat + 1) (s.extract 1 s.size).size = s.extract (((m : Int) + 1).toNat + 1) s.size := by
      apply bytesOf_inj
      simp only [bytesOf_extract, Int.toNat_natCast, ByteArray.size_extract]
      have e : ((m : Int) + 1).toNat = m + 1 := by omega
      rw [e, List.take_of_length_le (by rw [List.length_drop, List.length_take, bytesOf_length]; omega), List.take_of_length_le (by rw [bytesOf_length]; exact Nat.le_refl _), List.drop_drop]
      congr 1
      omega
    rw [e1, e2]
theorem cut58 (s : ByteArray) (hs : s.size ≤ 1048576) : Fn Tryz.prog 177 [.str s, .str (strOf [58])] [] (.tup [.str (cutT s).1, .str (cutT s).2.1, .bool (cutT s).2.2]) [] := by
  have hx := index58 s hs
  have hr := findI_range (fun x : Int => decide (x = 58)) (bytesOf s)
  rw [bytesOf_length] at hr
  unfold cutT
  generalize findI (fun x : Int => decide (x = 58)) (bytesOf s) 0 = j at *
  have hsz : (strOf [58]).size = 1 := rfl
  generalize strOf [58] = q at *
  refine fn_x tok (n := 23) (rs := [.tmp 4, .tmp 5, .tmp 6]) Tryz.func177 (by decide) rfl rfl rfl rfl ?_
  refine Wr.go ?_
  repeat' ((first | (have ee := True.intro; refine Wr.mk ?_) | ((first | refine br_go ?_ ?_ | refine pick_go ?_ ?_) <;> intro ee f <;> (try simp only [BB] at f) <;> (try simp only [numOk, verOk] at f)) | (have ee := True.intro; first | refine dr_go mixed (id := 3) [([], [0], []), ([], [7], []), ([0, 1], [13, 14], []), ([], [0], []), ([], [7], []), ([], [1], []), ([5], [18], []), ([4, 5, 6], [17, 19], []), ([3, 4, 5, 6, 7], [16, 20], []), ([0, 1, 2], [15], []), ([0, 1, 2, 3, 4, 5, 6, 7, 8, 9], [21], []), ([0, 1, 2, 3, 4, 5, 6, 7, 8, 9, 10], [], [])] rfl rfl rfl ?_ | refine call_x (hx) rfl ⟨rfl⟩ ?_)) <;> (try simp (maxSteps := 1000000) (disch := first | omega | (simp only [LN, numOk, verOk, hsz] <;> omega) | exact Ck.mk rfl) only [ee, VC, T, Nat.reduceMul, Nat.reduceAdd, Nat.reduceSub, Nat.reduceLT, Nat.reduceEqDiff, Nat.reduceLeDiff, Nat.reduceBEq, reduceCtorEq, Int.reduceToNat, ↓reduceIte, hsz]) <;> (try clear ee))
  · have e : (j + 1).toNat = j.toNat + 1 := by omega
    rw [if_pos f, e]
  · rw [if_neg (by omega)]
theorem cutS (s : ByteArray) (hs : s.size ≤ 1048576) : Fn Tryz.prog 163 [.str s, .str (strOf [58])] [] (.tup [.str (cutT s).1, .str (cutT s).2.1, .bool (cutT s).2.2]) [] := by
  have hx := cut58 s hs
  generalize cutT s = c at *
  obtain ⟨c1, c2, c3⟩ := c
  simp only at *
  generalize strOf [58] = q at *
  refine fn_x tok (n := 13) (rs := [.tmp 4, .tmp 5, .tmp 6]) Tryz.func163 (by decide) rfl rfl rfl rfl ?_
  refine Wr.go ?_
  repeat' ((first | (have ee := True.intro; refine Wr.mk ?_) | ((first | refine br_go ?_ ?_ | refine pick_go ?_ ?_) <;> intro ee f <;> (try simp only [BB] at f) <;> (try simp only [numOk, verOk] at f)) | (have ee := True.intro; first | refine call_x (hx) rfl ⟨rfl⟩ ?_)) <;> (try simp (maxSteps := 1000000) (disch := first | omega | (simp only [LN, numOk, verOk] <;> omega) | exact Ck.mk rfl) only [ee, VC, T, Nat.reduceMul, Nat.reduceAdd, Nat.reduceSub, Nat.reduceLT, Nat.reduceEqDiff, Nat.reduceLeDiff, Nat.reduceBEq, reduceCtorEq, Int.reduceToNat, ↓reduceIte]) <;> (try clear ee))
end Go.Pv

/- What functions of the program and of the reference do, in plain values. -/
namespace Go.Pv
open Go.Proofs Go.Mth
set_option linter.unusedSimpArgs false
set_option linter.unusedVariables false
set_option maxHeartbeats 4000000
set_option maxRecDepth 4000

/-! ### clones, and an entry taken out -/
theorem cloneE0 (a : Option Addr) (c : Nat) : FnE Tryz.prog 78 [.raw (.slice a 0 c)] [] (fun r m => r = .row 64 0 ∧ m = [(64, .row ⟨2, 0⟩ [])]) := by
  cases a with
  | none =>
    refine fn_e tok (n := 8) (rs := [.tmp 2]) Tryz.func78 (by decide) rfl rfl rfl rfl (low_of rfl) ?_
    refine Wr.go ?_
    repeat' ((first | (have ee := True.intro; refine Wr.mk ?_) | ((first | refine br_go ?_ ?_ | refine pick_go ?_ ?_) <;> intro ee f <;> (try simp only [BB] at f) <;> (try simp only [numOk, verOk] at f))) <;> (try simp (maxSteps := 1000000) (disch := first | omega | (simp only [LN, numOk, verOk, rfP, rvP, rhP, frP, elOk_en, elOk_nd, nfx_en, nfx_nd] <;> omega) | exact Ck.mk rfl) only [ee, VC, T, Nat.reduceMul, Nat.reduceAdd, Nat.reduceSub, Nat.reduceLT, Nat.reduceEqDiff, Nat.reduceLeDiff, Nat.reduceBEq, reduceCtorEq, Int.reduceToNat, ↓reduceIte, rfP, rvP, rhP, frP, elOk_en, elOk_nd, nfx_en, nfx_nd]) <;> (try clear ee))
    exact fin_t [none] (⟨rfl, rfl⟩) rfl (by simp [RV, RV2, RVl, RV1, tau, tget, hget, data1, oneOf]) (by simp [RH, RVl, RV1, tau, hget, data1]) (by simp [Taus, hget])
  | some p =>
    refine fn_e tok (n := 8) (rs := [.tmp 2]) Tryz.func78 (by decide) rfl rfl rfl rfl (low_of rfl) ?_
    refine Wr.go ?_
    repeat' ((first | (have ee := True.intro; refine Wr.mk ?_) | ((first | refine br_go ?_ ?_ | refine pick_go ?_ ?_) <;> intro ee f <;> (try simp only [BB] at f) <;> (try simp only [numOk, verOk] at f))) <;> (try simp (maxSteps := 1000000) (disch := first | omega | (simp only [LN, numOk, verOk, rfP, rvP, rhP, frP, elOk_en, elOk_nd, nfx_en, nfx_nd] <;> omega) | exact Ck.mk rfl) only [ee, VC, T, Nat.reduceMul, Nat.reduceAdd, Nat.reduceSub, Nat.reduceLT, Nat.reduceEqDiff, Nat.reduceLeDiff, Nat.reduceBEq, reduceCtorEq, Int.reduceToNat, ↓reduceIte, rfP, rvP, rhP, frP, elOk_en, elOk_nd, nfx_en, nfx_nd]) <;> (try clear ee))
    exact fin_t [some 384] (⟨rfl, rfl⟩) rfl (by simp [RV, RV2, RVl, RV1, tau, tget, hget, data1, oneOf]) (by simp [RH, RVl, RV1, tau, hget, data1]) (by simp [Taus, hget])
theorem cloneE (L : List Et) (hl : L.length ≤ 1048576) : FnE Tryz.prog 78 [.far (L.map enP)] [] (fun r m => r = .row 64 L.length ∧ m = [(64, .row ⟨2, 0⟩ (L.map enP))]) := by
  cases L with
  | nil => exact ⟨_, _, ⟨rfl, rfl⟩, Fn.far0 fun a c => by obtain ⟨_, _, ⟨rfl, rfl⟩, k⟩ := cloneE0 a c; exact k⟩
  | cons x r =>
    have hE : elOk 2 (enP x :: r.map enP) := by
      intro z hz
      rcases List.mem_cons.1 hz with rfl | hz
      · exact ⟨rfl, rfl⟩
      · obtain ⟨y, _, rfl⟩ := List.mem_map.1 hz
        exact ⟨rfl, rfl⟩
    rw [List.map_cons]
    rw [List.length_cons] at hl
    refine fn_e tok (n := 8) (rs := [.tmp 2]) Tryz.func78 (by decide) rfl rfl rfl rfl (low_of rfl) ?_
    refine Wr.go ?_
    repeat' ((first | (have ee := True.intro; refine Wr.mk ?_) | ((first | refine br_go ?_ ?_ | refine pick_go ?_ ?_) <;> intro ee f <;> (try simp only [BB] at f) <;> (try simp only [numOk, verOk] at f))) <;> (try simp (maxSteps := 1000000) (disch := first | omega | (simp only [LN, numOk, verOk, rfP, rvP, rhP, frP, elOk_en, elOk_nd, nfx_en, nfx_nd, hE] <;> omega) | exact Ck.mk rfl) only [ee, VC, T, Nat.reduceMul, Nat.reduceAdd, Nat.reduceSub, Nat.reduceLT, Nat.reduceEqDiff, Nat.reduceLeDiff, Nat.reduceBEq, reduceCtorEq, Int.reduceToNat, ↓reduceIte, rfP, rvP, rhP, frP, elOk_en, elOk_nd, nfx_en, nfx_nd, hE]) <;> (try clear ee))
    exact fin_t [some 384] (⟨rfl, rfl⟩) rfl (by simp [RV, RV2, RVl, RV1, tau, tget, hget, data1, oneOf, List.length_cons, List.length_map]) (by simp [RH, RVl, RV1, tau, hget, data1, List.length_cons, List.length_map]) (by simp [Taus, hget, List.length_cons, List.length_map])
theorem cloneN0 (a : Option Addr) (c : Nat) : FnE Tryz.prog 77 [.raw (.slice a 0 c)] [] (fun r m => r = .row 64 0 ∧ m = [(64, .row ⟨3, 0⟩ [])]) := by
  cases a with
  | none =>
    refine fn_e tok (n := 8) (rs := [.tmp 2]) Tryz.func77 (by decide) rfl rfl rfl rfl (low_of rfl) ?_
    refine Wr.go ?_
    repeat' ((first | (have ee := True.intro; refine Wr.mk ?_) | ((first | refine br_go ?_ ?_ | refine pick_go ?_ ?_) <;> intro ee f <;> (try simp only [BB] at f) <;> (try simp only [numOk, verOk] at f))) <;> (try simp (maxSteps := 1000000) (disch := first | omega | (simp only [LN, numOk, verOk, rfP, rvP, rhP, frP, elOk_en, elOk_nd, nfx_en, nfx_nd] <;> omega) | exact Ck.mk rfl) only [ee, VC, T, Nat.reduceMul, Nat.reduceAdd, Nat.reduceSub, Nat.reduceLT, Nat.reduceEqDiff, Nat.reduceLeDiff, Nat.reduceBEq, reduceCtorEq, Int.reduceToNat, ↓reduceIte, rfP, rvP, rhP, frP, elOk_en, elOk_nd, nfx_en, nfx_nd]) <;> (try clear ee))
    exact fin_t [none] (⟨rfl, rfl⟩) rfl (by simp [RV, RV2, RVl, RV1, tau, tget, hget, data1, oneOf]) (by simp [RH, RVl, RV1, tau, hget, data1]) (by simp [Taus, hget])
  | some p =>
    refine fn_e tok (n := 8) (rs := [.tmp 2]) Tryz.func77 (by decide) rfl rfl rfl rfl (low_of rfl) ?_
    refine Wr.go ?_
    repeat' ((first | (have ee := True.intro; refine Wr.mk ?_) | ((first | refine br_go ?_ ?_ | refine pick_go ?_ ?_) <;> intro ee f <;> (try simp only [BB] at f) <;> (try simp only [numOk, verOk] at f))) <;> (try simp (maxSteps := 1000000) (disch := first | omega | (simp only [LN, numOk, verOk, rfP, rvP, rhP, frP, elOk_en, elOk_nd, nfx_en, nfx_nd] <;> omega) | exact Ck.mk rfl) only [ee, VC, T, Nat.reduceMul, Nat.reduceAdd, Nat.reduceSub, Nat.reduceLT, Nat.reduceEqDiff, Nat.reduceLeDiff, Nat.reduceBEq, reduceCtorEq, Int.reduceToNat, ↓reduceIte, rfP, rvP, rhP, frP, elOk_en, elOk_nd, nfx_en, nfx_nd]) <;> (try clear ee))
    exact fin_t [some 384] (⟨rfl, rfl⟩) rfl (by simp [RV, RV2, RVl, RV1, tau, tget, hget, data1, oneOf]) (by simp [RH, RVl, RV1, tau, hget, data1]) (by simp [Taus, hget])
theorem cloneN (L : List Nd) (hl : L.length ≤ 1048576) : FnE Tryz.prog 77 [.far (L.map ndP)] [] (fun r m => r = .row 64 L.length ∧ m = [(64, .row ⟨3, 0⟩ (L.map ndP))]) := by
  cases L with
  | nil => exact ⟨_, _, ⟨rfl, rfl⟩, Fn.far0 fun a c => by obtain ⟨_, _, ⟨rfl, rfl⟩, k⟩ := cloneN0 a c; exact k⟩
  | cons x r =>
    have hE : elOk 3 (ndP x :: r.map ndP) := by
      intro z hz
      rcases List.mem_cons.1 hz with rfl | hz
      · exact ⟨rfl, rfl⟩
      · obtain ⟨y, _, rfl⟩ := List.mem_map.1 hz
        exact ⟨rfl, rfl⟩
    rw [List.map_cons]
    rw [List.length_cons] at hl
    refine fn_e tok (n := 8) (rs := [.tmp 2]) Tryz.func77 (by decide) rfl rfl rfl rfl (low_of rfl) ?_
    refine Wr.go ?_
    repeat' ((first | (have ee := True.intro; refine Wr.mk ?_) | ((first | refine br_go ?_ ?_ | refine pick_go ?_ ?_) <;> intro ee f <;> (try simp only [BB] at f) <;> (try simp only [numOk, verOk] at f))) <;> (try simp (maxSteps := 1000000) (disch := first | omega | (simp only [LN, numOk, verOk, rfP, rvP, rhP, frP, elOk_en, elOk_nd, nfx_en, nfx_nd, hE] <;> omega) | exact Ck.mk rfl) only [ee, VC, T, Nat.reduceMul, Nat.reduceAdd, Nat.reduceSub, Nat.reduceLT, Nat.reduceEqDiff, Nat.reduceLeDiff, Nat.reduceBEq, reduceCtorEq, Int.reduceToNat, ↓reduceIte, rfP, rvP, rhP, frP, elOk_en, elOk_nd, nfx_en, nfx_nd, hE]) <;> (try clear ee))
    exact fin_t [some 384] (⟨rfl, rfl⟩) rfl (by simp [RV, RV2, RVl, RV1, tau, tget, hget, data1, oneOf, List.length_cons, List.length_map]) (by simp [RH, RVl, RV1, tau, hget, data1, List.length_cons, List.length_map]) (by simp [Taus, hget, List.length_cons, List.length_map])
theorem cloneS0 (a : Option Addr) (c : Nat) : FnE Tryz.prog 79 [.raw (.slice a 0 c)] [] (fun r m => r = .row 64 0 ∧ m = [(64, .row ⟨1, 0⟩ [])]) := by
  cases a with
  | none =>
    refine fn_e tok (n := 8) (rs := [.tmp 2]) Tryz.func79 (by decide) rfl rfl rfl rfl (low_of rfl) ?_
    refine Wr.go ?_
    repeat' ((first | (have ee := True.intro; refine Wr.mk ?_) | ((first | refine br_go ?_ ?_ | refine pick_go ?_ ?_) <;> intro ee f <;> (try simp only [BB] at f) <;> (try simp only [numOk, verOk] at f))) <;> (try simp (maxSteps := 1000000) (disch := first | omega | (simp only [LN, numOk, verOk, rfP, rvP, rhP, frP, elOk_en, elOk_nd, nfx_en, nfx_nd] <;> omega) | exact Ck.mk rfl) only [ee, VC, T, Nat.reduceMul, Nat.reduceAdd, Nat.reduceSub, Nat.reduceLT, Nat.reduceEqDiff, Nat.reduceLeDiff, Nat.reduceBEq, reduceCtorEq, Int.reduceToNat, ↓reduceIte, rfP, rvP, rhP, frP, elOk_en, elOk_nd, nfx_en, nfx_nd]) <;> (try clear ee))
    exact fin_t [none] (⟨rfl, rfl⟩) rfl (by simp [RV, RV2, RVl, RV1, tau, tget, hget, data1, oneOf]) (by simp [RH, RVl, RV1, tau, hget, data1]) (by simp [Taus, hget])
  | some p =>
    refine fn_e tok (n := 8) (rs := [.tmp 2]) Tryz.func79 (by decide) rfl rfl rfl rfl (low_of rfl) ?_
    refine Wr.go ?_
    repeat' ((first | (have ee := True.intro; refine Wr.mk ?_) | ((first | refine br_go ?_ ?_ | refine pick_go ?_ ?_) <;> intro ee f <;> (try simp only [BB] at f) <;> (try simp only [numOk, verOk] at f))) <;> (try simp (maxSteps := 1000000) (disch := first | omega | (simp only [LN, numOk, verOk, rfP, rvP, rhP, frP, elOk_en, elOk_nd, nfx_en, nfx_nd] <;> omega) | exact Ck.mk rfl) only [ee, VC, T, Nat.reduceMul, Nat.reduceAdd, Nat.reduceSub, Nat.reduceLT, Nat.reduceEqDiff, Nat.reduceLeDiff, Nat.reduceBEq, reduceCtorEq, Int.reduceToNat, ↓reduceIte, rfP, rvP, rhP, frP, elOk_en, elOk_nd, nfx_en, nfx_nd]) <;> (try clear ee))
    exact fin_t [some 384] (⟨rfl, rfl⟩) rfl (by simp [RV, RV2, RVl, RV1, tau, tget, hget, data1, oneOf]) (by simp [RH, RVl, RV1, tau, hget, data1]) (by simp [Taus, hget])
theorem cloneS (L : List ByteArray) (hl : L.length ≤ 1048576) : FnE Tryz.prog 79 [.far (L.map PV.str)] [] (fun r m => r = .row 64 L.length ∧ m = [(64, .row ⟨1, 0⟩ (L.map PV.str))]) := by
  cases L with
  | nil => exact ⟨_, _, ⟨rfl, rfl⟩, Fn.far0 fun a c => by obtain ⟨_, _, ⟨rfl, rfl⟩, k⟩ := cloneS0 a c; exact k⟩
  | cons x r =>
    have hE : elOk 1 (PV.str x :: r.map PV.str) := by
      intro z hz
      rcases List.mem_cons.1 hz with rfl | hz
      · exact ⟨rfl, rfl⟩
      · obtain ⟨y, _, rfl⟩ := List.mem_map.1 hz
        exact ⟨rfl, rfl⟩
    rw [List.map_cons]
    rw [List.length_cons] at hl
    refine fn_e tok (n := 8) (rs := [.tmp 2]) Tryz.func79 (by decide) rfl rfl rfl rfl (low_of rfl) ?_
    refine Wr.go ?_
    repeat' ((first | (have ee := True.intro; refine Wr.mk ?_) | ((first | refine br_go ?_ ?_ | refine pick_go ?_ ?_) <;> intro ee f <;> (try simp only [BB] at f) <;> (try simp only [numOk, verOk] at f))) <;> (try simp (maxSteps := 1000000) (disch := first | omega | (simp only [LN, numOk, verOk, rfP, rvP, rhP, frP, elOk_en, elOk_nd, nfx_en, nfx_nd, hE] <;> omega) | exact Ck.mk rfl) only [ee, VC, T, Nat.reduceMul, Nat.reduceAdd, Nat.reduceSub, Nat.reduceLT, Nat.reduceEqDiff, Nat.reduceLeDiff, Nat.reduceBEq, reduceCtorEq, Int.reduceToNat, ↓reduceIte, rfP, rvP, rhP, frP, elOk_en, elOk_nd, nfx_en, nfx_nd, hE]) <;> (try clear ee))
    exact fin_t [some 384] (⟨rfl, rfl⟩) rfl (by simp [RV, RV2, RVl, RV1, tau, tget, hget, data1, oneOf, List.length_cons, List.length_map]) (by simp [RH, RVl, RV1, tau, hget, data1, List.length_cons, List.length_map]) (by simp [Taus, hget, List.length_cons, List.length_map])
theorem cloneI0 (a : Option Addr) (c : Nat) : FnE Tryz.prog 76 [.raw (.slice a 0 c)] [] (fun r m => r = .row 64 0 ∧ m = [(64, .row ⟨1, 0⟩ [])]) := by
  cases a with
  | none =>
    refine fn_e tok (n := 8) (rs := [.tmp 2]) Tryz.func76 (by decide) rfl rfl rfl rfl (low_of rfl) ?_
    refine Wr.go ?_
    repeat' ((first | (have ee := True.intro; refine Wr.mk ?_) | ((first | refine br_go ?_ ?_ | refine pick_go ?_ ?_) <;> intro ee f <;> (try simp only [BB] at f) <;> (try simp only [numOk, verOk] at f))) <;> (try simp (maxSteps := 1000000) (disch := first | omega | (simp only [LN, numOk, verOk, rfP, rvP, rhP, frP, elOk_en, elOk_nd, nfx_en, nfx_nd] <;> omega) | exact Ck.mk rfl) only [ee, VC, T, Nat.reduceMul, Nat.reduceAdd, Nat.reduceSub, Nat.reduceLT, Nat.reduceEqDiff, Nat.reduceLeDiff, Nat.reduceBEq, reduceCtorEq, Int.reduceToNat, ↓reduceIte, rfP, rvP, rhP, frP, elOk_en, elOk_nd, nfx_en, nfx_nd]) <;> (try clear ee))
    exact fin_t [none] (⟨rfl, rfl⟩) rfl (by simp [RV, RV2, RVl, RV1, tau, tget, hget, data1, oneOf]) (by simp [RH, RVl, RV1, tau, hget, data1]) (by simp [Taus, hget])
  | some p =>
    refine fn_e tok (n := 8) (rs := [.tmp 2]) Tryz.func76 (by decide) rfl rfl rfl rfl (low_of rfl) ?_
    refine Wr.go ?_
    repeat' ((first | (have ee := True.intro; refine Wr.mk ?_) | ((first | refine br_go ?_ ?_ | refine pick_go ?_ ?_) <;> intro ee f <;> (try simp only [BB] at f) <;> (try simp only [numOk, verOk] at f))) <;> (try simp (maxSteps := 1000000) (disch := first | omega | (simp only [LN, numOk, verOk, rfP, rvP, rhP, frP, elOk_en, elOk_nd, nfx_en, nfx_nd] <;> omega) | exact Ck.mk rfl) only [ee, VC, T, Nat.reduceMul, Nat.reduceAdd, Nat.reduceSub, Nat.reduceLT, Nat.reduceEqDiff, Nat.reduceLeDiff, Nat.reduceBEq, reduceCtorEq, Int.reduceToNat, ↓reduceIte, rfP, rvP, rhP, frP, elOk_en, elOk_nd, nfx_en, nfx_nd]) <;> (try clear ee))
    exact fin_t [some 384] (⟨rfl, rfl⟩) rfl (by simp [RV, RV2, RVl, RV1, tau, tget, hget, data1, oneOf]) (by simp [RH, RVl, RV1, tau, hget, data1]) (by simp [Taus, hget])
theorem cloneI (L : List Int) (hl : L.length ≤ 1048576) : FnE Tryz.prog 76 [.far (L.map (PV.int .i64))] [] (fun r m => r = .row 64 L.length ∧ m = [(64, .row ⟨1, 0⟩ (L.map (PV.int .i64)))]) := by
  cases L with
  | nil => exact ⟨_, _, ⟨rfl, rfl⟩, Fn.far0 fun a c => by obtain ⟨_, _, ⟨rfl, rfl⟩, k⟩ := cloneI0 a c; exact k⟩
  | cons x r =>
    have hE : elOk 1 ((PV.int .i64) x :: r.map (PV.int .i64)) := by
      intro z hz
      rcases List.mem_cons.1 hz with rfl | hz
      · exact ⟨rfl, rfl⟩
      · obtain ⟨y, _, rfl⟩ := List.mem_map.1 hz
        exact ⟨rfl, rfl⟩
    rw [List.map_cons]
    rw [List.length_cons] at hl
    refine fn_e tok (n := 8) (rs := [.tmp 2]) Tryz.func76 (by decide) rfl rfl rfl rfl (low_of rfl) ?_
    refine Wr.go ?_
    repeat' ((first | (have ee := True.intro; refine Wr.mk ?_) | ((first | refine br_go ?_ ?_ | refine pick_go ?_ ?_) <;> intro ee f <;> (try simp only [BB] at f) <;> (try simp only [numOk, verOk] at f))) <;> (try simp (maxSteps := 1000000) (disch := first | omega | (simp only [LN, numOk, verOk, rfP, rvP, rhP, frP, elOk_en, elOk_nd, nfx_en, nfx_nd, hE] <;> omega) | exact Ck.mk rfl) only [ee, VC, T, Nat.reduceMul, Nat.reduceAdd, Nat.reduceSub, Nat.reduceLT, Nat.reduceEqDiff, Nat.reduceLeDiff, Nat.reduceBEq, reduceCtorEq, Int.reduceToNat, ↓reduceIte, rfP, rvP, rhP, frP, elOk_en, elOk_nd, nfx_en, nfx_nd, hE]) <;> (try clear ee))
    exact fin_t [some 384] (⟨rfl, rfl⟩) rfl (by simp [RV, RV2, RVl, RV1, tau, tget, hget, data1, oneOf, List.length_cons, List.length_map]) (by simp [RH, RVl, RV1, tau, hget, data1, List.length_cons, List.length_map]) (by simp [Taus, hget, List.length_cons, List.length_map])
theorem deleteE_V (L : List Et) (i : Nat) (h : i < L.length) (hl : L.length ≤ 1048576) : FnE Tryz.prog 182 [.row 0 L.length, .int .i64 i, .int .i64 (i + 1)] [(0, .row ⟨2, 0⟩ (L.map enP))] (fun r m => r = .view 0 L.length 0 (L.length - 1) ∧ m = [(0, .row ⟨2, 0⟩ ((L.take i ++ L.drop (i + 1)).map enP ++ [.agg [.junk, .junk]]))]) := by
  have hT : ((i : Int) + 1).toNat = i + 1 := by omega
  have hL : L.take L.length = L := List.take_length
  have hlen : i + (L.drop (i + 1)).length = L.length - 1 := by rw [List.length_drop]; omega
  have hA : (List.map enP (List.take i L) ++ List.map enP (List.drop (i + 1) L)).length = L.length - 1 := by
    rw [List.length_append, List.length_map, List.length_map, List.length_take, List.length_drop]; omega
  have hM : (List.map enP (List.take i L) ++ List.map enP (List.drop (i + 1) L) ++ List.map enP (List.drop (L.length - 1) L)).length = L.length := by
    rw [List.length_append, hA, List.length_map, List.length_drop]; omega
  have hl2 : (List.take (L.length - 1) (List.map enP (List.take i L) ++ List.map enP (List.drop (i + 1) L) ++ List.map enP (List.drop (L.length - 1) L))).length = L.length - 1 := by
    rw [List.length_take, hM]; omega
  have hone : L.length - (L.length - 1) = 1 := by omega
  have hfin : List.take (L.length - 1) (List.map enP (List.take i L) ++ List.map enP (List.drop (i + 1) L) ++ List.map enP (List.drop (L.length - 1) L)) ++ List.replicate (L.length - (L.length - 1)) (PV.agg (List.replicate 2 PV.junk)) ++ List.drop L.length (List.map enP (List.take i L) ++ List.map enP (List.drop (i + 1) L) ++ List.map enP (List.drop (L.length - 1) L)) = (L.take i ++ L.drop (i + 1)).map enP ++ [.agg [.junk, .junk]] := by
    have hd : List.drop L.length (List.map enP (List.take i L) ++ List.map enP (List.drop (i + 1) L) ++ List.map enP (List.drop (L.length - 1) L)) = [] := List.drop_eq_nil_of_le (by rw [hM]; exact Nat.le_refl _)
    rw [List.take_append_of_le_length (by rw [hA]; exact Nat.le_refl _), List.take_of_length_le (by rw [hA]; exact Nat.le_refl _), hd, hone, List.append_nil, List.map_append]
    rfl
  refine fn_e tok (n := 33) (rs := [.tmp 6]) Tryz.func182 (by decide) rfl rfl rfl rfl (low_of rfl) ?_
  refine Wr.go ?_
  repeat' ((first | (have ee := True.intro; refine Wr.mk ?_) | ((first | refine br_go ?_ ?_ | refine pick_go ?_ ?_) <;> intro ee f <;> (try simp only [BB] at f) <;> (try simp only [numOk, verOk] at f)) | (have ee := True.intro; first | refine dr_go mixed (id := 5) [([], [0], []), ([], [1], []), ([0, 1], [20, 21], []), ([], [0], []), ([], [2], []), ([3, 4], [23, 24], []), ([0, 1, 2, 3, 4, 5], [22, 25], []), ([0, 1, 2, 3, 4, 5, 6], [26], [])] rfl rfl rfl ?_ | refine dr_go mixed (id := 6) [([], [0], []), ([], [0], []), ([1], [28], []), ([], [7], []), ([0, 1, 2, 3], [27, 29, 30], []), ([0, 1, 2, 3, 4], [31], [])] rfl rfl rfl ?_)) <;> (try simp (maxSteps := 1000000) (disch := first | omega | (simp only [LN, numOk, verOk, rfP, rvP, rhP, frP, elOk_en, elOk_nd, nfx_en, nfx_nd, hT, hL, hlen, hl2] <;> omega) | exact Ck.mk rfl) only [ee, VC, T, Nat.reduceMul, Nat.reduceAdd, Nat.reduceSub, Nat.reduceLT, Nat.reduceEqDiff, Nat.reduceLeDiff, Nat.reduceBEq, reduceCtorEq, Int.reduceToNat, ↓reduceIte, rfP, rvP, rhP, frP, elOk_en, elOk_nd, nfx_en, nfx_nd, hT, hL, hlen, hl2]) <;> (try clear ee))
  simp only [hfin]
  exact fin_t [] (⟨rfl, rfl⟩) rfl (by simp [RV, RV2, RVl, RV1, tau, tget, hget, data1, oneOf]) (by simp [RH, RVl, RV1, tau, hget, data1]) (by simp [Taus, hget])
end Go.Pv

/- An entry set into a row of entries: what the library's slices.Insert does to memory, and what that says of a row of one's own. -/
namespace Go.Pv
open Go.RowKit Go.Mth

theorem run_copy_sz {P : Program} (w : World) (dT sT ty elem : TypeId) (sz b o dLen dCap : Nat) (a : Addr) (sLen sCap : Nat) (cs : List Value)
    (hu : P.underlying dT = some (.slice elem)) (hs : (P.info? elem).map (·.size) = some sz) (hn : cs.length = Nat.min sLen dLen * sz)
    (hsrc : ∀ j v, cs[j]? = some v → w.cell? (a.add j) = some v) (hc : ∀ j, j < cs.length → (w.cell? ⟨b, o + j, none⟩).isSome = true) (hf : ∀ j, j < cs.length → w.frozen? ⟨b, o + j, none⟩ = false) (h1 : ∀ v ∈ cs, v.oneCell' = true) :
    (Builtin.copy_ #[dT, sT] ty #[.slice (some ⟨b, o, none⟩) dLen dCap, .slice (some a) sLen sCap]).run P w = .ok (goInt (Nat.min sLen dLen)) (w.setCells b o cs) := by
  have hl := run_loadCells_list (P := P) w a cs hsrc
  have hst := run_storeCells_cells (P := P) b o cs 0 w (by simpa using hc) (by simpa using hf) h1
  cases hq : P.info? elem with
  | none => simp [hq] at hs
  | some i =>
    have hi : i.size = sz := by simpa [hq] using hs
    simp [Builtin.copy_, run_underlying hu, Builtin.lenOf, Builtin.firstCells, sizeOf, typeInfo, hq, hi, ← hn, hl, hst]

theorem zeroCells_sz (z : Array Value) (n : Nat) : (Builtin.zeroCells z n).size = n * z.size := by simp [Builtin.zeroCells]
theorem wp_copy_run {P : Program} (w : World) {o : Oper} {a : Act} {K : Act → World → Prop} {Q : Exit → Act → World → Prop} (d s : Operand) (t t' : TypeId)
    (ho : o.op = .call { callee := .builtin .copy, args := #[d, s], argTypes := #[t, t'] }) (v u : Value) (hd : a.eval d = v) (hs : a.eval s = u) {v' : Value} {w' : World}
    (hr : (Builtin.copy_ #[t, t'] o.type #[v, u]).run P w = .ok v' w') (h : K (a.put o.dst v') w') : o.wp P a w K Q := by
  unfold Oper.wp
  simp [execOp, ho, resolve, invoke, builtin, hd, hs, hr, Result.andThen]
  exact h
theorem wpList_copy_run {P : Program} (w : World) {ops : Array Oper} {rest : List Oper} {o : Oper} {a : Act} {Q : Exit → Act → World → Prop} (hgd : o.guard = none) (d s : Operand) (t t' : TypeId)
    (ho : o.op = .call { callee := .builtin .copy, args := #[d, s], argTypes := #[t, t'] }) (v u : Value) (hd : a.eval d = v) (hs : a.eval s = u) {v' : Value} {w' : World}
    (hr : (Builtin.copy_ #[t, t'] o.type #[v, u]).run P w = .ok v' w') (h : wpList P ops Q rest (a.put o.dst v') w') : wpList P ops Q (o :: rest) a w :=
  wpList_plain hgd fun _ hK => wp_copy_run w d s t t' ho v u hd hs hr (hK _ _ h)
theorem step_copy_run {P : Program} {ops : Array Oper} {o : Oper} {a : Act} {w : World} {K : Act → World → Prop} {Q : Exit → Act → World → Prop} {E : Prop}
    (hg : o.guard = none) (d x : Operand) (dT sT : TypeId) (hop : o.op = Op.call { callee := Callee.builtin Builtin.copy, args := #[d, x], argTypes := #[dT, sT] })
    (v u : Value) (hd : a.eval d = v) (hx : a.eval x = u) {v' : Value} {w' : World} (hr : (Builtin.copy_ #[dT, sT] o.type #[v, u]).run P w = .ok v' w') (hK : K (a.put o.dst v') w') :
    if Region.wanted o (yielded ops a.tmps) = true then Oper.wp P o a w K Q else E := by
  rw [if_pos (by simp [Region.wanted, hg])]
  exact wp_copy_run w d x dT sT hop v u hd hx hr hK

theorem run_overlaps_row {P : Program} (w : World) (tS tR e : TypeId) (ht : P.underlying tS = some (.slice e)) (size : Nat) (hz : ∀ w, (Go.sizeOf e).run P w = .ok size w)
    (a b : Addr) (la ca lb cb : Nat) (hne : a.block ≠ b.block) (tA tB : TypeId) (kA kB : Nat)
    (hsa : w.shape? a.block = some (tA, kA)) (hsb : w.shape? b.block = some (tB, kB)) (hkA : kA ≠ 0)
    (hfb : w.frozen? b = false) (hfe : w.frozen? { block := b.block, off := kB } = false) :
    (Extern.SlicesOverlaps.overlaps #[tS, tS] #[tR] #[.slice (some a) la ca, .slice (some b) lb cb]).run P w = .ok (.bool false) w := by
  have hnb : (a.block != b.block) = true := by simpa using hne
  have hnb' : (a.block == b.block) = false := by simpa using hne
  change Sem.run P (α := Value) (do
    let some t := (#[tS, tS] : Array TypeId)[0]? | stuck "slices.overlaps: no parameter types"
    let .slice elem ← underlying t | stuck "slices.overlaps: slice type expected"
    let size ← sizeOf elem
    match (some a : Option Addr), (some b : Option Addr) with
    | some a, some b =>
      if la = 0 ∨ lb = 0 ∨ size = 0 then pure (Value.bool false)
      else if a.block != b.block && (← frozen a) && (← frozen b) then unsupported .addressObserved
      else do
        if a.block != b.block then do
          noView a; noView b
          if ← mayBeOne a b then return Value.bool ((← choose (.extern "sameAddr.stringBytes" 2)) == 1)
        pure (Value.bool (a.block == b.block && a.off < b.off + lb * size && b.off < a.off + la * size))
    | _, _ => pure (Value.bool false)) w = _
  by_cases h0 : la = 0 ∨ lb = 0 ∨ size = 0
  · simp [run_underlying ht, hz, h0]
  · cases kA with
    | zero => exact absurd rfl hkA
    | succ kA =>
      cases h1 : w.frozen? a <;> cases h2 : w.frozen? { block := a.block, off := kA + 1 } <;>
        simp [run_underlying ht, hz, h0, hnb, hnb', frozen, noView, viewAt, mayBeOne, stringish, shape, Sem.run, hsa, hsb, hfb, hfe, h1, h2]

/-! ### the cells of entries -/
def cellsE : List Et → List Value
  | [] => []
  | e :: r => .string e.1 :: .int .i64 e.2 :: cellsE r
theorem cellsE_len : ∀ L : List Et, (cellsE L).length = L.length * 2
  | [] => rfl
  | e :: r => by simp only [cellsE, List.length_cons, cellsE_len r]; omega
theorem cellsE_app : ∀ A B : List Et, cellsE (A ++ B) = cellsE A ++ cellsE B
  | [], B => rfl
  | e :: r, B => by simp only [cellsE, List.cons_append, cellsE_app r B]
theorem cellsE_drop : ∀ (L : List Et) (i : Nat), (cellsE L).drop (i * 2) = cellsE (L.drop i)
  | L, 0 => by simp
  | [], i + 1 => by simp [cellsE]
  | e :: r, i + 1 => by
    rw [show (i + 1) * 2 = i * 2 + 1 + 1 by omega]
    simp only [cellsE, List.drop_succ_cons]
    exact cellsE_drop r i
theorem cellsE_take : ∀ (L : List Et) (i : Nat), (cellsE L).take (i * 2) = cellsE (L.take i)
  | L, 0 => by simp [cellsE]
  | [], i + 1 => by simp [cellsE]
  | e :: r, i + 1 => by
    rw [show (i + 1) * 2 = i * 2 + 1 + 1 by omega]
    simp only [cellsE, List.take_succ_cons]
    rw [cellsE_take r i]
theorem cellsE_one : ∀ (L : List Et) (v : Value), v ∈ cellsE L → v.oneCell' = true
  | [], v, h => by simp [cellsE] at h
  | e :: r, v, h => by
    simp only [cellsE, List.mem_cons] at h
    rcases h with rfl | rfl | h
    · rfl
    · rfl
    · exact cellsE_one r v h
theorem cellsE_even : ∀ (L : List Et) (i : Nat) (e : Et), L[i]? = some e → (cellsE L)[i * 2]? = some (.string e.1) ∧ (cellsE L)[i * 2 + 1]? = some (.int .i64 e.2)
  | [], i, e, h => by simp at h
  | x :: r, 0, e, h => by
    obtain rfl : x = e := by simpa using h
    exact ⟨rfl, rfl⟩
  | x :: r, i + 1, e, h => by
    have := cellsE_even r i e (by simpa using h)
    rw [show (i + 1) * 2 = i * 2 + 1 + 1 by omega]
    simpa [cellsE] using this
theorem cellsE_get : ∀ (L : List Et) (j : Nat) (v : Value), (cellsE L)[j]? = some v → ∃ e, L[j / 2]? = some e ∧ ((j % 2 = 0 ∧ v = .string e.1) ∨ (j % 2 = 1 ∧ v = .int .i64 e.2))
  | [], j, v, h => by simp [cellsE] at h
  | x :: r, 0, v, h => ⟨x, rfl, .inl ⟨rfl, by simpa [cellsE] using h.symm⟩⟩
  | x :: r, 1, v, h => ⟨x, rfl, .inr ⟨rfl, by simpa [cellsE] using h.symm⟩⟩
  | x :: r, j + 2, v, h => by
    obtain ⟨e, h1, h2⟩ := cellsE_get r j v (by simpa [cellsE] using h)
    refine ⟨e, ?_, ?_⟩
    · rw [show (j + 2) / 2 = j / 2 + 1 by omega]; simpa using h1
    · rw [show (j + 2) % 2 = j % 2 by omega]; exact h2

/-- Values lie in a block, from a place on. -/
def Lies (w : World) (b o : Nat) (vs : List Value) : Prop := ∀ j v, vs[j]? = some v → w.cell? ⟨b, o + j, none⟩ = some v
theorem Lies.app {w : World} {b o : Nat} {A B : List Value} (h1 : Lies w b o A) (h2 : Lies w b (o + A.length) B) : Lies w b o (A ++ B) := fun j v h => by
  rw [List.getElem?_append] at h
  split at h
  · exact h1 j v h
  · have := h2 _ v h
    rwa [show o + A.length + (j - A.length) = o + j by omega] at this
theorem Lies.left {w : World} {b o : Nat} {A B : List Value} (h : Lies w b o (A ++ B)) : Lies w b o A := fun j v hj => h j v (by
  have := (List.getElem?_eq_some_iff.1 hj).1
  rw [List.getElem?_append_left this]; exact hj)
theorem Lies.right {w : World} {b o : Nat} {A B : List Value} (h : Lies w b o (A ++ B)) : Lies w b (o + A.length) B := fun j v hj => by
  have := h (A.length + j) v (by rw [List.getElem?_append_right (by omega), Nat.add_sub_cancel_left]; exact hj)
  rwa [← Nat.add_assoc] at this
theorem Lies.set_out {w : World} {b o p : Nat} {A vs : List Value} (h : Lies w b o A) (hd : o + A.length ≤ p ∨ p + vs.length ≤ o) : Lies (w.setCells b p vs) b o A := fun j v hj => by
  have hl := (List.getElem?_eq_some_iff.1 hj).1
  rw [World.cell?_setCells_out b vs p w _ (fun _ _ => by show o + j < p ∨ p + vs.length ≤ o + j; omega)]
  exact h j v hj
theorem Lies.set_in {w : World} {b o : Nat} {vs : List Value} (hc : ∀ j, j < vs.length → (w.cell? ⟨b, o + j, none⟩).isSome = true) : Lies (w.setCells b o vs) b o vs := fun j v hj => by
  obtain ⟨hl, rfl⟩ := List.getElem?_eq_some_iff.1 hj
  exact World.cell?_setCells_in b vs o w hc j hl
theorem set_isSome (b : Nat) (vs : List Value) (o : Nat) (w : World) (h : ∀ j, j < vs.length → (w.cell? ⟨b, o + j, none⟩).isSome = true) (k : Nat) (hk : (w.cell? ⟨b, k, none⟩).isSome = true) : ((w.setCells b o vs).cell? ⟨b, k, none⟩).isSome = true := by
  by_cases hin : o ≤ k ∧ k < o + vs.length
  · have := World.cell?_setCells_in b vs o w h (k - o) (by omega)
    rw [show o + (k - o) = k by omega] at this
    rw [this]; rfl
  · rw [World.cell?_setCells_out b vs o w ⟨b, k, none⟩ (fun _ _ => by show k < o ∨ o + vs.length ≤ k; omega)]
    exact hk
theorem set_heap (b : Nat) : ∀ (vs : List Value) (o : Nat) (w : World) (c : Array Value) (e : TypeId) (fr : Nat × Nat), w.heap[b]? = some (.cells c e fr) → ∃ c', (w.setCells b o vs).heap[b]? = some (.cells c' e fr) ∧ c'.size = c.size
  | [], _, w, c, e, fr, h => ⟨c, h, rfl⟩
  | v :: r, o, w, c, e, fr, h => by
    obtain ⟨c', h1, h2⟩ := set_heap b r (o + 1) (w.setCell ⟨b, o, none⟩ v) (c.setIfInBounds o v) e fr (by simp [World.setCell, Array.getElem?_modify, h])
    exact ⟨c', h1, by rw [h2, Array.size_setIfInBounds]⟩
theorem set_other (b : Nat) : ∀ (vs : List Value) (o : Nat) (w : World) (k : Nat), k ≠ b → (w.setCells b o vs).heap[k]? = w.heap[k]?
  | [], _, w, k, h => rfl
  | v :: r, o, w, k, h => by
    rw [World.setCells, set_other b r _ _ k h]
    exact Below.heap_setCell _ _ _ _ h
theorem set_size (b : Nat) : ∀ (vs : List Value) (o : Nat) (w : World), (w.setCells b o vs).heap.size = w.heap.size
  | [], _, w => rfl
  | v :: r, o, w => by rw [World.setCells, set_size b r]; simp
theorem set_rest (b : Nat) : ∀ (vs : List Value) (o : Nat) (w : World), (w.setCells b o vs).os = w.os ∧ (w.setCells b o vs).tape = w.tape ∧ (w.setCells b o vs).output = w.output
  | [], _, w => ⟨rfl, rfl, rfl⟩
  | v :: r, o, w => by
    obtain ⟨h1, h2, h3⟩ := set_rest b r (o + 1) (w.setCell ⟨b, o, none⟩ v)
    rw [World.setCells]
    exact ⟨h1, h2, h3⟩

/-! ### what the two roads do, and a row of one's own -/
def enV (e : Et) : PV := .agg [.str e.1, .int .i64 e.2]
theorem dr_str {w : World} {A : Bl} {s : ByteArray} {v : Value} (h : DR w A (.str s) v) : v = .string s := by cases h; rfl
theorem dr_int {w : World} {A : Bl} {k : IntKind} {n : Int} {v : Value} (h : DR w A (.int k n) v) : v = .int k n := by cases h; rfl
theorem lies_of {w : World} {A : Bl} {b o : Nat} {L : List Et} {c : Array Value} {e : TypeId} {fr : Nat × Nat} (hw : w.heap[b]? = some (.cells c e fr))
    (hb : ∀ (i : Nat) (x : PV) (j : Nat) (y : PV), (L.map enV)[i]? = some x → (flat x)[j]? = some y → o + i * 2 + j < c.size)
    (hd : ∀ (i : Nat) (x : PV) (j : Nat) (y : PV), (L.map enV)[i]? = some x → (flat x)[j]? = some y → DR w A y (c.getD (o + i * 2 + j) undef)) : Lies w b o (cellsE L) := fun j v hj => by
  obtain ⟨x, h1, h2⟩ := cellsE_get L j v hj
  have hx : (L.map enV)[j / 2]? = some (enV x) := by rw [List.getElem?_map, h1]; rfl
  rcases h2 with ⟨h2, rfl⟩ | ⟨h2, rfl⟩
  · have k1 := hb _ _ 0 _ hx rfl
    have k2 := dr_str (hd _ _ 0 _ hx rfl)
    rw [show o + j / 2 * 2 + 0 = o + j by omega] at k1 k2
    rw [cell_getD hw k1, k2]
  · have k1 := hb _ _ 1 _ hx rfl
    have k2 := dr_int (hd _ _ 1 _ hx rfl)
    rw [show o + j / 2 * 2 + 1 = o + j by omega] at k1 k2
    rw [cell_getD hw k1, k2]
theorem of_lies {w : World} {A : Bl} {b o : Nat} {L : List Et} {c : Array Value} {e : TypeId} {fr : Nat × Nat} (hw : w.heap[b]? = some (.cells c e fr)) (h : Lies w b o (cellsE L)) :
    ∀ (i : Nat) (x : PV) (j : Nat) (y : PV), (L.map enV)[i]? = some x → (flat x)[j]? = some y → DR w A y (c.getD (o + i * 2 + j) undef) := fun i x j y hx hy => by
  rw [List.getElem?_map] at hx
  obtain ⟨z, hz, rfl⟩ := Option.map_eq_some_iff.1 hx
  obtain ⟨k1, k2⟩ := cellsE_even L i z hz
  have get : ∀ (q : Nat) (v : Value), (cellsE L)[q]? = some v → c.getD (o + q) undef = v := fun q v hq => by
    have := h q v hq
    simp only [World.cell?, hw] at this
    rw [if_neg (by simp)] at this
    rw [Array.getD_eq_getD_getElem?, this]; rfl
  match j, hy with
  | 0, hy =>
    obtain rfl : PV.str z.1 = y := by simpa [flat, enV] using hy
    rw [Nat.add_assoc, get _ _ (by rw [Nat.add_zero]; exact k1)]
    exact .str _
  | 1, hy =>
    obtain rfl : PV.int .i64 z.2 = y := by simpa [flat, enV] using hy
    rw [Nat.add_assoc, get _ _ k2]
    exact .int _ _
  | j + 2, hy => simp [flat, enV] at hy

def InsShift (P : Program) (f : FuncId) (L : List Et) (i : Nat) (e : Et) : Prop := ∀ (w : World) (b off c vb voff vc : Nat) (tA tB : TypeId) (kA kB : Nat), L.length + 1 ≤ c → vb ≠ b → Lies w b off (cellsE L) →
  (∀ j, j < (L.length + 1) * 2 → (w.cell? ⟨b, off + j, none⟩).isSome = true) → (∀ j, j < (L.length + 1) * 2 → w.frozen? ⟨b, off + j, none⟩ = false) → Lies w vb voff (cellsE [e]) →
  w.shape? vb = some (tA, kA) → kA ≠ 0 → w.shape? b = some (tB, kB) → w.frozen? ⟨b, kB, none⟩ = false →
  Calls P f #[.slice (some ⟨b, off, none⟩) L.length c, .int .i64 i, .slice (some ⟨vb, voff, none⟩) 1 vc] w fun ex w' =>
    ex = .returned (.slice (some ⟨b, off, none⟩) (L.length + 1) c) ∧ w' = (w.drew.setCells b (off + (i + 1) * 2) (cellsE (L.drop i))).setCells b (off + i * 2) (cellsE [e])
def insRow (w : World) (L : List Et) (i : Nat) (z : Value) (G : Nat) : Array Value := (cellsE (L.take i)).toArray ++ Builtin.zeroCells z.cells (L.length + 1 - i) ++ Builtin.zeroCells z.cells (G - (L.length + 1))
def InsGrow (P : Program) (f : FuncId) (L : List Et) (i : Nat) (e : Et) : Prop := ∃ (T : TypeId) (z : Value), z.cells.size = 2 ∧ ∀ (w : World) (b off c vb voff vc : Nat), L.length ≤ c → c < L.length + 1 → Lies w b off (cellsE L) → Lies w vb voff (cellsE [e]) →
  Calls P f #[.slice (some ⟨b, off, none⟩) L.length c, .int .i64 i, .slice (some ⟨vb, voff, none⟩) 1 vc] w fun ex w' =>
    ex = .returned (.slice (some ⟨w.heap.size, 0, none⟩) (L.length + 1) (grownCap w (L.length + 1) c T)) ∧
    w' = (((w.alloc (.cells (insRow w L i z (grownCap w (L.length + 1) c T)) T)).drew.setCells w.heap.size (i * 2) (cellsE [e])).drew).setCells w.heap.size ((i + 1) * 2) (cellsE (L.drop i))

theorem row_out {w W' : World} {V : Bl} {Γ : Nat → Value} {ha : Hp} {N : List Et} {b' o' cap' m : Nat} {c' : Array Value} {e : TypeId} {fr : Nat × Nat} (hk : Kp (Ow Γ ha) w W') (hb : w.heap.size ≤ b' ∨ Ow Γ ha b')
    (hw : W'.heap[b']? = some (.cells c' e fr)) (hcl : Clean fr o' (o' + cap' * 2)) (hmk : ¬ (fr.1 ≤ c'.size ∧ c'.size < fr.2)) (hsz : o' + cap' * 2 ≤ c'.size) (hm : N.length = m) (hcap : m ≤ cap') (hl : Lies W' b' o' (cellsE N)) (h1 : hget ha 64 = none) :
    ∃ v' Γ', Ending.returned (.slice (some ⟨b', o', none⟩) m cap') = .returned v' ∧ Kp (Ow Γ ha) w W' ∧ VR W' (Av V Γ' [(64, .row ⟨2, 0⟩ (N.map enV))]) Γ' [(64, .row ⟨2, 0⟩ (N.map enV))] (.row 64 m) v' ∧
      (∀ k, HR W' (Av V Γ' [(64, .row ⟨2, 0⟩ (N.map enV))]) Γ' [(64, .row ⟨2, 0⟩ (N.map enV))] k) ∧ Dis Γ' [(64, .row ⟨2, 0⟩ (N.map enV))] ∧ (∀ b, Ow Γ' [(64, .row ⟨2, 0⟩ (N.map enV))] b → w.heap.size ≤ b ∨ Ow Γ ha b) ∧
      (∀ k, live ha k → live [(64, .row ⟨2, 0⟩ (N.map enV))] k → Stay ha [(64, .row ⟨2, 0⟩ (N.map enV))] k → Γ' k = Γ k) := by
  subst hm
  obtain ⟨Γ', e1⟩ : ∃ Γ' : Nat → Value, Γ' = fun _ => .slice (some ⟨b', o', none⟩) N.length cap' := ⟨_, rfl⟩
  have hg1 : hget [(64, HC.row ⟨2, 0⟩ (N.map enV))] 64 = some (.row ⟨2, 0⟩ (N.map enV)) := rfl
  have hln : (N.map enV).length = N.length := List.length_map _
  refine ⟨_, Γ', rfl, hk, .row 64 _ _ rfl (by rw [hg1]; simp) fun sz' xs' h' => ?_, fun k => ?_, fun k k' b l l' _ _ => (live_one l).trans (live_one l').symm, fun b hb' => ?_, fun k l1 l2 _ => ?_⟩
  · rw [hg1] at h'
    cases h'
    exact ⟨by omega, fun _ => by rw [e1]⟩
  · by_cases ek : k = 64
    · subst ek
      unfold HR
      rw [hg1]
      refine ⟨by decide, .inr ⟨b', o', cap', c', e, fr, by rw [e1, hln], hw, ⟨.inl rfl, .inr hmk⟩, by rw [hln]; exact hcap, hsz, hcl, fun i x hx => ?_, of_lies hw hl⟩⟩
      rw [List.getElem?_map] at hx
      obtain ⟨z, _, rfl⟩ := Option.map_eq_some_iff.1 hx
      rfl
    · unfold HR
      rw [hget_one _ 64 k ek]
      trivial
  · obtain ⟨k, l, h⟩ := hb'
    obtain rfl := live_one l
    rw [e1] at h
    obtain rfl : b' = b := by simpa [ob] using h
    exact hb
  · obtain rfl := live_one l2
    unfold live at l1
    rw [h1] at l1
    exact l1.elim

theorem Fn.ins {P : Program} {f : FuncId} {L : List Et} {i : Nat} {e : Et} {t : TypeId} (hE : Ent P f) (hi : i < L.length) (hS : InsShift P f L i e) (hG : InsGrow P f L i e) :
    Fn P f [.row 0 L.length, .int .i64 i, .far [enV e]] [(0, .row ⟨2, t⟩ (L.map enV))] (.row 64 (L.length + 1)) [(64, .row ⟨2, 0⟩ ((L.take i ++ [e] ++ L.drop i).map enV))] := by
  refine ⟨hE, fun w V Γ vs hv hsz hA hH hD => ?_⟩
  obtain ⟨l⟩ := vs
  match l, hsz, hA with
  | [a0, a1, a2], _, hA =>
  have h0 := hA 0 _ rfl
  have h1 := hA 1 _ rfl
  have h2 := hA 2 _ rfl
  have hg0 : hget [(0, HC.row ⟨2, t⟩ (L.map enV))] 0 = some (.row ⟨2, t⟩ (L.map enV)) := rfl
  have hg1 : hget [(0, HC.row ⟨2, t⟩ (L.map enV))] 64 = none := rfl
  have live0 : live [(0, HC.row ⟨2, t⟩ (L.map enV))] 0 := by unfold live; rw [hg0]; trivial
  have hln : (L.map enV).length = L.length := List.length_map _
  obtain rfl : a0 = Γ 0 := by
    cases h0 with
    | data h => cases h
    | row _ _ _ _ _ h => exact (h _ _ hg0).2 hln.symm
  obtain rfl : a1 = .int .i64 i := by
    cases h1 with
    | data h => exact dr_int h
  have hh := hH 0
  unfold HR at hh
  rw [hg0] at hh
  dsimp only at hh
  rcases hh.2 with ⟨x1, x2⟩ | ⟨β, o, cap, c, et, fr, k1, k2, kq, k3, k4, k5, k6, k7⟩
  · obtain rfl := List.map_eq_nil_iff.1 x1
    simp at hi
  rw [hln] at k1 k3
  have k4 : o + cap * 2 ≤ c.size := k4
  have k5 : Clean fr o (o + cap * 2) := k5
  have hown : Ow Γ [(0, HC.row ⟨2, t⟩ (L.map enV))] β := ⟨0, live0, by rw [k1]; rfl⟩
  cases h2 with
  | data h2 =>
  cases h2 with
  | far xs vb voff vc sz vcs ve vfr hA' hw' hc' hz' hb' hd' =>
  have hz2 : sz = 2 := (hz' 0 _ rfl).symm
  subst hz2
  have hne : vb ≠ β := fun q => hA' (.inr (q ▸ hown))
  have hlv : Lies w vb voff (cellsE [e]) := lies_of (L := [e]) hw' hb' hd'
  have hlL : Lies w β o (cellsE L) := lies_of k2 (fun i x j y hx hy => by
    have q1 := (List.getElem?_eq_some_iff.1 hx).1
    have q2 := k6 i x hx
    have q3 := (List.getElem?_eq_some_iff.1 hy).1
    rw [hln] at q1
    have q2 : (flat x).length = 2 := q2
    omega) k7
  have hvs : vcs.size ≠ 0 := by
    have := hb' 0 _ 0 _ rfl rfl
    omega
  have hmark : ¬ (fr.1 ≤ c.size ∧ c.size < fr.2) := kq.2.resolve_left (by decide)
  have hfz : ∀ k, (¬ (fr.1 ≤ k ∧ k < fr.2)) → w.frozen? ⟨β, k, none⟩ = false := fun k hk => by
    simp only [World.frozen?, k2]
    obtain ⟨f1, f2⟩ := fr
    simp only at hk ⊢
    rw [Bool.eq_false_iff]
    simpa using hk
  have hcell : ∀ k, k < c.size → w.cell? ⟨β, k, none⟩ = some (c.getD k undef) := fun k hk => cell_getD k2 hk
  have hlt := block_lt k2
  show Calls P f #[Γ 0, .int .i64 i, _] w _
  rw [k1]
  have hN : (L.take i ++ [e] ++ L.drop i).length = L.length + 1 := by
    simp only [List.length_append, List.length_take, List.length_drop, List.length_singleton]; omega
  have hcN : cellsE (L.take i ++ [e] ++ L.drop i) = cellsE (L.take i) ++ cellsE [e] ++ cellsE (L.drop i) := by rw [cellsE_app, cellsE_app]
  have hcL : cellsE L = cellsE (L.take i) ++ cellsE (L.drop i) := by rw [← cellsE_app, List.take_append_drop]
  have ht2 : (cellsE (L.take i)).length = i * 2 := by rw [cellsE_len, List.length_take]; omega
  have hd2 : (cellsE (L.drop i)).length = (L.length - i) * 2 := by rw [cellsE_len, List.length_drop]
  have hlT : Lies w β o (cellsE (L.take i)) := (hcL ▸ hlL).left
  by_cases room : L.length + 1 ≤ cap
  · refine (hS w β o cap vb voff vc ve et vcs.size c.size room hne hlL (fun j hj => by rw [hcell _ (by omega)]; rfl) (fun j hj => hfz _ (k5 _ (by omega) (by omega))) hlv (by simp [World.shape?, hw']) hvs (by simp [World.shape?, k2]) (hfz _ hmark)).mono ?_
    rintro _ _ ⟨rfl, rfl⟩
    obtain ⟨c1, q1, q2⟩ := set_heap β (cellsE (L.drop i)) (o + (i + 1) * 2) w.drew c et fr k2
    obtain ⟨c2, q3, q4⟩ := set_heap β (cellsE [e]) (o + i * 2) _ c1 et fr q1
    refine row_out (c' := c2) (e := et) (fr := fr) ⟨?_, ?_, ?_, ?_, fun b hb hno => ?_⟩ (.inr hown) q3 k5 (by rw [q4, q2]; exact hmark) (by rw [q4, q2]; exact k4) hN room ?_ hg1
    · rw [(set_rest _ _ _ _).1, (set_rest _ _ _ _).1]; rfl
    · rw [(set_rest _ _ _ _).2.1, (set_rest _ _ _ _).2.1]; rfl
    · rw [(set_rest _ _ _ _).2.2, (set_rest _ _ _ _).2.2]; rfl
    · rw [set_size, set_size]; exact Nat.le_refl _
    · have hne' : b ≠ β := fun q => hno (q ▸ hown)
      rw [set_other _ _ _ _ _ hne', set_other _ _ _ _ _ hne']; rfl
    · have hc0 : ∀ k, k < c.size → (w.drew.cell? ⟨β, k, none⟩).isSome = true := fun k hk => by
        show (w.cell? ⟨β, k, none⟩).isSome = true
        rw [hcell _ hk]; rfl
      have hc1 : ∀ k, k < c.size → ((w.drew.setCells β (o + (i + 1) * 2) (cellsE (L.drop i))).cell? ⟨β, k, none⟩).isSome = true := fun k hk => set_isSome _ _ _ _ (fun j hj => hc0 _ (by omega)) _ (hc0 k hk)
      rw [hcN]
      have e2 : (cellsE [e]).length = 2 := rfl
      refine .app (.app (.set_out (.set_out hlT (.inl (by rw [ht2]; omega))) (.inl (by rw [ht2]; omega))) ?_) ?_
      · rw [ht2]
        exact .set_in fun j hj => hc1 _ (by omega)
      · rw [List.length_append, ht2, e2, show o + (i * 2 + 2) = o + (i + 1) * 2 by omega]
        exact .set_out (.set_in fun j hj => hc0 _ (by omega)) (.inr (by omega))
  · obtain ⟨T, z, hz, hG⟩ := hG
    refine (hG w β o cap vb voff vc k3 (by omega) hlL hlv).mono ?_
    rintro _ _ ⟨rfl, rfl⟩
    have hG0 := grownCap_ge w (L.length + 1) cap T
    generalize grownCap w (L.length + 1) cap T = G at *
    obtain ⟨R, hR⟩ : ∃ R, R = insRow w L i z G := ⟨_, rfl⟩
    have hRs : R.size = G * 2 := by
      rw [hR]
      simp only [insRow, Array.size_append, List.size_toArray, ht2, zeroCells_sz, hz]
      omega
    have hB : (w.alloc (.cells R T)).heap[w.heap.size]? = some (.cells R T (0, 0)) := by
      simp only [World.alloc, Array.getElem?_push]
      rw [if_pos trivial]
    obtain ⟨c1, q1, q2⟩ := set_heap w.heap.size (cellsE [e]) (i * 2) (w.alloc (.cells R T)).drew R T (0, 0) hB
    obtain ⟨c2, q3, q4⟩ := set_heap w.heap.size (cellsE (L.drop i)) ((i + 1) * 2) (((w.alloc (.cells R T)).drew.setCells w.heap.size (i * 2) (cellsE [e])).drew) c1 T (0, 0) q1
    rw [← hR]
    refine row_out (c' := c2) (e := T) (fr := (0, 0)) ⟨?_, ?_, ?_, ?_, fun b hb hno => ?_⟩ (.inl (Nat.le_refl _)) q3 (fun k _ _ q => by omega) (fun q => by omega) (by rw [q4, q2, hRs]; omega) hN hG0 ?_ hg1
    · rw [(set_rest _ _ _ _).1]; exact (set_rest _ _ _ _).1
    · rw [(set_rest _ _ _ _).2.1]; exact (set_rest _ _ _ _).2.1
    · rw [(set_rest _ _ _ _).2.2]; exact (set_rest _ _ _ _).2.2
    · rw [set_size]
      show w.heap.size ≤ ((w.alloc (.cells R T)).drew.setCells w.heap.size (i * 2) (cellsE [e])).heap.size
      rw [set_size]
      simp
    · have hne' : b ≠ w.heap.size := by omega
      rw [set_other _ _ _ _ _ hne']
      show ((w.alloc (.cells R T)).drew.setCells w.heap.size (i * 2) (cellsE [e])).heap[b]? = _
      rw [set_other _ _ _ _ _ hne']
      show (w.alloc (.cells R T)).heap[b]? = _
      simp only [World.alloc, Array.getElem?_push]
      rw [if_neg hne']
    · have hc0 : ∀ k, k < R.size → (w.alloc (.cells R T)).drew.cell? ⟨w.heap.size, k, none⟩ = some (R.getD k undef) := fun k hk => cell_getD hB hk
      have hT : Lies (w.alloc (.cells R T)).drew w.heap.size 0 (cellsE (L.take i)) := fun j v hj => by
        have hl := (List.getElem?_eq_some_iff.1 hj).1
        rw [Nat.zero_add, hc0 _ (by omega), Array.getD_eq_getD_getElem?, hR]
        simp only [insRow]
        rw [Array.getElem?_append_left (by simp; omega), Array.getElem?_append_left (by simpa using hl)]
        simp [hj]
      have hc1 : ∀ k, k < R.size → ((w.alloc (.cells R T)).drew.setCells w.heap.size (i * 2) (cellsE [e])).cell? ⟨w.heap.size, k, none⟩ ≠ none := fun k hk => by
        have := set_isSome w.heap.size (cellsE [e]) (i * 2) (w.alloc (.cells R T)).drew (fun j hj => by have e2 : (cellsE [e]).length = 2 := rfl; rw [hc0 _ (by omega)]; rfl) k (by rw [hc0 _ hk]; rfl)
        exact fun q => by rw [q] at this; cases this
      have e2 : (cellsE [e]).length = 2 := rfl
      rw [hcN]
      refine .app (.app (.set_out (w := ((w.alloc (.cells R T)).drew.setCells w.heap.size (i * 2) (cellsE [e])).drew) (Lies.set_out (w := (w.alloc (.cells R T)).drew) hT (.inl (by omega))) (.inl (by omega))) ?_) ?_
      · rw [ht2]
        refine .set_out (w := ((w.alloc (.cells R T)).drew.setCells w.heap.size (i * 2) (cellsE [e])).drew) ?_ (.inl (by omega))
        rw [Nat.zero_add]
        exact Lies.set_in (w := (w.alloc (.cells R T)).drew) fun j hj => by rw [hc0 _ (by omega)]; rfl
      · rw [List.length_append, ht2, e2, show 0 + (i * 2 + 2) = (i + 1) * 2 by omega]
        exact .set_in fun j hj => Option.isSome_iff_ne_none.2 (hc1 _ (by omega))

/-- One's own row, handed back as a row of another key. -/
theorem Fn.ren {P : Program} {f : FuncId} {args : List PV} {ha : Hp} {sz : Sz} {xs : List PV} {n q : Nat} (h : Fn P f args ha (.row 0 n) [(0, .row sz xs)]) (hn : n = xs.length) (h1 : hget ha q = none) :
    Fn P f args ha (.row q n) [(q, .row sz xs)] := ⟨h.ent, fun w V Γ vs hv hs hA hH hD => by
  refine (h.run w V Γ vs hv hs hA hH hD).mono ?_
  rintro e w' ⟨v, Γ', he, hk, hvr, hhr, hdis, how, hst⟩
  have hg0 : hget [(0, HC.row sz xs)] 0 = some (.row sz xs) := rfl
  have hgq : hget [(q, HC.row sz xs)] q = some (.row sz xs) := by simp [hget]
  have hvv : v.oneCell' = true ∧ v = Γ' 0 := by
    cases hvr with
    | data h => cases h
    | row _ _ _ ho _ h5 => exact ⟨ho, (h5 _ _ hg0).2 hn⟩
  have live0 : live [(0, HC.row sz xs)] 0 := by unfold live; rw [hg0]; trivial
  obtain ⟨Γ'', e1⟩ : ∃ Γ'' : Nat → Value, Γ'' = fun _ => v := ⟨_, rfl⟩
  have ow : ∀ b, Ow Γ'' [(q, HC.row sz xs)] b → Ow Γ' [(0, HC.row sz xs)] b := fun b ⟨k, l, o⟩ => by
    obtain rfl := live_one l
    exact ⟨0, live0, by rw [← hvv.2]; rw [e1] at o; exact o⟩
  have lift : ∀ x y, DR w' (Av V Γ' [(0, HC.row sz xs)]) x y → DR w' (Av V Γ'' [(q, HC.row sz xs)]) x y := fun x y h => h.step (fun _ _ _ => rfl) fun b _ hb => hb.elim .inl fun hb => .inr (ow b hb)
  refine ⟨v, Γ'', he, hk, .row q n v hvv.1 (by rw [hgq]; simp) fun sz' xs' h' => ?_, fun k => ?_, fun k k' b l l' _ _ => (live_one l).trans (live_one l').symm, fun b hb => how b (ow b hb), fun k l1 l2 _ => ?_⟩
  · rw [hgq] at h'
    cases h'
    exact ⟨by omega, fun _ => by rw [e1]⟩
  · by_cases ek : k = q
    · subst ek
      have h0 := hhr 0
      unfold HR at h0 ⊢
      rw [hg0] at h0
      rw [hgq]
      dsimp only at h0 ⊢
      refine ⟨h0.1, ?_⟩
      rcases h0.2 with ⟨x1, x2⟩ | ⟨β, o, cap', c, et, fr, k1, k2, kq, k3, k4, k5, k6, k7⟩
      · exact .inl ⟨x1, by rw [e1]; rw [← hvv.2] at x2; exact x2⟩
      · exact .inr ⟨β, o, cap', c, et, fr, by rw [e1]; rw [← hvv.2] at k1; exact k1, k2, kq, k3, k4, k5, k6, fun i x j y hx hy => lift _ _ (k7 i x j y hx hy)⟩
    · unfold HR
      rw [hget_one _ q k ek]
      trivial
  · obtain rfl := live_one l2
    unfold live at l1
    rw [h1] at l1
    exact l1.elim⟩
end Go.Pv

/- An entry set into a row, by the library. -/
namespace Go.Pv
open Go.Proofs Go.Mth Go.RowKit
set_option linter.unusedSimpArgs false
set_option linter.unusedVariables false
/-! ### an entry set into a row -/
theorem deleteE (L : List Et) (i : Nat) (h : i < L.length) (hl : L.length ≤ 1048576) : Fn Tryz.prog 182 [.row 0 L.length, .int .i64 i, .int .i64 (i + 1)] [(0, .row ⟨2, 0⟩ (L.map enP))] (.row 64 (L.length - 1)) [(64, .row ⟨2, 0⟩ ((L.take i ++ L.drop (i + 1)).map enP))] := by
  obtain ⟨_, _, ⟨rfl, rfl⟩, k⟩ := deleteE_V L i h hl
  have h1 : ((L.take i ++ L.drop (i + 1)).map enP).length = L.length - 1 := by rw [List.length_map, List.length_append, List.length_take, List.length_drop]; omega
  have h2 := k.cut (by rw [List.length_append, h1, List.length_singleton]; omega) rfl
  rwa [List.take_append_of_le_length (by rw [h1]; exact Nat.le_refl _), List.take_of_length_le (by rw [h1]; exact Nat.le_refl _)] at h2
theorem ent_Ins : Ent Tryz.prog 181 := fun vs w => by
  simp [callFunc, Tryz.func181, show (Tryz.f181).name ≠ "runtime.NumGoroutine" by decide, show (Tryz.f181).body = some _ from rfl]
theorem ins_ov (w : World) (b o vb voff m vc lb cb : Nat) (hvb : vb ≠ b) (tA tB : TypeId) (kA kB : Nat) (hsa : w.shape? vb = some (tA, kA)) (hkA : kA ≠ 0) (hsb : w.shape? b = some (tB, kB)) (hfb : w.frozen? ⟨b, o, none⟩ = false) (hfe : w.frozen? ⟨b, kB, none⟩ = false) :
    (callFunc 190 #[.slice (some ⟨vb, voff, none⟩) m vc, .slice (some ⟨b, o, none⟩) lb cb]).run Tryz.prog w = .ok (.value (.bool false)) w := by
  rw [run_callFunc_extern Tryz.func190 (by kernel_rfl) (by kernel_rfl) (by kernel_rfl) (e := Extern.SlicesOverlaps.overlaps #[33, 33] #[4]) (by kernel_rfl),
    run_overlaps_row w 33 4 101 (by kernel_rfl) 2 (fun w => by go_simp) ⟨vb, voff, none⟩ ⟨b, o, none⟩ m vc lb cb hvb tA tB kA kB hsa hsb hkA hfb hfe]
  rfl
set_option maxHeartbeats 4000000 in
set_option maxRecDepth 100000 in
theorem ins_shift (b off n c i vb voff m vc : Nat) (cs vs : List Value) (w : World) (hi : i < n) (hm : 0 < m) (hnm : n + m ≤ 1048577) (hroom : n + m ≤ c) (hvb : vb ≠ b) (hcl : cs.length = n * 2) (hvl : vs.length = m * 2)
    (hcs : ∀ j v, cs[j]? = some v → w.cell? ⟨b, off + j, none⟩ = some v) (hsp : ∀ j, j < (n + m) * 2 → (w.cell? ⟨b, off + j, none⟩).isSome = true) (hfz : ∀ j, j < (n + m) * 2 → w.frozen? ⟨b, off + j, none⟩ = false)
    (hvs : ∀ j v, vs[j]? = some v → w.cell? ⟨vb, voff + j, none⟩ = some v) (h1c : ∀ v ∈ cs, v.oneCell' = true) (h1v : ∀ v ∈ vs, v.oneCell' = true)
    (tA tB : TypeId) (kA kB : Nat) (hsa : w.shape? vb = some (tA, kA)) (hkA : kA ≠ 0) (hsb : w.shape? b = some (tB, kB)) (hfe : w.frozen? ⟨b, kB, none⟩ = false) :
    Calls Tryz.prog 181 #[.slice (some ⟨b, off, none⟩) n c, .int .i64 i, .slice (some ⟨vb, voff, none⟩) m vc] w fun e w' =>
      e = .returned (.slice (some ⟨b, off, none⟩) (n + m) c) ∧ w' = (w.drew.setCells b (off + (i + m) * 2) (cs.drop (i * 2))).setCells b (off + i * 2) vs := by
  have mixed : Tryz.prog.follows .mixedOrders = true := by kernel_rfl
  have hz1 : ¬ ((m : Int) = 0) := by omega
  have hz2 : ¬ ((i : Int) = (n : Int)) := by omega
  have hsz : (Tryz.prog.info? 101).map (·.size) = some 2 := by kernel_rfl
  have hov : ∀ lb cb, (callFunc 190 #[.slice (some ⟨vb, voff, none⟩) m vc, .slice (some ⟨b, off + (i + m) * 2, none⟩) lb cb]).run Tryz.prog w = .ok (.value (.bool false)) w := fun lb cb => ins_ov w b _ vb voff m vc lb cb hvb tA tB kA kB hsa hkA hsb (hfz _ (by omega)) hfe
  have hdl : (cs.drop (i * 2)).length = (n - i) * 2 := by rw [List.length_drop, hcl]; omega
  have hw1 : IntKind.i64.wrap ((i : Int) + (m : Int)) = (i : Int) + (m : Int) := by rw [IntKind.wrap_i64]; omega
  have hb1 : (0 : Int) ≤ (i : Int) + (m : Int) := by omega
  have hin : i ≤ n := by omega
  have htn : ((i : Int) + (m : Int)).toNat = i + m := by omega
  have hb2 : ¬ (c = i + m) := by omega
  have hb3 : (i : Int) ≤ (n : Int) + (m : Int) := by omega
  have hb4 : ¬ (c = i) := by omega
  have hm1 : Nat.min (n + m - i) (n + m - (i + m)) = n - i := by simp only [Nat.min_def]; split <;> omega
  have hm2 : Nat.min m (n + m - i) = m := by simp only [Nat.min_def]; split <;> omega
  have hcp1 : ∀ ty dc sc, (Builtin.copy_ #[33, 33] ty #[.slice (some ⟨b, off + (i + m) * 2, none⟩) (n + m - (i + m)) dc, .slice (some ⟨b, off + i * 2, none⟩) (n + m - i) sc]).run Tryz.prog w.drew = .ok (goInt ((n - i : Nat) : Int)) (w.drew.setCells b (off + (i + m) * 2) (cs.drop (i * 2))) := fun ty dc sc => by
    have := run_copy_sz (P := Tryz.prog) w.drew 33 33 ty 101 2 b (off + (i + m) * 2) (n + m - (i + m)) dc ⟨b, off + i * 2, none⟩ (n + m - i) sc (cs.drop (i * 2)) (by kernel_rfl) hsz (by rw [hdl, hm1])
      (fun j v hj => by rw [Addr.add_lit, Nat.add_assoc]; exact hcs (i * 2 + j) v (by rwa [List.getElem?_drop] at hj))
      (fun j hj => by rw [Nat.add_assoc]; exact hsp _ (by omega)) (fun j hj => by rw [Nat.add_assoc]; exact hfz _ (by omega)) (fun v hv => h1c v (List.mem_of_mem_drop hv))
    rwa [hm1] at this
  obtain ⟨W1, hW1⟩ : ∃ W1, W1 = w.drew.setCells b (off + (i + m) * 2) (cs.drop (i * 2)) := ⟨_, rfl⟩
  have hsp1 : ∀ k, k < (n + m) * 2 → (W1.cell? ⟨b, off + k, none⟩).isSome = true := fun k hk => by
    rw [hW1]
    exact set_isSome b _ _ _ (fun j hj => by rw [Nat.add_assoc]; exact hsp _ (by omega)) _ (hsp k hk)
  have hcp2 : ∀ (W : World), (∀ x, W.cell? x = W1.cell? x) → (∀ x, W.frozen? x = W1.frozen? x) → ∀ ty dc, (Builtin.copy_ #[33, 33] ty #[.slice (some ⟨b, off + i * 2, none⟩) (n + m - i) dc, .slice (some ⟨vb, voff, none⟩) m vc]).run Tryz.prog W = .ok (goInt m) (W.setCells b (off + i * 2) vs) := fun W hWc hWf ty dc => by
    have := run_copy_sz (P := Tryz.prog) W 33 33 ty 101 2 b (off + i * 2) (n + m - i) dc ⟨vb, voff, none⟩ m vc vs (by kernel_rfl) hsz (by rw [hvl, hm2])
      (fun j v hj => by
        rw [Addr.add_lit, hWc, hW1, World.cell?_setCells_out b _ _ _ _ (fun h _ => absurd h hvb)]
        exact hvs j v hj)
      (fun j hj => by rw [hWc, Nat.add_assoc]; exact hsp1 _ (by omega)) (fun j hj => by rw [hWf, hW1, World.frozen?_setCells, Nat.add_assoc]; exact hfz _ (by omega)) h1v
    rwa [hm2] at this
  rw [← hW1] at hcp1
  clear hm1 hm2 hcl hvl hdl hsz
  go_enter Tryz.func181, Tryz.ntmps181
  go_wp2_with (simp only [hov])
  go_region_law_o (refine step_copy_run rfl _ _ 33 33 rfl _ _ (by simp [Act.eval, Act.put]) (by simp [Act.eval, Act.put]) (hcp1 _ _ _) ?_)
  go_wp2_with (with_reducible refine wpList_copy_run _ rfl _ _ 33 33 rfl _ _ rfl rfl (hcp2 _ (fun _ => rfl) (fun _ => rfl) _ _) ?_)
  go_ret
  first | exact ⟨rfl, rfl⟩ | exact ⟨rfl, by rw [hW1]⟩
set_option maxHeartbeats 4000000 in
set_option maxRecDepth 100000 in
theorem ins_grow (b off n c i vb voff m vc : Nat) (cs vs : List Value) (w : World) (hi : i < n) (hm : 0 < m) (hnm : n + m ≤ 1048577) (hnc : n ≤ c) (hroom : c < n + m) (hcl : cs.length = n * 2) (hvl : vs.length = m * 2)
    (hcs : ∀ j v, cs[j]? = some v → w.cell? ⟨b, off + j, none⟩ = some v) (hvs : ∀ j v, vs[j]? = some v → w.cell? ⟨vb, voff + j, none⟩ = some v) (h1c : ∀ v ∈ cs, v.oneCell' = true) (h1v : ∀ v ∈ vs, v.oneCell' = true) (z : Value)
    (hz : (Tryz.prog.info? 101).map (fun i => (i.zero, i.size, i.bytes)) = some (some z, 2, 24)) (hzc : z.cells.size = 2) :
    Calls Tryz.prog 181 #[.slice (some ⟨b, off, none⟩) n c, .int .i64 i, .slice (some ⟨vb, voff, none⟩) m vc] w fun e w' =>
      e = .returned (.slice (some ⟨w.heap.size, 0, none⟩) (n + m) (grownCap w (n + m) c 101)) ∧
      w' = (((w.alloc (.cells ((cs.take (i * 2)).toArray ++ Builtin.zeroCells z.cells (n + m - i) ++ Builtin.zeroCells z.cells (grownCap w (n + m) c 101 - (n + m))) 101)).drew.setCells w.heap.size (i * 2) vs).drew).setCells w.heap.size ((i + m) * 2) (cs.drop (i * 2)) := by
  obtain ⟨i0, hi0, hz0, hzs, hzb⟩ := info_parts hz
  have mixed : Tryz.prog.follows .mixedOrders = true := by kernel_rfl
  have hz1 : ¬ ((m : Int) = 0) := by omega
  have hz2 : ¬ ((i : Int) = (n : Int)) := by omega
  have hz3 : (c : Int) < (n : Int) + (m : Int) := by omega
  have hsz : (Tryz.prog.info? 101).map (·.size) = some 2 := by rw [hi0]; simp [hzs]
  have hbw : b < w.heap.size := block_lt_of_cell (hcs 0 _ (List.getElem?_eq_getElem (by omega)))
  have hvw : vb < w.heap.size := block_lt_of_cell (hvs 0 _ (List.getElem?_eq_getElem (by omega)))
  have hkk : (n : Int) + (m : Int) - (i : Int) = ((n + m - i : Nat) : Int) := by omega
  have hik : i + (n + m - i) = n + m := by omega
  have hold : (Builtin.firstCells i0.size i (.slice (some ⟨b, off, none⟩) i c)).run Tryz.prog w.drew = .ok (cs.take (i * 2)).toArray w.drew := by
    rw [hzs]
    exact run_firstCells_some w.drew 2 i ⟨b, off, none⟩ i c (cs.take (i * 2)) (by rw [List.length_take]; omega) (fun j v hj => by
      rw [Addr.add_lit]
      rw [List.getElem?_take] at hj
      split at hj
      · exact hcs j v hj
      · cases hj)
  have hrz : ∀ ty, (Builtin.append_ #[33, 3] ty #[.slice (some ⟨b, off, none⟩) i c, .int .i64 ((n : Int) + (m : Int) - (i : Int))]).run Tryz.prog w =
      .ok (.slice (some ⟨w.heap.size, 0, none⟩) (n + m) (grownCap w (n + m) c 101)) (w.drew.alloc (.cells ((cs.take (i * 2)).toArray ++ Builtin.zeroCells z.cells (n + m - i) ++ Builtin.zeroCells z.cells (grownCap w (n + m) c 101 - (n + m))) 101)) := fun ty => by
    have h := Lib.run_append_grow_zeros (P := Tryz.prog) w 33 3 ty 101 i0 z .i64 .i64 (by kernel_rfl) (by kernel_rfl) hi0 hz0 (some ⟨b, off, none⟩) i c (cs.take (i * 2)) hold (n + m - i) (by omega) (by omega) (by omega) (by omega) (by rw [hzb]; omega) (by rw [hzb, hik]; exact growslice_fits hroom (by omega))
    rw [hik] at h
    rw [hkk]
    exact h
  obtain ⟨G, hG⟩ : ∃ G, G = grownCap w (n + m) c 101 := ⟨_, rfl⟩
  obtain ⟨ROW, hROW⟩ : ∃ ROW : Array Value, ROW = (cs.take (i * 2)).toArray ++ Builtin.zeroCells z.cells (n + m - i) ++ Builtin.zeroCells z.cells (G - (n + m)) := ⟨_, rfl⟩
  rw [← hG] at hrz ⊢
  rw [← hROW] at hrz ⊢
  have hRl : (n + m) * 2 ≤ ROW.size := by
    rw [hROW]
    simp only [Array.size_append, List.size_toArray, List.length_take, zeroCells_sz, hzc]
    omega
  obtain ⟨W1, hW1⟩ : ∃ W1, W1 = w.drew.alloc (.cells ROW 101) := ⟨_, rfl⟩
  rw [← hW1] at hrz
  have hN : ∀ j, j < (n + m) * 2 → (W1.cell? ⟨w.heap.size, j, none⟩).isSome = true := fun j hj => by
    rw [hW1, World.cell?_alloc_at (w := w.drew) ROW _ w.heap.size j rfl, Array.getElem?_eq_getElem (by omega)]; rfl
  have hNf : ∀ j, W1.frozen? ⟨w.heap.size, j, none⟩ = false := fun j => by rw [hW1]; exact World.frozen?_alloc_at (w := w.drew) ROW _ w.heap.size j rfl
  have hOb : ∀ j v, w.cell? ⟨b, j, none⟩ = some v → W1.cell? ⟨b, j, none⟩ = some v := fun j v h => by rw [hW1, World.cell?_alloc_past (w := w.drew) _ b j hbw]; exact h
  have hOv : ∀ j v, w.cell? ⟨vb, j, none⟩ = some v → W1.cell? ⟨vb, j, none⟩ = some v := fun j v h => by rw [hW1, World.cell?_alloc_past (w := w.drew) _ vb j hvw]; exact h
  have hm1 : Nat.min (n - i) (n + m - (i + m)) = n - i := by simp only [Nat.min_def]; split <;> omega
  have hm2 : Nat.min m (n + m - i) = m := by simp only [Nat.min_def]; split <;> omega
  have hcpA : ∀ (W : World), (∀ x, W.cell? x = W1.cell? x) → (∀ x, W.frozen? x = W1.frozen? x) → ∀ ty dc, (Builtin.copy_ #[33, 33] ty #[.slice (some ⟨w.heap.size, i * 2, none⟩) (n + m - i) dc, .slice (some ⟨vb, voff, none⟩) m vc]).run Tryz.prog W = .ok (goInt m) (W.setCells w.heap.size (i * 2) vs) := fun W hWc hWf ty dc => by
    have := run_copy_sz (P := Tryz.prog) W 33 33 ty 101 2 w.heap.size (i * 2) (n + m - i) dc ⟨vb, voff, none⟩ m vc vs (by kernel_rfl) hsz (by rw [hvl, hm2])
      (fun j v hj => by rw [Addr.add_lit, hWc]; exact hOv _ v (hvs j v hj))
      (fun j hj => by rw [hWc]; exact hN _ (by omega)) (fun j hj => by rw [hWf]; exact hNf _) h1v
    rwa [hm2] at this
  have hGn : n + m ≤ G := by rw [hG]; exact grownCap_ge w _ _ _
  have hGi : ¬ (G = i) := by omega
  have hGim : ¬ (G = i + m) := by omega
  have hci : ¬ (c = i) := by omega
  have hbN : b ≠ w.heap.size := by omega
  have hdl : (cs.drop (i * 2)).length = (n - i) * 2 := by rw [List.length_drop, hcl]; omega
  have hcpB : ∀ (W : World), (∀ x, W.cell? x = (W1.setCells w.heap.size (i * 2) vs).cell? x) → (∀ x, W.frozen? x = (W1.setCells w.heap.size (i * 2) vs).frozen? x) → ∀ ty dc sc, (Builtin.copy_ #[33, 33] ty #[.slice (some ⟨w.heap.size, (i + m) * 2, none⟩) (n + m - (i + m)) dc, .slice (some ⟨b, off + i * 2, none⟩) (n - i) sc]).run Tryz.prog W = .ok (goInt ((n - i : Nat) : Int)) (W.setCells w.heap.size ((i + m) * 2) (cs.drop (i * 2))) := fun W hWc hWf ty dc sc => by
    have := run_copy_sz (P := Tryz.prog) W 33 33 ty 101 2 w.heap.size ((i + m) * 2) (n + m - (i + m)) dc ⟨b, off + i * 2, none⟩ (n - i) sc (cs.drop (i * 2)) (by kernel_rfl) hsz (by rw [hdl, hm1])
      (fun j v hj => by
        rw [Addr.add_lit, hWc, World.cell?_setCells_out _ _ _ _ _ (fun h _ => absurd h hbN), Nat.add_assoc]
        exact hOb _ v (hcs (i * 2 + j) v (by rwa [List.getElem?_drop] at hj)))
      (fun j hj => by rw [hWc]; exact set_isSome _ _ _ _ (fun t ht => hN _ (by omega)) _ (hN _ (by omega)))
      (fun j hj => by rw [hWf, World.frozen?_setCells]; exact hNf _) (fun v hv => h1c v (List.mem_of_mem_drop hv))
    rwa [hm1] at this
  subst hW1
  have hE1 : ∀ x, ((w.alloc (.cells ROW 101)).drew).cell? x = (w.drew.alloc (.cells ROW 101)).cell? x := fun x => rfl
  have hE2 : ∀ x, ((w.alloc (.cells ROW 101)).drew).frozen? x = (w.drew.alloc (.cells ROW 101)).frozen? x := fun x => rfl
  have hF1 : ∀ x, (((w.alloc (.cells ROW 101)).drew.setCells w.heap.size (i * 2) vs).drew).cell? x = ((w.drew.alloc (.cells ROW 101)).setCells w.heap.size (i * 2) vs).cell? x := fun x => rfl
  have hF2 : ∀ x, (((w.alloc (.cells ROW 101)).drew.setCells w.heap.size (i * 2) vs).drew).frozen? x = ((w.drew.alloc (.cells ROW 101)).setCells w.heap.size (i * 2) vs).frozen? x := fun x => rfl
  have hw1 : IntKind.i64.wrap ((i : Int) + (m : Int)) = (i : Int) + (m : Int) := by rw [IntKind.wrap_i64]; omega
  have hb1 : (0 : Int) ≤ (i : Int) + (m : Int) := by omega
  have hin : i ≤ n := by omega
  have htn : ((i : Int) + (m : Int)).toNat = i + m := by omega
  have hb3 : (i : Int) ≤ (n : Int) := by omega
  clear hkk hik hold hROW hG hRl hm1 hm2 hcl hvl hdl hsz hz hzc hz0 hzs hzb hi0
  go_enter Tryz.func181, Tryz.ntmps181
  go_wp2_with (first
    | (at_builtin; refine Lib.wpList_append_run _ rfl _ _ _ _ rfl _ _ rfl rfl _ _ (hrz _) ?_)
    | (with_reducible refine wpList_copy_run _ rfl _ _ 33 33 rfl _ _ rfl rfl (hcpA _ hE1 hE2 _ _) ?_)
    | (with_reducible refine wpList_copy_run _ rfl _ _ 33 33 rfl _ _ rfl rfl (hcpB _ (fun _ => rfl) (fun _ => rfl) _ _ _) ?_))
  go_region_law_o (refine step_copy_run rfl _ _ 33 33 rfl (.slice (some ⟨w.heap.size, (i + m) * 2, none⟩) (n + m - (i + m)) (G - (i + m))) (.slice (some ⟨b, off + i * 2, none⟩) (n - i) (c - i)) (by simp [Act.eval, Act.put]) (by simp [Act.eval, Act.put]) (hcpB _ hF1 hF2 _ (G - (i + m)) (c - i)) ?_)
  go_wp2
  go_ret
  exact ⟨rfl, rfl⟩
theorem insE_S (L : List Et) (i : Nat) (e : Et) (hi : i < L.length) (hl : L.length ≤ 1048576) : InsShift Tryz.prog 181 L i e := fun w b off c vb voff vc tA tB kA kB h1 h2 h3 h4 h5 h6 h7 h8 h9 h10 => by
  have := ins_shift b off L.length c i vb voff 1 vc (cellsE L) (cellsE [e]) w hi Nat.one_pos (by omega) h1 h2 (cellsE_len L) rfl h3 h4 h5 h6 (cellsE_one L) (cellsE_one [e]) tA tB kA kB h7 h8 h9 h10
  rwa [cellsE_drop] at this
theorem insE_G (L : List Et) (i : Nat) (e : Et) (hi : i < L.length) (hl : L.length ≤ 1048576) : InsGrow Tryz.prog 181 L i e := ⟨101, .agg #[.string ⟨#[]⟩, .int .i64 0], rfl, fun w b off c vb voff vc h1 h2 h3 h4 => by
  have := ins_grow b off L.length c i vb voff 1 vc (cellsE L) (cellsE [e]) w hi Nat.one_pos (by omega) h1 h2 (cellsE_len L) rfl h3 h4 (cellsE_one L) (cellsE_one [e]) (.agg #[.string ⟨#[]⟩, .int .i64 0]) (by kernel_rfl) rfl
  rwa [cellsE_drop, cellsE_take] at this⟩
theorem insE (L : List Et) (i : Nat) (e : Et) (t : TypeId) (hi : i < L.length) (hl : L.length ≤ 1048576) : Fn Tryz.prog 181 [.row 0 L.length, .int .i64 i, .far [enP e]] [(0, .row ⟨2, t⟩ (L.map enP))] (.row 64 (L.length + 1)) [(64, .row ⟨2, 0⟩ ((L.take i ++ [e] ++ L.drop i).map enP))] :=
  Fn.ins ent_Ins hi (insE_S L i e hi hl) (insE_G L i e hi hl)
end Go.Pv

/- What functions of the program and of the reference do, in plain values. -/
namespace Go.Pv
open Go.Proofs Go.Mth
set_option linter.unusedSimpArgs false
set_option linter.unusedVariables false
set_option maxHeartbeats 4000000
set_option maxRecDepth 4000

/-! ### an entry put, an entry dropped, a step -/
theorem gt_is (a b : ByteArray) : (!(Op.bytesLess a.toList b.toList || decide (a = b))) = Op.bytesLess b.toList a.toList := by
  by_cases h : Op.bytesLess a.toList b.toList = true ∨ a = b
  · have h1 := le_nlt h
    rw [Bool.not_eq_true] at h1
    rw [h1]
    rcases h with h | h <;> simp [h]
  · have h2 : Op.bytesLess a.toList b.toList = false ∧ ¬ a = b := ⟨by simpa using fun k => h (.inl k), fun k => h (.inr k)⟩
    rw [nle_lt h2, h2.1, decide_eq_false h2.2]; rfl
theorem put_lit (x : Et) (n : ByteArray) : Fn Tryz.prog 180 [enP x, .fel [.str n]] [] (.bool (sLt n x.1)) [] := by
  obtain ⟨a, b⟩ := x
  unfold enP sLt
  rw [← gt_is]
  refine fn_x tok (n := 8) (rs := [.tmp 3]) Tryz.func180 (by decide) rfl rfl rfl rfl ?_
  refine Wr.go ?_
  repeat' ((first | (have ee := True.intro; refine Wr.mk ?_) | ((first | refine br_go ?_ ?_ | refine pick_go ?_ ?_) <;> intro ee f <;> (try simp only [BB] at f) <;> (try simp only [numOk, verOk] at f))) <;> (try simp (maxSteps := 1000000) (disch := first | omega | (simp only [LN, numOk, verOk, rfP, rvP, rhP, frP, elOk_en, elOk_nd, nfx_en, nfx_nd] <;> omega) | exact Ck.mk rfl) only [ee, VC, T, Nat.reduceMul, Nat.reduceAdd, Nat.reduceSub, Nat.reduceLT, Nat.reduceEqDiff, Nat.reduceLeDiff, Nat.reduceBEq, reduceCtorEq, Int.reduceToNat, ↓reduceIte, rfP, rvP, rhP, frP, elOk_en, elOk_nd, nfx_en, nfx_nd]) <;> (try clear ee))
theorem indexG (es : List Et) (n : ByteArray) (hl : es.length ≤ 1048576) : Fn Tryz.prog 158 [.far (es.map enP), .fn (.func 180) [.fel [.str n]]] [] (.int .i64 (gtI es n)) [] := by
  have hst := findI_step (fun e : Et => sLt n e.1) es
  have hen := findI_end (fun e : Et => sLt n e.1) es
  refine fn_x tok (n := 19) (rs := [.tmp 4]) Tryz.func158 (by decide) rfl rfl rfl rfl ?_
  refine Wr.go ?_
  repeat' ((first | (have ee := True.intro; refine Wr.mk ?_) | ((first | refine br_go ?_ ?_ | refine pick_go ?_ ?_) <;> intro ee f <;> (try simp only [BB] at f) <;> (try simp only [numOk, verOk] at f))) <;> (try simp (maxSteps := 1000000) (disch := first | omega | (simp only [LN, numOk, verOk, rfP, rvP, rhP, frP, elOk_en, elOk_nd, nfx_en, nfx_nd] <;> omega) | exact Ck.mk rfl) only [ee, VC, T, Nat.reduceMul, Nat.reduceAdd, Nat.reduceSub, Nat.reduceLT, Nat.reduceEqDiff, Nat.reduceLeDiff, Nat.reduceBEq, reduceCtorEq, Int.reduceToNat, ↓reduceIte, rfP, rvP, rhP, frP, elOk_en, elOk_nd, nfx_en, nfx_nd]) <;> (try clear ee))
  refine lp_go (fun i : Nat => ⟨19, [(0, .far (es.map enP)), (1, .fn (.func 180) [.fel [.str n]]), (7, .int .i64 es.length), (8, .int .i64 i)], []⟩) (fun i => i ≤ es.length ∧ gtI es n = findI (fun e => sLt n e.1) (es.drop i) i) (fun i => es.length - i) 0 ?_ ⟨Nat.zero_le _, rfl⟩ ?_
  · (simp (disch := first | omega | (simp only [LN, numOk, verOk] <;> omega) | exact Ck.mk rfl) only [SB, EQ, Nat.reduceMul, Nat.reduceAdd, Nat.reduceSub, Nat.reduceLT, Nat.reduceEqDiff, Nat.reduceLeDiff, Nat.reduceBEq, reduceCtorEq, Int.reduceToNat, ↓reduceIte]; try omega)
  · rintro i ⟨h1, h2⟩ N hN
    have hg : i < es.length → (es.map enP).getD i .junk = .agg [.str (es.getD i default).1, .int .i64 (es.getD i default).2] := fun h => by
      rw [List.getD_eq_getElem?_getD, List.getElem?_map, List.getElem?_eq_getElem h, List.getD_eq_getElem?_getD, List.getElem?_eq_getElem h]; rfl
    have hst := hst i
    have hen := hen i
    have hlit := put_lit (es.getD i default) n
    generalize sLt n (es.getD i default).1 = q at *
    refine Wr.go ?_
    repeat' ((first | (have ee := True.intro; refine Wr.mk ?_) | ((first | refine br_go ?_ ?_ | refine pick_go ?_ ?_) <;> intro ee f <;> (try simp only [BB] at f) <;> (try simp only [numOk, verOk] at f)) | (have ee := True.intro; first | refine call_x (hlit) rfl ⟨rfl⟩ ?_)) <;> (try simp (maxSteps := 1000000) (disch := first | omega | (simp only [LN, numOk, verOk, rfP, rvP, rhP, frP, elOk_en, elOk_nd, nfx_en, nfx_nd, hg] <;> omega) | exact Ck.mk rfl) only [ee, VC, T, Nat.reduceMul, Nat.reduceAdd, Nat.reduceSub, Nat.reduceLT, Nat.reduceEqDiff, Nat.reduceLeDiff, Nat.reduceBEq, reduceCtorEq, Int.reduceToNat, ↓reduceIte, rfP, rvP, rhP, frP, elOk_en, elOk_nd, nfx_en, nfx_nd, hg]) <;> (try clear ee))
    · rw [h2, hst (by omega), if_pos f]
    · refine hN (i + 1) _ ⟨by omega, ?_⟩ (by omega) ?_
      · rw [h2, hst (by omega), if_neg (by rw [f]; decide)]
      · (simp (disch := first | omega | (simp only [LN, numOk, verOk] <;> omega) | exact Ck.mk rfl) only [SB, EQ, Nat.reduceMul, Nat.reduceAdd, Nat.reduceSub, Nat.reduceLT, Nat.reduceEqDiff, Nat.reduceLeDiff, Nat.reduceBEq, reduceCtorEq, Int.reduceToNat, ↓reduceIte]; try omega)
    · rw [h2, hen (by omega)]
theorem insEnd (L : List Et) (e : Et) (hl : L.length ≤ 1048576) : Fn Tryz.prog 181 [.row 0 L.length, .int .i64 L.length, .far [enP e]] [(0, .row ⟨2, 0⟩ (L.map enP))] (.row 64 (L.length + 1)) [(64, .row ⟨2, 0⟩ ((L ++ [e]).map enP))] := by
  have hm : (L ++ [e]).map enP = L.map enP ++ [enP e] := by rw [List.map_append]; rfl
  rw [hm]
  have hE : elOk 2 [enP e] := by
    intro z hz
    obtain rfl := List.mem_singleton.1 hz
    exact ⟨rfl, rfl⟩
  have hk : FnE Tryz.prog 181 [.row 0 L.length, .int .i64 L.length, .far [enP e]] [(0, .row ⟨2, 0⟩ (L.map enP))] (fun r m => r = .row 0 (L.length + 1) ∧ m = [(0, .row ⟨2, 0⟩ (L.map enP ++ [enP e]))]) := by
    refine fn_e tok (n := 95) (rs := [.tmp 6]) Tryz.func181 (by decide) rfl rfl rfl rfl (low_of rfl) ?_
    refine Wr.go ?_
    repeat' ((first | (have ee := True.intro; refine Wr.mk ?_) | ((first | refine br_go ?_ ?_ | refine pick_go ?_ ?_) <;> intro ee f <;> (try simp only [BB] at f) <;> (try simp only [numOk, verOk] at f))) <;> (try simp (maxSteps := 1000000) (disch := first | omega | (simp only [LN, numOk, verOk, rfP, rvP, rhP, frP, elOk_en, elOk_nd, nfx_en, nfx_nd, hE] <;> omega) | exact Ck.mk rfl) only [ee, VC, T, Nat.reduceMul, Nat.reduceAdd, Nat.reduceSub, Nat.reduceLT, Nat.reduceEqDiff, Nat.reduceLeDiff, Nat.reduceBEq, reduceCtorEq, Int.reduceToNat, ↓reduceIte, rfP, rvP, rhP, frP, elOk_en, elOk_nd, nfx_en, nfx_nd, hE]) <;> (try clear ee))
    exact fin_t [] (⟨rfl, rfl⟩) rfl (by simp [RV, RV2, RVl, RV1, tau, tget, hget, data1, oneOf]) (by simp [RH, RVl, RV1, tau, hget, data1]) (by simp [Taus, hget])
  obtain ⟨_, _, ⟨rfl, rfl⟩, k⟩ := hk
  exact k.ren (by simp) rfl
theorem impl_put (L : List Et) (n : ByteArray) (i : Int) (hA : Asc L) (hl : L.length ≤ 1000000) : FnE Tryz.prog 165 [.row 0 L.length, .str n, .int .i64 i] [(0, .row ⟨2, 0⟩ (L.map enP))] (fun r m => r = .row 64 (putI L n i).length ∧ m = [(64, .row ⟨2, 0⟩ ((putI L n i).map enP))]) := by
  have hp := impl_placeOf L n (by omega)
  have hr := placeI_r L n
  have hG := indexG L n (by omega)
  have hgr := gtI_r L n
  have hnm : 0 ≤ placeI L n → (L.getD (placeI L n).toNat default).1 = n := fun h => by
    rcases findI_range (fun e : Et => decide (e.1 = n)) L with k | ⟨_, _, k⟩
    · unfold placeI at h; omega
    · exact of_decide_eq_true k
  rw [putI_at n i L hA]
  generalize placeI L n = p at *
  generalize gtI L n = g at *
  by_cases h : 0 ≤ p
  · rw [if_pos h]
    obtain ⟨k, rfl⟩ : ∃ k : Nat, p = k := ⟨_, (Int.toNat_of_nonneg h).symm⟩
    have hkl : k < L.length := by omega
    have hnm := hnm h
    rw [Int.toNat_natCast] at hnm ⊢
    rw [List.length_set]
    have hg : (L.map enP).getD k .junk = .agg [.str n, .int .i64 (L.getD k default).2] := by
      rw [← hnm, List.getD_eq_getElem?_getD, List.getElem?_map, List.getElem?_eq_getElem hkl, List.getD_eq_getElem?_getD, List.getElem?_eq_getElem hkl]; rfl
    have hu : ∀ a b z : PV, upd (.agg [a, b]) 1 [z] = .agg [a, z] := fun _ _ _ => rfl
    have hset : (L.map enP).set k (.agg [.str n, .int .i64 i]) = (L.set k (n, i)).map enP := by rw [List.map_set]; rfl
    clear hnm
    have hk : FnE Tryz.prog 165 [.row 0 L.length, .str n, .int .i64 i] [(0, .row ⟨2, 0⟩ (L.map enP))] (fun r m => r = .row 0 L.length ∧ m = [(0, .row ⟨2, 0⟩ ((L.set k (n, i)).map enP))]) := by
      refine fn_e tok (n := 34) (rs := [.tmp 6]) Tryz.func165 (by decide) rfl rfl rfl rfl (low_of rfl) ?_
      refine Wr.go ?_
      repeat' ((first | (have ee := True.intro; refine Wr.mk ?_) | ((first | refine br_go ?_ ?_ | refine pick_go ?_ ?_) <;> intro ee f <;> (try simp only [BB] at f) <;> (try simp only [numOk, verOk] at f)) | (have ee := True.intro; first | (refine call_hx [] [0] (hp) (by decide) ?_ rfl ?_; (focus (first | rfl | (simp (maxSteps := 1000000) (disch := first | omega | (simp only [LN, numOk, verOk, rfP, rvP, rhP, frP, elOk_en, elOk_nd, nfx_en, nfx_nd, hg, hu, hset] <;> omega) | exact Ck.mk rfl) only [VC, T, Nat.reduceMul, Nat.reduceAdd, Nat.reduceSub, Nat.reduceLT, Nat.reduceEqDiff, Nat.reduceLeDiff, Nat.reduceBEq, reduceCtorEq, Int.reduceToNat, ↓reduceIte, rfP, rvP, rhP, frP, elOk_en, elOk_nd, nfx_en, nfx_nd, hg, hu, hset]; done)))))) <;> (try simp (maxSteps := 1000000) (disch := first | omega | (simp only [LN, numOk, verOk, rfP, rvP, rhP, frP, elOk_en, elOk_nd, nfx_en, nfx_nd, hg, hu, hset] <;> omega) | exact Ck.mk rfl) only [ee, VC, T, Nat.reduceMul, Nat.reduceAdd, Nat.reduceSub, Nat.reduceLT, Nat.reduceEqDiff, Nat.reduceLeDiff, Nat.reduceBEq, reduceCtorEq, Int.reduceToNat, ↓reduceIte, rfP, rvP, rhP, frP, elOk_en, elOk_nd, nfx_en, nfx_nd, hg, hu, hset]) <;> (try clear ee))
      exact fin_t [] (⟨rfl, rfl⟩) rfl (by simp [RV, RV2, RVl, RV1, tau, tget, hget, data1, oneOf]) (by simp [RH, RVl, RV1, tau, hget, data1]) (by simp [Taus, hget])
    obtain ⟨_, _, ⟨rfl, rfl⟩, k⟩ := hk
    exact (k.ren (by simp) rfl).e
  · rw [if_neg h]
    by_cases hg : g < 0
    · rw [if_pos hg]
      have hI := (insEnd L (n, i) (by omega)).e
      rw [List.length_append, List.length_singleton]
      refine fn_e tok (n := 34) (rs := [.tmp 6]) Tryz.func165 (by decide) rfl rfl rfl rfl (low_of rfl) ?_
      refine Wr.go ?_
      repeat' ((first | (have ee := True.intro; refine Wr.mk ?_) | ((first | refine br_go ?_ ?_ | refine pick_go ?_ ?_) <;> intro ee f <;> (try simp only [BB] at f) <;> (try simp only [numOk, verOk] at f)) | (have ee := True.intro; first | (refine call_hx [] [0] (hp) (by decide) ?_ rfl ?_; (focus (first | rfl | (simp (maxSteps := 1000000) (disch := first | omega | (simp only [LN, numOk, verOk, rfP, rvP, rhP, frP, elOk_en, elOk_nd, nfx_en, nfx_nd] <;> omega) | exact Ck.mk rfl) only [VC, T, Nat.reduceMul, Nat.reduceAdd, Nat.reduceSub, Nat.reduceLT, Nat.reduceEqDiff, Nat.reduceLeDiff, Nat.reduceBEq, reduceCtorEq, Int.reduceToNat, ↓reduceIte, rfP, rvP, rhP, frP, elOk_en, elOk_nd, nfx_en, nfx_nd]; done)))) | (refine call_hx [] [0,320] (hG) (by decide) ?_ rfl ?_; (focus (first | rfl | (simp (maxSteps := 1000000) (disch := first | omega | (simp only [LN, numOk, verOk, rfP, rvP, rhP, frP, elOk_en, elOk_nd, nfx_en, nfx_nd] <;> omega) | exact Ck.mk rfl) only [VC, T, Nat.reduceMul, Nat.reduceAdd, Nat.reduceSub, Nat.reduceLT, Nat.reduceEqDiff, Nat.reduceLeDiff, Nat.reduceBEq, reduceCtorEq, Int.reduceToNat, ↓reduceIte, rfP, rvP, rhP, frP, elOk_en, elOk_nd, nfx_en, nfx_nd]; done)))) | (refine call_h [0] [2112] (hI) (by decide) ?_ rfl ?_; (focus (first | rfl | (simp (maxSteps := 1000000) (disch := first | omega | (simp only [LN, numOk, verOk, rfP, rvP, rhP, frP, elOk_en, elOk_nd, nfx_en, nfx_nd] <;> omega) | exact Ck.mk rfl) only [VC, T, Nat.reduceMul, Nat.reduceAdd, Nat.reduceSub, Nat.reduceLT, Nat.reduceEqDiff, Nat.reduceLeDiff, Nat.reduceBEq, reduceCtorEq, Int.reduceToNat, ↓reduceIte, rfP, rvP, rhP, frP, elOk_en, elOk_nd, nfx_en, nfx_nd]; done))); rintro _ _ ⟨rfl, rfl⟩))) <;> (try simp (maxSteps := 1000000) (disch := first | omega | (simp only [LN, numOk, verOk, rfP, rvP, rhP, frP, elOk_en, elOk_nd, nfx_en, nfx_nd] <;> omega) | exact Ck.mk rfl) only [ee, VC, T, Nat.reduceMul, Nat.reduceAdd, Nat.reduceSub, Nat.reduceLT, Nat.reduceEqDiff, Nat.reduceLeDiff, Nat.reduceBEq, reduceCtorEq, Int.reduceToNat, ↓reduceIte, rfP, rvP, rhP, frP, elOk_en, elOk_nd, nfx_en, nfx_nd]) <;> (try clear ee))
      exact fin_t [some 2176] (⟨rfl, rfl⟩) rfl (by simp [RV, RV2, RVl, RV1, tau, tget, hget, data1, oneOf]) (by simp [RH, RVl, RV1, tau, hget, data1]) (by simp [Taus, hget])
    · rw [if_neg hg]
      obtain ⟨k, hgk⟩ : ∃ k : Nat, g = k := ⟨_, (Int.toNat_of_nonneg (by omega)).symm⟩
      have hkl : k < L.length := by omega
      have hI := (insE L k (n, i) 0 hkl (by omega)).e
      rw [← hgk] at hI
      rw [show g.toNat = k by omega]
      have hN : (L.take k ++ [(n, i)] ++ L.drop k).length = L.length + 1 := by
        simp only [List.length_append, List.length_take, List.length_drop, List.length_singleton]; omega
      rw [hN]
      generalize L.take k ++ [(n, i)] ++ L.drop k = M at *
      refine fn_e tok (n := 34) (rs := [.tmp 6]) Tryz.func165 (by decide) rfl rfl rfl rfl (low_of rfl) ?_
      refine Wr.go ?_
      repeat' ((first | (have ee := True.intro; refine Wr.mk ?_) | ((first | refine br_go ?_ ?_ | refine pick_go ?_ ?_) <;> intro ee f <;> (try simp only [BB] at f) <;> (try simp only [numOk, verOk] at f)) | (have ee := True.intro; first | (refine call_hx [] [0] (hp) (by decide) ?_ rfl ?_; (focus (first | rfl | (simp (maxSteps := 1000000) (disch := first | omega | (simp only [LN, numOk, verOk, rfP, rvP, rhP, frP, elOk_en, elOk_nd, nfx_en, nfx_nd] <;> omega) | exact Ck.mk rfl) only [VC, T, Nat.reduceMul, Nat.reduceAdd, Nat.reduceSub, Nat.reduceLT, Nat.reduceEqDiff, Nat.reduceLeDiff, Nat.reduceBEq, reduceCtorEq, Int.reduceToNat, ↓reduceIte, rfP, rvP, rhP, frP, elOk_en, elOk_nd, nfx_en, nfx_nd]; done)))) | (refine call_hx [] [0,320] (hG) (by decide) ?_ rfl ?_; (focus (first | rfl | (simp (maxSteps := 1000000) (disch := first | omega | (simp only [LN, numOk, verOk, rfP, rvP, rhP, frP, elOk_en, elOk_nd, nfx_en, nfx_nd] <;> omega) | exact Ck.mk rfl) only [VC, T, Nat.reduceMul, Nat.reduceAdd, Nat.reduceSub, Nat.reduceLT, Nat.reduceEqDiff, Nat.reduceLeDiff, Nat.reduceBEq, reduceCtorEq, Int.reduceToNat, ↓reduceIte, rfP, rvP, rhP, frP, elOk_en, elOk_nd, nfx_en, nfx_nd]; done)))) | (refine call_h [0] [2112] (hI) (by decide) ?_ rfl ?_; (focus (first | rfl | (simp (maxSteps := 1000000) (disch := first | omega | (simp only [LN, numOk, verOk, rfP, rvP, rhP, frP, elOk_en, elOk_nd, nfx_en, nfx_nd] <;> omega) | exact Ck.mk rfl) only [VC, T, Nat.reduceMul, Nat.reduceAdd, Nat.reduceSub, Nat.reduceLT, Nat.reduceEqDiff, Nat.reduceLeDiff, Nat.reduceBEq, reduceCtorEq, Int.reduceToNat, ↓reduceIte, rfP, rvP, rhP, frP, elOk_en, elOk_nd, nfx_en, nfx_nd]; done))); rintro _ _ ⟨rfl, rfl⟩))) <;> (try simp (maxSteps := 1000000) (disch := first | omega | (simp only [LN, numOk, verOk, rfP, rvP, rhP, frP, elOk_en, elOk_nd, nfx_en, nfx_nd] <;> omega) | exact Ck.mk rfl) only [ee, VC, T, Nat.reduceMul, Nat.reduceAdd, Nat.reduceSub, Nat.reduceLT, Nat.reduceEqDiff, Nat.reduceLeDiff, Nat.reduceBEq, reduceCtorEq, Int.reduceToNat, ↓reduceIte, rfP, rvP, rhP, frP, elOk_en, elOk_nd, nfx_en, nfx_nd]) <;> (try clear ee))

      exact fin_t [some 2176] (⟨rfl, rfl⟩) rfl (by simp [RV, RV2, RVl, RV1, tau, tget, hget, data1, oneOf, hN]) (by simp [RH, RVl, RV1, tau, hget, data1, hN]) (by simp [Taus, hget, hN])
theorem impl_drop_y (L : List Et) (n : ByteArray) (hl : L.length ≤ 1000000) (hn : n.size ≤ 1048576) (h : hasT L n) (hN : nmOk n) : FnE Tryz.prog 166 [.row 0 L.length, .str n] [(0, .row ⟨2, 0⟩ (L.map enP))] (fun r m => r = .tup [.row 64 (dropI L n).length, .bool true] ∧ m = [(64, .row ⟨2, 0⟩ ((dropI L n).map enP))]) := by
  have hp := impl_placeOf L n (by omega)
  have hr := placeI_r L n
  have hK := impl_NameOk n (by omega)
  rw [decide_eq_true hN] at hK
  rw [dropI_at n L h]
  unfold hasT at h
  generalize placeI L n = p at *
  obtain ⟨k, rfl⟩ : ∃ k : Nat, p = k := ⟨_, (Int.toNat_of_nonneg h).symm⟩
  have hkl : k < L.length := by omega
  have hD := (deleteE L k hkl (by omega)).e
  rw [Int.toNat_natCast]
  have hN : (L.take k ++ L.drop (k + 1)).length = L.length - 1 := by
    simp only [List.length_append, List.length_take, List.length_drop]; omega
  rw [hN]
  generalize L.take k ++ L.drop (k + 1) = M at *
  refine fn_e tok (n := 22) (rs := [.tmp 4, .tmp 5]) Tryz.func166 (by decide) rfl rfl rfl rfl (low_of rfl) ?_
  refine Wr.go ?_
  repeat' ((first | (have ee := True.intro; refine Wr.mk ?_) | ((first | refine br_go ?_ ?_ | refine pick_go ?_ ?_) <;> intro ee f <;> (try simp only [BB] at f) <;> (try simp only [numOk, verOk] at f)) | (have ee := True.intro; first | (refine call_hx [] [0] (hp) (by decide) ?_ rfl ?_; (focus (first | rfl | (simp (maxSteps := 1000000) (disch := first | omega | (simp only [LN, numOk, verOk, rfP, rvP, rhP, frP, elOk_en, elOk_nd, nfx_en, nfx_nd] <;> omega) | exact Ck.mk rfl) only [VC, T, Nat.reduceMul, Nat.reduceAdd, Nat.reduceSub, Nat.reduceLT, Nat.reduceEqDiff, Nat.reduceLeDiff, Nat.reduceBEq, reduceCtorEq, Int.reduceToNat, ↓reduceIte, rfP, rvP, rhP, frP, elOk_en, elOk_nd, nfx_en, nfx_nd]; done)))) | refine call_x (hK) rfl ⟨rfl⟩ ?_ | (refine call_h [0] [] (hD) (by decide) rfl rfl ?_; rintro _ _ ⟨rfl, rfl⟩))) <;> (try simp (maxSteps := 1000000) (disch := first | omega | (simp only [LN, numOk, verOk, rfP, rvP, rhP, frP, elOk_en, elOk_nd, nfx_en, nfx_nd] <;> omega) | exact Ck.mk rfl) only [ee, VC, T, Nat.reduceMul, Nat.reduceAdd, Nat.reduceSub, Nat.reduceLT, Nat.reduceEqDiff, Nat.reduceLeDiff, Nat.reduceBEq, reduceCtorEq, Int.reduceToNat, ↓reduceIte, rfP, rvP, rhP, frP, elOk_en, elOk_nd, nfx_en, nfx_nd]) <;> (try clear ee))
  exact fin_t [some 1408] (⟨rfl, rfl⟩) rfl (by simp [RV, RV2, RVl, RV1, tau, tget, hget, data1, oneOf, hN]) (by simp [RH, RVl, RV1, tau, hget, data1, hN]) (by simp [Taus, hget, hN])
theorem impl_drop_n (L : List Et) (n : ByteArray) (hl : L.length ≤ 1000000) (hn : n.size ≤ 1048576) (h : ¬ (hasT L n ∧ nmOk n)) : FnE Tryz.prog 166 [.row 0 L.length, .str n] [(0, .row ⟨2, 0⟩ (L.map enP))] (fun r m => r = .tup [.nils, .bool false] ∧ m = []) := by
  have hp := impl_placeOf L n (by omega)
  have hr := placeI_r L n
  have hK := impl_NameOk n (by omega)
  unfold hasT at h
  generalize placeI L n = p at *
  refine fn_e tok (n := 22) (rs := [.tmp 4, .tmp 5]) Tryz.func166 (by decide) rfl rfl rfl rfl (low_of rfl) ?_
  refine Wr.go ?_
  repeat' ((first | (have ee := True.intro; refine Wr.mk ?_) | ((first | refine br_go ?_ ?_ | refine pick_go ?_ ?_) <;> intro ee f <;> (try simp only [BB] at f) <;> (try simp only [numOk, verOk] at f)) | (have ee := True.intro; first | (refine call_hx [] [0] (hp) (by decide) ?_ rfl ?_; (focus (first | rfl | (simp (maxSteps := 1000000) (disch := first | omega | (simp only [LN, numOk, verOk, rfP, rvP, rhP, frP, elOk_en, elOk_nd, nfx_en, nfx_nd] <;> omega) | exact Ck.mk rfl) only [VC, T, Nat.reduceMul, Nat.reduceAdd, Nat.reduceSub, Nat.reduceLT, Nat.reduceEqDiff, Nat.reduceLeDiff, Nat.reduceBEq, reduceCtorEq, Int.reduceToNat, ↓reduceIte, rfP, rvP, rhP, frP, elOk_en, elOk_nd, nfx_en, nfx_nd]; done)))) | refine call_x (hK) rfl ⟨rfl⟩ ?_)) <;> (try simp (maxSteps := 1000000) (disch := first | omega | (simp only [LN, numOk, verOk, rfP, rvP, rhP, frP, elOk_en, elOk_nd, nfx_en, nfx_nd] <;> omega) | exact Ck.mk rfl) only [ee, VC, T, Nat.reduceMul, Nat.reduceAdd, Nat.reduceSub, Nat.reduceLT, Nat.reduceEqDiff, Nat.reduceLeDiff, Nat.reduceBEq, reduceCtorEq, Int.reduceToNat, ↓reduceIte, rfP, rvP, rhP, frP, elOk_en, elOk_nd, nfx_en, nfx_nd]) <;> (try clear ee))
  all_goals first
    | (exact fin_t [none] (⟨rfl, rfl⟩) rfl (by simp [RV, RV2, RVl, RV1, tau, tget, hget, data1, oneOf]) (by simp [RH, RVl, RV1, tau, hget, data1]) (by simp [Taus, hget])
       done)
    | exact absurd ⟨by omega, by assumption⟩ h
def stQ (o : Option (List Et)) (r : PV) (m : Hp) : Prop := match o with
  | some M => r = .tup [.row 64 M.length, .bool true] ∧ m = [(64, .row ⟨2, 0⟩ (M.map enP))]
  | none => r = .tup [.nils, .bool false] ∧ m = []
end Go.Pv

/- What functions of the program and of the reference do, in plain values. -/
namespace Go.Pv
open Go.Proofs Go.Mth
set_option linter.unusedSimpArgs false
set_option linter.unusedVariables false
set_option maxHeartbeats 4000000
set_option maxRecDepth 4000

/-! ### a step of the program -/
theorem dropI_asc (n : ByteArray) {L : List Et} (h : Asc L) : Asc (dropI L n) := by rw [dropI_eq n L h]; exact dropT_asc n h
theorem dropI_len (n : ByteArray) (L : List Et) : (dropI L n).length ≤ L.length := by
  induction L with
  | nil => exact Nat.le_refl _
  | cons x r ih =>
    unfold dropI
    split
    · simp
    · simp only [List.length_cons]; omega
theorem stepDone_plus (L : List Et) (s : ByteArray) (hA : Asc L) (hl : L.length ≤ 100000) (hs : s.size ≤ 1048576) (h0 : s.size ≠ 0) (hc : bt s 0 = 43) : FnE Tryz.prog 127 [.far (L.map enP), .str s] [] (stQ (stI L s)) := by
  have hC := cutS (s.extract 1 s.size) (by have := ex_le s 1 s.size; omega)
  rw [cutI_eq] at hC
  have hcl := cloneE L (by omega)
  have e : stI L s = if (cutI s).2.2 = true ∧ (rdec (cutI s).2.1).2 = true ∧ nmOk (cutI s).1 then some (putI L (cutI s).1 (rdec (cutI s).2.1).1) else none := by
    unfold stI; rw [if_neg h0, if_pos hc]
  rw [e]
  have z1 : (cutI s).1.size ≤ 1048576 := by unfold cutI; split <;> exact Nat.le_trans (ex_le _ _ _) hs
  have z2 : (cutI s).2.1.size ≤ 1048576 := by
    unfold cutI
    split
    · exact Nat.le_trans (ex_le _ _ _) hs
    · exact Nat.zero_le _
  generalize cutI s = q at *
  obtain ⟨nm, rs, has⟩ := q
  simp only at *
  have hR := impl_ReadDecimal rs (by omega)
  have hK := impl_NameOk nm (by omega)
  have hP := fun i => impl_put L nm i hA (by omega)
  generalize rdec rs = v at *
  obtain ⟨v, ok⟩ := v
  simp only at *
  have hP := hP v
  generalize putI L nm v = M at *
  have hs0 : strOf [58] = ⟨#[58]⟩ := rfl
  rw [hs0] at hC
  by_cases h : has = true ∧ ok = true ∧ nmOk nm
  · rw [if_pos h]
    obtain ⟨rfl, rfl, h3⟩ := h
    rw [decide_eq_true h3] at hK
    unfold stQ
    refine fn_e tok (n := 89) (rs := [.tmp 4, .tmp 5]) Tryz.func127 (by decide) rfl rfl rfl rfl (low_of rfl) ?_
    refine Wr.go ?_
    repeat' ((first | (have ee := True.intro; refine Wr.mk ?_) | ((first | refine br_go ?_ ?_ | refine pick_go ?_ ?_) <;> intro ee f <;> (try simp only [BB] at f) <;> (try simp only [numOk, verOk] at f)) | (have ee := True.intro; first | refine call_x (hC) rfl ⟨rfl⟩ ?_ | (refine call_h [] [] (hcl) (by decide) rfl rfl ?_; rintro _ _ ⟨rfl, rfl⟩) | refine call_x (hR) rfl ⟨rfl⟩ ?_ | refine call_x (hK) rfl ⟨rfl⟩ ?_ | (refine call_h [1664] [] (hP) (by decide) rfl rfl ?_; rintro _ _ ⟨rfl, rfl⟩))) <;> (try simp (maxSteps := 1000000) (disch := first | omega | (simp only [LN, numOk, verOk, rfP, rvP, rhP, frP, elOk_en, elOk_nd, nfx_en, nfx_nd] <;> omega) | exact Ck.mk rfl) only [ee, VC, T, Nat.reduceMul, Nat.reduceAdd, Nat.reduceSub, Nat.reduceLT, Nat.reduceEqDiff, Nat.reduceLeDiff, Nat.reduceBEq, reduceCtorEq, Int.reduceToNat, ↓reduceIte, rfP, rvP, rhP, frP, elOk_en, elOk_nd, nfx_en, nfx_nd]) <;> (try clear ee))
    all_goals try exact absurd f h0
    exact fin_t [some 3200] (⟨rfl, rfl⟩) rfl (by simp [RV, RV2, RVl, RV1, tau, tget, hget, data1, oneOf]) (by simp [RH, RVl, RV1, tau, hget, data1]) (by simp [Taus, hget])
  · rw [if_neg h]
    unfold stQ
    refine fn_e tok (n := 89) (rs := [.tmp 4, .tmp 5]) Tryz.func127 (by decide) rfl rfl rfl rfl (low_of rfl) ?_
    refine Wr.go ?_
    repeat' ((first | (have ee := True.intro; refine Wr.mk ?_) | ((first | refine br_go ?_ ?_ | refine pick_go ?_ ?_) <;> intro ee f <;> (try simp only [BB] at f) <;> (try simp only [numOk, verOk] at f)) | (have ee := True.intro; first | refine call_x (hC) rfl ⟨rfl⟩ ?_ | (refine call_h [] [] (hcl) (by decide) rfl rfl ?_; rintro _ _ ⟨rfl, rfl⟩) | refine call_x (hR) rfl ⟨rfl⟩ ?_ | refine call_x (hK) rfl ⟨rfl⟩ ?_)) <;> (try simp (maxSteps := 1000000) (disch := first | omega | (simp only [LN, numOk, verOk, rfP, rvP, rhP, frP, elOk_en, elOk_nd, nfx_en, nfx_nd] <;> omega) | exact Ck.mk rfl) only [ee, VC, T, Nat.reduceMul, Nat.reduceAdd, Nat.reduceSub, Nat.reduceLT, Nat.reduceEqDiff, Nat.reduceLeDiff, Nat.reduceBEq, reduceCtorEq, Int.reduceToNat, ↓reduceIte, rfP, rvP, rhP, frP, elOk_en, elOk_nd, nfx_en, nfx_nd]) <;> (try clear ee))
    all_goals try exact absurd f h0
    all_goals first
      | (exact fin_t [none] (⟨rfl, rfl⟩) rfl (by simp [RV, RV2, RVl, RV1, tau, tget, hget, data1, oneOf]) (by simp [RH, RVl, RV1, tau, hget, data1]) (by simp [Taus, hget])
         done)
      | exact absurd ⟨by assumption, by assumption, by assumption⟩ h
theorem stepDone_minus (L : List Et) (s : ByteArray) (hA : Asc L) (hl : L.length ≤ 100000) (hs : s.size ≤ 1048576) (h0 : s.size ≠ 0) (hc : bt s 0 = 45) : FnE Tryz.prog 127 [.far (L.map enP), .str s] [] (stQ (stI L s)) := by
  have hC := cutS (s.extract 1 s.size) (by have := ex_le s 1 s.size; omega)
  have hcl := cloneE L (by omega)
  have e : stI L s = if hasT L (s.extract 1 s.size) ∧ nmOk (s.extract 1 s.size) then some (dropI L (s.extract 1 s.size)) else none := by
    unfold stI; rw [if_neg h0, if_neg (by omega), if_pos hc]
  rw [e]
  have hx : (s.extract 1 s.size).size ≤ 1048576 := Nat.le_trans (ex_le _ _ _) hs
  have hY := impl_drop_y L (s.extract 1 s.size) (by omega) hx
  have hN := impl_drop_n L (s.extract 1 s.size) (by omega) hx
  generalize cutT (s.extract 1 s.size) = q at *
  generalize dropI L (s.extract 1 s.size) = M at *
  have hs0 : strOf [58] = ⟨#[58]⟩ := rfl
  rw [hs0] at hC
  by_cases h : hasT L (s.extract 1 s.size) ∧ nmOk (s.extract 1 s.size)
  · rw [if_pos h]
    have hY := hY h.1 h.2
    unfold stQ
    refine fn_e tok (n := 89) (rs := [.tmp 4, .tmp 5]) Tryz.func127 (by decide) rfl rfl rfl rfl (low_of rfl) ?_
    refine Wr.go ?_
    repeat' ((first | (have ee := True.intro; refine Wr.mk ?_) | ((first | refine br_go ?_ ?_ | refine pick_go ?_ ?_) <;> intro ee f <;> (try simp only [BB] at f) <;> (try simp only [numOk, verOk] at f)) | (have ee := True.intro; first | refine call_x (hC) rfl ⟨rfl⟩ ?_ | (refine call_h [] [] (hcl) (by decide) rfl rfl ?_; rintro _ _ ⟨rfl, rfl⟩) | (refine call_h [1664] [] (hY) (by decide) rfl rfl ?_; rintro _ _ ⟨rfl, rfl⟩))) <;> (try simp (maxSteps := 1000000) (disch := first | omega | (simp only [LN, numOk, verOk, rfP, rvP, rhP, frP, elOk_en, elOk_nd, nfx_en, nfx_nd] <;> omega) | exact Ck.mk rfl) only [ee, VC, T, Nat.reduceMul, Nat.reduceAdd, Nat.reduceSub, Nat.reduceLT, Nat.reduceEqDiff, Nat.reduceLeDiff, Nat.reduceBEq, reduceCtorEq, Int.reduceToNat, ↓reduceIte, rfP, rvP, rhP, frP, elOk_en, elOk_nd, nfx_en, nfx_nd]) <;> (try clear ee))
    all_goals try exact absurd f h0
    exact fin_t [some 3584] (⟨rfl, rfl⟩) rfl (by simp [RV, RV2, RVl, RV1, tau, tget, hget, data1, oneOf]) (by simp [RH, RVl, RV1, tau, hget, data1]) (by simp [Taus, hget])
  · rw [if_neg h]
    have hN := hN h
    unfold stQ
    refine fn_e tok (n := 89) (rs := [.tmp 4, .tmp 5]) Tryz.func127 (by decide) rfl rfl rfl rfl (low_of rfl) ?_
    refine Wr.go ?_
    repeat' ((first | (have ee := True.intro; refine Wr.mk ?_) | ((first | refine br_go ?_ ?_ | refine pick_go ?_ ?_) <;> intro ee f <;> (try simp only [BB] at f) <;> (try simp only [numOk, verOk] at f)) | (have ee := True.intro; first | refine call_x (hC) rfl ⟨rfl⟩ ?_ | (refine call_h [] [] (hcl) (by decide) rfl rfl ?_; rintro _ _ ⟨rfl, rfl⟩) | (refine call_h [1664] [] (hN) (by decide) rfl rfl ?_; rintro _ _ ⟨rfl, rfl⟩))) <;> (try simp (maxSteps := 1000000) (disch := first | omega | (simp only [LN, numOk, verOk, rfP, rvP, rhP, frP, elOk_en, elOk_nd, nfx_en, nfx_nd] <;> omega) | exact Ck.mk rfl) only [ee, VC, T, Nat.reduceMul, Nat.reduceAdd, Nat.reduceSub, Nat.reduceLT, Nat.reduceEqDiff, Nat.reduceLeDiff, Nat.reduceBEq, reduceCtorEq, Int.reduceToNat, ↓reduceIte, rfP, rvP, rhP, frP, elOk_en, elOk_nd, nfx_en, nfx_nd]) <;> (try clear ee))
    all_goals try exact absurd f h0
    exact fin_t [none] (⟨rfl, rfl⟩) rfl (by simp [RV, RV2, RVl, RV1, tau, tget, hget, data1, oneOf]) (by simp [RH, RVl, RV1, tau, hget, data1]) (by simp [Taus, hget])
theorem stepDone_gt (L : List Et) (s : ByteArray) (hA : Asc L) (hl : L.length ≤ 100000) (hs : s.size ≤ 1048576) (h0 : s.size ≠ 0) (hc : bt s 0 = 62) : FnE Tryz.prog 127 [.far (L.map enP), .str s] [] (stQ (stI L s)) := by
  have hC := cutS (s.extract 1 s.size) (by have := ex_le s 1 s.size; omega)
  rw [cutI_eq] at hC
  have hcl := cloneE L (by omega)
  have e : stI L s = if (cutI s).2.2 = true ∧ (hasT L (cutI s).1 ∧ nmOk (cutI s).1) ∧ nmOk (cutI s).2.1 ∧ (cutI s).1 ≠ (cutI s).2.1 then some (putI (dropI L (cutI s).1) (cutI s).2.1 (entT L (cutI s).1)) else none := by
    unfold stI; rw [if_neg h0, if_neg (by omega), if_neg (by omega), if_pos hc]
  rw [e]
  have z1 : (cutI s).1.size ≤ 1048576 := by unfold cutI; split <;> exact Nat.le_trans (ex_le _ _ _) hs
  have z2 : (cutI s).2.1.size ≤ 1048576 := by
    unfold cutI
    split
    · exact Nat.le_trans (ex_le _ _ _) hs
    · exact Nat.zero_le _
  generalize cutI s = q at *
  obtain ⟨nm, rs, has⟩ := q
  simp only at *
  have hE := impl_EntryAt L nm (by omega)
  have hK := impl_NameOk rs (by omega)
  have hP := fun i => impl_put (dropI L nm) rs i (dropI_asc nm hA) (by have := dropI_len nm L; omega)
  generalize entT L nm = v at *
  have hP := hP v
  have hY := impl_drop_y L nm (by omega) z1
  have hN := impl_drop_n L nm (by omega) z1
  generalize putI (dropI L nm) rs v = M at *
  generalize dropI L nm = D at *
  have hs0 : strOf [58] = ⟨#[58]⟩ := rfl
  rw [hs0] at hC
  by_cases hd : hasT L nm ∧ nmOk nm
  · have hY := hY hd.1 hd.2
    by_cases h : has = true ∧ nmOk rs ∧ nm ≠ rs
    · rw [if_pos ⟨h.1, hd, h.2⟩]
      obtain ⟨rfl, h3, h4⟩ := h
      rw [decide_eq_true h3] at hK
      unfold stQ
      refine fn_e tok (n := 89) (rs := [.tmp 4, .tmp 5]) Tryz.func127 (by decide) rfl rfl rfl rfl (low_of rfl) ?_
      refine Wr.go ?_
      repeat' ((first | (have ee := True.intro; refine Wr.mk ?_) | ((first | refine br_go ?_ ?_ | refine pick_go ?_ ?_) <;> intro ee f <;> (try simp only [BB] at f) <;> (try simp only [numOk, verOk] at f)) | (have ee := True.intro; first | refine call_x (hC) rfl ⟨rfl⟩ ?_ | (refine call_h [] [] (hcl) (by decide) rfl rfl ?_; rintro _ _ ⟨rfl, rfl⟩) | refine call_x (hE) rfl ⟨rfl⟩ ?_ | (refine call_h [1664] [] (hY) (by decide) rfl rfl ?_; rintro _ _ ⟨rfl, rfl⟩) | refine call_x (hK) rfl ⟨rfl⟩ ?_ | (refine call_h [4288] [] (hP) (by decide) rfl rfl ?_; rintro _ _ ⟨rfl, rfl⟩))) <;> (try simp (maxSteps := 1000000) (disch := first | omega | (simp only [LN, numOk, verOk, rfP, rvP, rhP, frP, elOk_en, elOk_nd, nfx_en, nfx_nd] <;> omega) | exact Ck.mk rfl) only [ee, VC, T, Nat.reduceMul, Nat.reduceAdd, Nat.reduceSub, Nat.reduceLT, Nat.reduceEqDiff, Nat.reduceLeDiff, Nat.reduceBEq, reduceCtorEq, Int.reduceToNat, ↓reduceIte, rfP, rvP, rhP, frP, elOk_en, elOk_nd, nfx_en, nfx_nd]) <;> (try clear ee))
      all_goals try exact absurd f h0
      exact fin_t [some 5696] (⟨rfl, rfl⟩) rfl (by simp [RV, RV2, RVl, RV1, tau, tget, hget, data1, oneOf]) (by simp [RH, RVl, RV1, tau, hget, data1]) (by simp [Taus, hget])
    · rw [if_neg fun k => h ⟨k.1, k.2.2⟩]
      unfold stQ
      refine fn_e tok (n := 89) (rs := [.tmp 4, .tmp 5]) Tryz.func127 (by decide) rfl rfl rfl rfl (low_of rfl) ?_
      refine Wr.go ?_
      repeat' ((first | (have ee := True.intro; refine Wr.mk ?_) | ((first | refine br_go ?_ ?_ | refine pick_go ?_ ?_) <;> intro ee f <;> (try simp only [BB] at f) <;> (try simp only [numOk, verOk] at f)) | (have ee := True.intro; first | refine call_x (hC) rfl ⟨rfl⟩ ?_ | (refine call_h [] [] (hcl) (by decide) rfl rfl ?_; rintro _ _ ⟨rfl, rfl⟩) | refine call_x (hE) rfl ⟨rfl⟩ ?_ | (refine call_h [1664] [] (hY) (by decide) rfl rfl ?_; rintro _ _ ⟨rfl, rfl⟩) | refine call_x (hK) rfl ⟨rfl⟩ ?_)) <;> (try simp (maxSteps := 1000000) (disch := first | omega | (simp only [LN, numOk, verOk, rfP, rvP, rhP, frP, elOk_en, elOk_nd, nfx_en, nfx_nd] <;> omega) | exact Ck.mk rfl) only [ee, VC, T, Nat.reduceMul, Nat.reduceAdd, Nat.reduceSub, Nat.reduceLT, Nat.reduceEqDiff, Nat.reduceLeDiff, Nat.reduceBEq, reduceCtorEq, Int.reduceToNat, ↓reduceIte, rfP, rvP, rhP, frP, elOk_en, elOk_nd, nfx_en, nfx_nd]) <;> (try clear ee))
      all_goals try exact absurd f h0
      all_goals first
        | (exact fin_t [none] (⟨rfl, rfl⟩) rfl (by simp [RV, RV2, RVl, RV1, tau, tget, hget, data1, oneOf]) (by simp [RH, RVl, RV1, tau, hget, data1]) (by simp [Taus, hget])
           done)
        | exact absurd ⟨by assumption, by assumption, by assumption⟩ h
  · rw [if_neg fun k => hd k.2.1]
    have hN := hN hd
    unfold stQ
    refine fn_e tok (n := 89) (rs := [.tmp 4, .tmp 5]) Tryz.func127 (by decide) rfl rfl rfl rfl (low_of rfl) ?_
    refine Wr.go ?_
    repeat' ((first | (have ee := True.intro; refine Wr.mk ?_) | ((first | refine br_go ?_ ?_ | refine pick_go ?_ ?_) <;> intro ee f <;> (try simp only [BB] at f) <;> (try simp only [numOk, verOk] at f)) | (have ee := True.intro; first | refine call_x (hC) rfl ⟨rfl⟩ ?_ | (refine call_h [] [] (hcl) (by decide) rfl rfl ?_; rintro _ _ ⟨rfl, rfl⟩) | refine call_x (hE) rfl ⟨rfl⟩ ?_ | (refine call_h [1664] [] (hN) (by decide) rfl rfl ?_; rintro _ _ ⟨rfl, rfl⟩))) <;> (try simp (maxSteps := 1000000) (disch := first | omega | (simp only [LN, numOk, verOk, rfP, rvP, rhP, frP, elOk_en, elOk_nd, nfx_en, nfx_nd] <;> omega) | exact Ck.mk rfl) only [ee, VC, T, Nat.reduceMul, Nat.reduceAdd, Nat.reduceSub, Nat.reduceLT, Nat.reduceEqDiff, Nat.reduceLeDiff, Nat.reduceBEq, reduceCtorEq, Int.reduceToNat, ↓reduceIte, rfP, rvP, rhP, frP, elOk_en, elOk_nd, nfx_en, nfx_nd]) <;> (try clear ee))
    all_goals try exact absurd f h0
    all_goals exact fin_t [none] (⟨rfl, rfl⟩) rfl (by simp [RV, RV2, RVl, RV1, tau, tget, hget, data1, oneOf]) (by simp [RH, RVl, RV1, tau, hget, data1]) (by simp [Taus, hget])
theorem impl_stepDone (L : List Et) (s : ByteArray) (hA : Asc L) (hl : L.length ≤ 100000) (hs : s.size ≤ 1048576) : FnE Tryz.prog 127 [.far (L.map enP), .str s] [] (stQ (stI L s)) := by
  by_cases h0 : s.size = 0
  · have e : stI L s = none := if_pos h0
    rw [e]
    unfold stQ
    refine fn_e tok (n := 89) (rs := [.tmp 4, .tmp 5]) Tryz.func127 (by decide) rfl rfl rfl rfl (low_of rfl) ?_
    refine Wr.go ?_
    repeat' ((first | (have ee := True.intro; refine Wr.mk ?_) | ((first | refine br_go ?_ ?_ | refine pick_go ?_ ?_) <;> intro ee f <;> (try simp only [BB] at f) <;> (try simp only [numOk, verOk] at f))) <;> (try simp (maxSteps := 1000000) (disch := first | omega | (simp only [LN, numOk, verOk, rfP, rvP, rhP, frP, elOk_en, elOk_nd, nfx_en, nfx_nd] <;> omega) | exact Ck.mk rfl) only [ee, VC, T, Nat.reduceMul, Nat.reduceAdd, Nat.reduceSub, Nat.reduceLT, Nat.reduceEqDiff, Nat.reduceLeDiff, Nat.reduceBEq, reduceCtorEq, Int.reduceToNat, ↓reduceIte, rfP, rvP, rhP, frP, elOk_en, elOk_nd, nfx_en, nfx_nd]) <;> (try clear ee))
    all_goals try exact absurd h0 f
    exact fin_t [none] (⟨rfl, rfl⟩) rfl (by simp [RV, RV2, RVl, RV1, tau, tget, hget, data1, oneOf]) (by simp [RH, RVl, RV1, tau, hget, data1]) (by simp [Taus, hget])
  by_cases h1 : bt s 0 = 43
  · exact stepDone_plus L s hA hl hs h0 h1
  by_cases h2 : bt s 0 = 45
  · exact stepDone_minus L s hA hl hs h0 h2
  by_cases h3 : bt s 0 = 62
  · exact stepDone_gt L s hA hl hs h0 h3
  have e : stI L s = none := by unfold stI; rw [if_neg h0, if_neg h1, if_neg h2, if_neg h3]
  rw [e]
  have hC := cutS (s.extract 1 s.size) (by have := ex_le s 1 s.size; omega)
  have hcl := cloneE L (by omega)
  generalize cutT (s.extract 1 s.size) = q at *
  have hs0 : strOf [58] = ⟨#[58]⟩ := rfl
  rw [hs0] at hC
  unfold stQ
  refine fn_e tok (n := 89) (rs := [.tmp 4, .tmp 5]) Tryz.func127 (by decide) rfl rfl rfl rfl (low_of rfl) ?_
  refine Wr.go ?_
  repeat' ((first | (have ee := True.intro; refine Wr.mk ?_) | ((first | refine br_go ?_ ?_ | refine pick_go ?_ ?_) <;> intro ee f <;> (try simp only [BB] at f) <;> (try simp only [numOk, verOk] at f)) | (have ee := True.intro; first | refine call_x (hC) rfl ⟨rfl⟩ ?_ | (refine call_h [] [] (hcl) (by decide) rfl rfl ?_; rintro _ _ ⟨rfl, rfl⟩))) <;> (try simp (maxSteps := 1000000) (disch := first | omega | (simp only [LN, numOk, verOk, rfP, rvP, rhP, frP, elOk_en, elOk_nd, nfx_en, nfx_nd] <;> omega) | exact Ck.mk rfl) only [ee, VC, T, Nat.reduceMul, Nat.reduceAdd, Nat.reduceSub, Nat.reduceLT, Nat.reduceEqDiff, Nat.reduceLeDiff, Nat.reduceBEq, reduceCtorEq, Int.reduceToNat, ↓reduceIte, rfP, rvP, rhP, frP, elOk_en, elOk_nd, nfx_en, nfx_nd]) <;> (try clear ee))
  all_goals try exact absurd f h0
  exact fin_t [none] (⟨rfl, rfl⟩) rfl (by simp [RV, RV2, RVl, RV1, tau, tget, hget, data1, oneOf]) (by simp [RH, RVl, RV1, tau, hget, data1]) (by simp [Taus, hget])
end Go.Pv

/- What functions of the program and of the reference do, in plain values. -/
namespace Go.Pv
open Go.Proofs Go.Mth
set_option linter.unusedSimpArgs false
set_option linter.unusedVariables false
set_option maxHeartbeats 4000000
set_option maxRecDepth 4000

/-! ### copies of disks; right disks, as the program looks -/
theorem impl_copyDisk_R (d : Dk) (h : DkW d) : FnE Tryz.prog 37 [dkP d] [] (fun r m => r = dkR 64 d ∧ m = dkH d) := by
  have h1 := h.ns
  have h2 := h.es
  have h3 := h.os
  have h4 := h.ss
  have c1 := cloneN d.1 h1
  have c2 := cloneE d.2.1 h2
  have c3 := cloneE d.2.2.1 h3
  have c4 := cloneS d.2.2.2.1 h4
  unfold dkP
  refine fn_e tok (n := 20) (rs := [.cell 2 35]) Tryz.func37 (by decide) rfl rfl rfl rfl (low_of rfl) ?_
  refine Wr.go ?_
  repeat' ((first | (have ee := True.intro; refine Wr.mk ?_) | ((first | refine br_go ?_ ?_ | refine pick_go ?_ ?_) <;> intro ee f <;> (try simp only [BB] at f) <;> (try simp only [numOk, verOk] at f)) | (have ee := True.intro; first | refine dr_go mixed (id := 1) [([], [1], []), ([0], [3], []), ([0, 1], [4], []), ([], [1], []), ([3], [6], []), ([0, 1, 2, 3, 4], [7], []), ([], [1], []), ([6], [9], []), ([0, 1, 2, 3, 4, 5, 6, 7], [10], []), ([], [1], []), ([9], [12], []), ([0, 1, 2, 3, 4, 5, 6, 7, 8, 9, 10], [13], []), ([0, 1, 2, 3, 4, 6, 7, 9, 10], [1], []), ([0, 1, 2, 3, 4, 5, 6, 7, 8, 9, 10, 11, 12], [5, 15], []), ([0, 1, 2, 3, 4, 5, 6, 7, 8, 9, 10, 11, 12, 13], [1], []), ([0, 1, 2, 3, 4, 5, 6, 7, 8, 9, 10, 11, 12, 13, 14], [8, 16], []), ([0, 1, 2, 3, 4, 5, 6, 7, 8, 9, 10, 11, 12, 13, 14, 15], [1], []), ([0, 1, 2, 3, 4, 5, 6, 7, 8, 9, 10, 11, 12, 13, 14, 15, 16], [11, 17], []), ([0, 1, 2, 3, 4, 5, 6, 7, 8, 9, 10, 11, 12, 13, 14, 15, 16, 17], [1], []), ([0, 1, 2, 3, 4, 5, 6, 7, 8, 9, 10, 11, 12, 13, 14, 15, 16, 17, 18], [14, 18], [])] rfl rfl rfl ?_ | (refine call_h [] [] (c1) (by decide) rfl rfl ?_; rintro _ _ ⟨rfl, rfl⟩) | (refine call_h [] [] (c2) (by decide) rfl rfl ?_; rintro _ _ ⟨rfl, rfl⟩) | (refine call_h [] [] (c3) (by decide) rfl rfl ?_; rintro _ _ ⟨rfl, rfl⟩) | (refine call_h [] [] (c4) (by decide) rfl rfl ?_; rintro _ _ ⟨rfl, rfl⟩))) <;> (try simp (maxSteps := 1000000) (disch := first | omega | (simp only [LN, numOk, verOk, rfP, rvP, rhP, frP, elOk_en, elOk_nd, nfx_en, nfx_nd] <;> omega) | exact Ck.mk rfl) only [ee, VC, T, Nat.reduceMul, Nat.reduceAdd, Nat.reduceSub, Nat.reduceLT, Nat.reduceEqDiff, Nat.reduceLeDiff, Nat.reduceBEq, reduceCtorEq, Int.reduceToNat, ↓reduceIte, rfP, rvP, rhP, frP, elOk_en, elOk_nd, nfx_en, nfx_nd]) <;> (try clear ee))
  exact fin_t [some 384, some 576, some 768, some 960] (⟨rfl, rfl⟩) rfl (by simp [RV, RV2, RVl, RV1, tau, tget, hget, data1, oneOf, dkR, dkH]) (by simp [RH, RVl, RV1, tau, hget, data1, dkR, dkH]) (by simp [Taus, hget, dkR, dkH])
theorem okGo_ents {d : Dk} {L : List Et} {S : List ByteArray} (h : okGo d L S) : entsOk d L := by
  cases S with
  | nil => exact h.1
  | cons s r => exact h.1
theorem okGo_nil (d : Dk) (L : List Et) : okGo d L [] = (entsOk d L ∧ L = d.2.1) := rfl
theorem okGo_some {d : Dk} {L M : List Et} {s : ByteArray} {r : List ByteArray} (h : stI L s = some M) (he : entsOk d L) : okGo d L (s :: r) = okGo d M r := by
  have e : okGo d L (s :: r) = (entsOk d L ∧ match stI L s with | some M => okGo d M r | none => False) := rfl
  rw [e, h]
  exact propext ⟨fun k => k.2, fun k => ⟨he, k⟩⟩
theorem okGo_none {d : Dk} {L : List Et} {s : ByteArray} {r : List ByteArray} (h : stI L s = none) : okGo d L (s :: r) = False := by
  have e : okGo d L (s :: r) = (entsOk d L ∧ match stI L s with | some M => okGo d M r | none => False) := rfl
  rw [e, h]
  exact propext ⟨fun k => k.2, False.elim⟩
theorem impl_DiskOk (d : Dk) (h : DkW d) : Fn Tryz.prog 87 [dkP d] [] (.bool (decide (diskOk d))) [] := by
  have hU := impl_UsedOn d h
  have hN := fun k => impl_areNodes d h k
  have hcl := cloneE d.2.2.1 h.os
  have hEn := fun L hl hz => impl_areEntries d L h hl hz
  have hot := h.ot
  have hst := h.st
  have hos := h.os
  have hss := h.ss
  have hes := h.es
  have n1 : ¬ (((0 ≤ d.2.2.2.2.1 ∧ d.2.2.2.2.1 ≤ 1000000000) ∧ (1 ≤ d.2.2.2.2.2 ∧ d.2.2.2.2.2 ≤ 1000000000)) ∧ (nodesOk d ∧ d.1.length ≤ 64) ∧ usedT d ≤ d.2.2.2.2.1) → diskOk d = False := fun q => propext ⟨fun k => q ⟨⟨k.1.2.1, k.1.2.2.1⟩, ⟨k.2.1, k.1.1⟩, k.1.2.2.2⟩, False.elim⟩
  have n2 : (((0 ≤ d.2.2.2.2.1 ∧ d.2.2.2.2.1 ≤ 1000000000) ∧ (1 ≤ d.2.2.2.2.2 ∧ d.2.2.2.2.2 ≤ 1000000000)) ∧ (nodesOk d ∧ d.1.length ≤ 64) ∧ usedT d ≤ d.2.2.2.2.1) → diskOk d = okGo d d.2.2.1 d.2.2.2.1 := fun q => propext ⟨fun k => (stepsOk_go d).1 k.2.2, fun k => ⟨⟨q.2.1.2, q.1.1, q.1.2, q.2.2⟩, q.2.1.1, (stepsOk_go d).2 k⟩⟩
  have hB : ∀ L : List Et, (L.map enP).length = L.length := fun L => List.length_map _
  have hEq := fun L hl => equalE L d.2.1 hl
  have hsd : ∀ (L : List Et) (s : ByteArray), entsOk d L → (∀ e ∈ L, e.1.size ≤ 1048576) → s.size ≤ 1048576 → ∀ M, stI L s = some M → M.length ≤ 17 ∧ ∀ e ∈ M, e.1.size ≤ 1048576 := fun L s he hz hs M hM => by
    rw [stI_eq L s (entsOk_pairs he)] at hM
    have k := sdT_le L s M 1048576 hM hz hs
    have := he.2
    exact ⟨by omega, k.2⟩
  by_cases hx : (0 ≤ d.2.2.2.2.1 ∧ d.2.2.2.2.1 ≤ 1000000000) ∧ (1 ≤ d.2.2.2.2.2 ∧ d.2.2.2.2.2 ≤ 1000000000)
  · have hN := hN ⟨hx.2.2, by omega⟩
    by_cases hq : (nodesOk d ∧ d.1.length ≤ 64) ∧ usedT d ≤ d.2.2.2.2.1
    · have m2 := n2 ⟨hx, hq⟩
      rw [decide_eq_true hq.1] at hN
      have hq2 := hq.2
      generalize hu : usedT d = u at *
      obtain ⟨⟨x1, x2⟩, x3, x4⟩ := hx
      clear n1 n2 hq
      unfold dkP at *
      refine fn_x tok (n := 60) (rs := [.tmp 2]) Tryz.func87 (by decide) rfl rfl rfl rfl ?_
      refine Wr.go ?_
      repeat' ((first | (have ee := True.intro; refine Wr.mk ?_) | ((first | refine br_go ?_ ?_ | refine pick_go ?_ ?_) <;> intro ee f <;> (try simp only [BB] at f) <;> (try simp only [numOk, verOk] at f)) | (have ee := True.intro; first | refine dr_go mixed (id := 1) [([], [1], []), ([0], [7], []), ([0, 1], [8], []), ([0, 1, 2], [9], []), ([0, 1, 2, 3], [10], []), ([0, 1, 2, 3, 4], [1, 11], []), ([0, 1, 2, 3, 4, 5], [11, 12], []), ([0, 1, 2, 3, 4, 5, 6], [11, 13], []), ([0, 1, 2, 3, 4, 5, 6, 7], [11, 14], []), ([0, 1, 2, 3, 4, 5, 6, 7, 8], [11, 15], []), ([0, 1, 2, 3, 4, 5, 6, 7, 8, 9], [16], []), ([0, 1, 2, 3, 4, 5, 6, 7, 8, 9, 10], [1, 17], []), ([0, 1, 2, 3, 4, 5, 6, 7, 8, 9, 10, 11], [17, 18], []), ([0, 1, 2, 3, 4, 5, 6, 7, 8, 9, 10, 11, 12], [17, 19], []), ([0, 1, 2, 3, 4, 5, 6, 7, 8, 9, 10, 11, 12, 13], [17, 20], []), ([0, 1, 2, 3, 4, 5, 6, 7, 8, 9, 10, 11, 12, 13, 14], [21], []), ([0, 1, 2, 3, 4, 5, 6, 7, 8, 9, 10, 11, 12, 13, 14, 15], [1, 22], []), ([0, 1, 2, 3, 4, 5, 6, 7, 8, 9, 10, 11, 12, 13, 14, 15, 16], [22, 23], []), ([0, 1, 2, 3, 4, 5, 6, 7, 8, 9, 10, 11, 12, 13, 14, 15], [1, 22], []), ([0, 1, 2, 3, 4, 5, 6, 7, 8, 9, 10, 11, 12, 13, 14, 15, 18], [22, 25], []), ([0, 1, 2, 3, 4, 5, 6, 7, 8, 9, 10, 11, 12, 13, 14, 15, 16, 17, 18, 19], [22, 24, 26], []), ([0, 1, 2, 3, 4, 5, 6, 7, 8, 9, 10, 11, 12, 13, 14, 15, 16, 17, 18, 19, 20], [22, 27], [])] rfl rfl rfl ?_ | refine call_x (impl_isNumber _) rfl ⟨rfl⟩ ?_ | refine call_x (impl_within _ _ _) rfl ⟨rfl⟩ ?_ | refine call_x (hN) rfl ⟨rfl⟩ ?_ | refine call_x (hU) rfl ⟨rfl⟩ ?_ | (refine call_h [] [] (hcl) (by decide) rfl rfl ?_; rintro _ _ ⟨rfl, rfl⟩))) <;> (try simp (maxSteps := 1000000) (disch := first | omega | (simp only [LN, numOk, verOk, rfP, rvP, rhP, frP, elOk_en, elOk_nd, nfx_en, nfx_nd] <;> omega) | exact Ck.mk rfl) only [ee, VC, T, Nat.reduceMul, Nat.reduceAdd, Nat.reduceSub, Nat.reduceLT, Nat.reduceEqDiff, Nat.reduceLeDiff, Nat.reduceBEq, reduceCtorEq, Int.reduceToNat, ↓reduceIte, rfP, rvP, rhP, frP, elOk_en, elOk_nd, nfx_en, nfx_nd]) <;> (try clear ee))
      refine lp_im (fun x : Nat × List Et => ⟨60, [(1, .ref 128 0), (3, .far (x.2.map enP)), (4, .int .i64 x.1)], [(128, .box 35 [.far (d.1.map ndP), .far (d.2.1.map enP), .far (d.2.2.1.map enP), .far (d.2.2.2.1.map .str), .int .i64 d.2.2.2.2.1, .int .i64 d.2.2.2.2.2])]⟩) (fun x => x.1 ≤ d.2.2.2.1.length ∧ (∀ e ∈ x.2, e.1.size ≤ 1048576) ∧ x.2.length ≤ 1048576 ∧ diskOk d = okGo d x.2 (d.2.2.2.1.drop x.1)) (fun x => d.2.2.2.1.length - x.1) (0, d.2.2.1) ?_ ⟨Nat.zero_le _, hot, hos, m2⟩ ?_
      · refine Im.go 3 2048 rfl rfl (List.length_map _).symm ?_
        (simp (disch := first | omega | (simp only [LN, numOk, verOk] <;> omega) | exact Ck.mk rfl) only [SB, EQ, Nat.reduceMul, Nat.reduceAdd, Nat.reduceSub, Nat.reduceLT, Nat.reduceEqDiff, Nat.reduceLeDiff, Nat.reduceBEq, reduceCtorEq, Int.reduceToNat, ↓reduceIte]; try omega)
        try rfl
      · rintro ⟨i, L⟩ ⟨hi, hz, hln, hgo⟩ N hL
        simp only at hi hz hln hgo hL ⊢
        have hEn := hEn L (by omega) hz
        have hEq := hEq L (by omega)
        by_cases he : entsOk d L
        · rw [decide_eq_true he] at hEn
          have hl16 := he.2
          by_cases hi2 : i < d.2.2.2.1.length
          · have hsz : (d.2.2.2.1.getD i default).size ≤ 1048576 := by
              rw [List.getD_eq_getElem?_getD, List.getElem?_eq_getElem hi2]; exact hst _ (List.getElem_mem hi2)
            have hdr : d.2.2.2.1.drop i = d.2.2.2.1.getD i default :: d.2.2.2.1.drop (i + 1) := by
              rw [List.drop_eq_getElem_cons hi2, List.getD_eq_getElem?_getD, List.getElem?_eq_getElem hi2]; rfl
            rw [hdr] at hgo
            have hS := impl_stepDone L (d.2.2.2.1.getD i default) (entsOk_pairs he) (by omega) hsz
            have hsd := hsd L (d.2.2.2.1.getD i default) he hz hsz
            cases hq : stI L (d.2.2.2.1.getD i default) with
            | none =>
              rw [okGo_none hq] at hgo
              have hS : FnE Tryz.prog 127 [.far (L.map enP), .str (d.2.2.2.1.getD i default)] [] (fun r m => r = .tup [.nils, .bool false] ∧ m = []) := by rw [hq] at hS; exact hS
              refine Wr.go ?_
              repeat' ((first | (have ee := True.intro; refine Wr.mk ?_) | ((first | refine br_go ?_ ?_ | refine pick_go ?_ ?_) <;> intro ee f <;> (try simp only [BB] at f) <;> (try simp only [numOk, verOk] at f)) | (have ee := True.intro; first | refine call_x (hEn) rfl ⟨rfl⟩ ?_ | (refine call_h [] [] (hS) (by decide) rfl rfl ?_; rintro _ _ ⟨rfl, rfl⟩))) <;> (try simp (maxSteps := 1000000) (disch := first | omega | (simp only [LN, numOk, verOk, rfP, rvP, rhP, frP, elOk_en, elOk_nd, nfx_en, nfx_nd] <;> omega) | exact Ck.mk rfl) only [ee, VC, T, Nat.reduceMul, Nat.reduceAdd, Nat.reduceSub, Nat.reduceLT, Nat.reduceEqDiff, Nat.reduceLeDiff, Nat.reduceBEq, reduceCtorEq, Int.reduceToNat, ↓reduceIte, rfP, rvP, rhP, frP, elOk_en, elOk_nd, nfx_en, nfx_nd]) <;> (try clear ee))
              all_goals simp only [hgo, decide_false]
            | some M =>
              rw [okGo_some hq he] at hgo
              have hsd := hsd M hq
              have hS : FnE Tryz.prog 127 [.far (L.map enP), .str (d.2.2.2.1.getD i default)] [] (fun r m => r = .tup [.row 64 M.length, .bool true] ∧ m = [(64, .row ⟨2, 0⟩ (M.map enP))]) := by rw [hq] at hS; exact hS
              refine Wr.go ?_
              repeat' ((first | (have ee := True.intro; refine Wr.mk ?_) | ((first | refine br_go ?_ ?_ | refine pick_go ?_ ?_) <;> intro ee f <;> (try simp only [BB] at f) <;> (try simp only [numOk, verOk] at f)) | (have ee := True.intro; first | refine call_x (hEn) rfl ⟨rfl⟩ ?_ | (refine call_h [] [] (hS) (by decide) rfl rfl ?_; rintro _ _ ⟨rfl, rfl⟩))) <;> (try simp (maxSteps := 1000000) (disch := first | omega | (simp only [LN, numOk, verOk, rfP, rvP, rhP, frP, elOk_en, elOk_nd, nfx_en, nfx_nd] <;> omega) | exact Ck.mk rfl) only [ee, VC, T, Nat.reduceMul, Nat.reduceAdd, Nat.reduceSub, Nat.reduceLT, Nat.reduceEqDiff, Nat.reduceLeDiff, Nat.reduceBEq, reduceCtorEq, Int.reduceToNat, ↓reduceIte, rfP, rvP, rhP, frP, elOk_en, elOk_nd, nfx_en, nfx_nd]) <;> (try clear ee))
              refine hL (i + 1, M) _ ⟨by simp only; omega, hsd.2, by simp only; omega, hgo⟩ (by simp only; omega) ?_
              refine Im.go 3 3520 rfl rfl (List.length_map _).symm ?_
              (simp (disch := first | omega | (simp only [LN, numOk, verOk] <;> omega) | exact Ck.mk rfl) only [SB, EQ, Nat.reduceMul, Nat.reduceAdd, Nat.reduceSub, Nat.reduceLT, Nat.reduceEqDiff, Nat.reduceLeDiff, Nat.reduceBEq, reduceCtorEq, Int.reduceToNat, ↓reduceIte]; try omega)
              try rfl
          · obtain rfl : i = d.2.2.2.1.length := by omega
            have hgo : diskOk d = (L = d.2.1) := by
              rw [hgo, List.drop_length, okGo_nil]
              exact propext ⟨fun k => k.2, fun k => ⟨he, k⟩⟩
            refine Wr.go ?_
            repeat' ((first | (have ee := True.intro; refine Wr.mk ?_) | ((first | refine br_go ?_ ?_ | refine pick_go ?_ ?_) <;> intro ee f <;> (try simp only [BB] at f) <;> (try simp only [numOk, verOk] at f)) | (have ee := True.intro; first | refine call_x (hEn) rfl ⟨rfl⟩ ?_ | refine call_x (hEq) rfl ⟨rfl⟩ ?_)) <;> (try simp (maxSteps := 1000000) (disch := first | omega | (simp only [LN, numOk, verOk, rfP, rvP, rhP, frP, elOk_en, elOk_nd, nfx_en, nfx_nd] <;> omega) | exact Ck.mk rfl) only [ee, VC, T, Nat.reduceMul, Nat.reduceAdd, Nat.reduceSub, Nat.reduceLT, Nat.reduceEqDiff, Nat.reduceLeDiff, Nat.reduceBEq, reduceCtorEq, Int.reduceToNat, ↓reduceIte, rfP, rvP, rhP, frP, elOk_en, elOk_nd, nfx_en, nfx_nd]) <;> (try clear ee))
            all_goals simp only [hgo]
        · rw [decide_eq_false he] at hEn
          have hgo : diskOk d = False := propext ⟨fun k => he (okGo_ents (hgo ▸ k)), False.elim⟩
          refine Wr.go ?_
          repeat' ((first | (have ee := True.intro; refine Wr.mk ?_) | ((first | refine br_go ?_ ?_ | refine pick_go ?_ ?_) <;> intro ee f <;> (try simp only [BB] at f) <;> (try simp only [numOk, verOk] at f)) | (have ee := True.intro; first | refine call_x (hEn) rfl ⟨rfl⟩ ?_)) <;> (try simp (maxSteps := 1000000) (disch := first | omega | (simp only [LN, numOk, verOk, rfP, rvP, rhP, frP, elOk_en, elOk_nd, nfx_en, nfx_nd] <;> omega) | exact Ck.mk rfl) only [ee, VC, T, Nat.reduceMul, Nat.reduceAdd, Nat.reduceSub, Nat.reduceLT, Nat.reduceEqDiff, Nat.reduceLeDiff, Nat.reduceBEq, reduceCtorEq, Int.reduceToNat, ↓reduceIte, rfP, rvP, rhP, frP, elOk_en, elOk_nd, nfx_en, nfx_nd]) <;> (try clear ee))
          all_goals simp only [hgo, decide_false]
    · have n1 := n1 fun k => hq k.2
      simp only [n1, decide_false]
      generalize hu : usedT d = u at *
      obtain ⟨⟨x1, x2⟩, x3, x4⟩ := hx
      clear n1 n2
      by_cases hp : nodesOk d ∧ d.1.length ≤ 64
      · have hq2 : ¬ u ≤ d.2.2.2.2.1 := fun k => hq ⟨hp, k⟩
        rw [decide_eq_true hp] at hN
        clear hq hp
        unfold dkP at *
        refine fn_x tok (n := 60) (rs := [.tmp 2]) Tryz.func87 (by decide) rfl rfl rfl rfl ?_
        refine Wr.go ?_
        repeat' ((first | (have ee := True.intro; refine Wr.mk ?_) | ((first | refine br_go ?_ ?_ | refine pick_go ?_ ?_) <;> intro ee f <;> (try simp only [BB] at f) <;> (try simp only [numOk, verOk] at f)) | (have ee := True.intro; first | refine dr_go mixed (id := 1) [([], [1], []), ([0], [7], []), ([0, 1], [8], []), ([0, 1, 2], [9], []), ([0, 1, 2, 3], [10], []), ([0, 1, 2, 3, 4], [1, 11], []), ([0, 1, 2, 3, 4, 5], [11, 12], []), ([0, 1, 2, 3, 4, 5, 6], [11, 13], []), ([0, 1, 2, 3, 4, 5, 6, 7], [11, 14], []), ([0, 1, 2, 3, 4, 5, 6, 7, 8], [11, 15], []), ([0, 1, 2, 3, 4, 5, 6, 7, 8, 9], [16], []), ([0, 1, 2, 3, 4, 5, 6, 7, 8, 9, 10], [1, 17], []), ([0, 1, 2, 3, 4, 5, 6, 7, 8, 9, 10, 11], [17, 18], []), ([0, 1, 2, 3, 4, 5, 6, 7, 8, 9, 10, 11, 12], [17, 19], []), ([0, 1, 2, 3, 4, 5, 6, 7, 8, 9, 10, 11, 12, 13], [17, 20], []), ([0, 1, 2, 3, 4, 5, 6, 7, 8, 9, 10, 11, 12, 13, 14], [21], []), ([0, 1, 2, 3, 4, 5, 6, 7, 8, 9, 10, 11, 12, 13, 14, 15], [1, 22], []), ([0, 1, 2, 3, 4, 5, 6, 7, 8, 9, 10, 11, 12, 13, 14, 15, 16], [22, 23], []), ([0, 1, 2, 3, 4, 5, 6, 7, 8, 9, 10, 11, 12, 13, 14, 15], [1, 22], []), ([0, 1, 2, 3, 4, 5, 6, 7, 8, 9, 10, 11, 12, 13, 14, 15, 18], [22, 25], []), ([0, 1, 2, 3, 4, 5, 6, 7, 8, 9, 10, 11, 12, 13, 14, 15, 16, 17, 18, 19], [22, 24, 26], []), ([0, 1, 2, 3, 4, 5, 6, 7, 8, 9, 10, 11, 12, 13, 14, 15, 16, 17, 18, 19, 20], [22, 27], [])] rfl rfl rfl ?_ | refine call_x (impl_isNumber _) rfl ⟨rfl⟩ ?_ | refine call_x (impl_within _ _ _) rfl ⟨rfl⟩ ?_ | refine call_x (hN) rfl ⟨rfl⟩ ?_ | refine call_x (hU) rfl ⟨rfl⟩ ?_)) <;> (try simp (maxSteps := 1000000) (disch := first | omega | (simp only [LN, numOk, verOk, rfP, rvP, rhP, frP, elOk_en, elOk_nd, nfx_en, nfx_nd] <;> omega) | exact Ck.mk rfl) only [ee, VC, T, Nat.reduceMul, Nat.reduceAdd, Nat.reduceSub, Nat.reduceLT, Nat.reduceEqDiff, Nat.reduceLeDiff, Nat.reduceBEq, reduceCtorEq, Int.reduceToNat, ↓reduceIte, rfP, rvP, rhP, frP, elOk_en, elOk_nd, nfx_en, nfx_nd]) <;> (try clear ee))
      · rw [decide_eq_false hp] at hN
        clear hq hp
        unfold dkP at *
        refine fn_x tok (n := 60) (rs := [.tmp 2]) Tryz.func87 (by decide) rfl rfl rfl rfl ?_
        refine Wr.go ?_
        repeat' ((first | (have ee := True.intro; refine Wr.mk ?_) | ((first | refine br_go ?_ ?_ | refine pick_go ?_ ?_) <;> intro ee f <;> (try simp only [BB] at f) <;> (try simp only [numOk, verOk] at f)) | (have ee := True.intro; first | refine dr_go mixed (id := 1) [([], [1], []), ([0], [7], []), ([0, 1], [8], []), ([0, 1, 2], [9], []), ([0, 1, 2, 3], [10], []), ([0, 1, 2, 3, 4], [1, 11], []), ([0, 1, 2, 3, 4, 5], [11, 12], []), ([0, 1, 2, 3, 4, 5, 6], [11, 13], []), ([0, 1, 2, 3, 4, 5, 6, 7], [11, 14], []), ([0, 1, 2, 3, 4, 5, 6, 7, 8], [11, 15], []), ([0, 1, 2, 3, 4, 5, 6, 7, 8, 9], [16], []), ([0, 1, 2, 3, 4, 5, 6, 7, 8, 9, 10], [1, 17], []), ([0, 1, 2, 3, 4, 5, 6, 7, 8, 9, 10, 11], [17, 18], []), ([0, 1, 2, 3, 4, 5, 6, 7, 8, 9, 10, 11, 12], [17, 19], []), ([0, 1, 2, 3, 4, 5, 6, 7, 8, 9, 10, 11, 12, 13], [17, 20], []), ([0, 1, 2, 3, 4, 5, 6, 7, 8, 9, 10, 11, 12, 13, 14], [21], []), ([0, 1, 2, 3, 4, 5, 6, 7, 8, 9, 10, 11, 12, 13, 14, 15], [1, 22], []), ([0, 1, 2, 3, 4, 5, 6, 7, 8, 9, 10, 11, 12, 13, 14, 15, 16], [22, 23], []), ([0, 1, 2, 3, 4, 5, 6, 7, 8, 9, 10, 11, 12, 13, 14, 15], [1, 22], []), ([0, 1, 2, 3, 4, 5, 6, 7, 8, 9, 10, 11, 12, 13, 14, 15, 18], [22, 25], []), ([0, 1, 2, 3, 4, 5, 6, 7, 8, 9, 10, 11, 12, 13, 14, 15, 16, 17, 18, 19], [22, 24, 26], []), ([0, 1, 2, 3, 4, 5, 6, 7, 8, 9, 10, 11, 12, 13, 14, 15, 16, 17, 18, 19, 20], [22, 27], [])] rfl rfl rfl ?_ | refine call_x (impl_isNumber _) rfl ⟨rfl⟩ ?_ | refine call_x (impl_within _ _ _) rfl ⟨rfl⟩ ?_ | refine call_x (hN) rfl ⟨rfl⟩ ?_ | refine call_x (hU) rfl ⟨rfl⟩ ?_)) <;> (try simp (maxSteps := 1000000) (disch := first | omega | (simp only [LN, numOk, verOk, rfP, rvP, rhP, frP, elOk_en, elOk_nd, nfx_en, nfx_nd] <;> omega) | exact Ck.mk rfl) only [ee, VC, T, Nat.reduceMul, Nat.reduceAdd, Nat.reduceSub, Nat.reduceLT, Nat.reduceEqDiff, Nat.reduceLeDiff, Nat.reduceBEq, reduceCtorEq, Int.reduceToNat, ↓reduceIte, rfP, rvP, rhP, frP, elOk_en, elOk_nd, nfx_en, nfx_nd]) <;> (try clear ee))
  · have n1 := n1 fun k => hx k.1
    simp only [n1, decide_false]
    clear n1 n2 hN
    unfold dkP at *
    refine fn_x tok (n := 60) (rs := [.tmp 2]) Tryz.func87 (by decide) rfl rfl rfl rfl ?_
    refine Wr.go ?_
    repeat' ((first | (have ee := True.intro; refine Wr.mk ?_) | ((first | refine br_go ?_ ?_ | refine pick_go ?_ ?_) <;> intro ee f <;> (try simp only [BB] at f) <;> (try simp only [numOk, verOk] at f)) | (have ee := True.intro; first | refine dr_go mixed (id := 1) [([], [1], []), ([0], [7], []), ([0, 1], [8], []), ([0, 1, 2], [9], []), ([0, 1, 2, 3], [10], []), ([0, 1, 2, 3, 4], [1, 11], []), ([0, 1, 2, 3, 4, 5], [11, 12], []), ([0, 1, 2, 3, 4, 5, 6], [11, 13], []), ([0, 1, 2, 3, 4, 5, 6, 7], [11, 14], []), ([0, 1, 2, 3, 4, 5, 6, 7, 8], [11, 15], []), ([0, 1, 2, 3, 4, 5, 6, 7, 8, 9], [16], []), ([0, 1, 2, 3, 4, 5, 6, 7, 8, 9, 10], [1, 17], []), ([0, 1, 2, 3, 4, 5, 6, 7, 8, 9, 10, 11], [17, 18], []), ([0, 1, 2, 3, 4, 5, 6, 7, 8, 9, 10, 11, 12], [17, 19], []), ([0, 1, 2, 3, 4, 5, 6, 7, 8, 9, 10, 11, 12, 13], [17, 20], []), ([0, 1, 2, 3, 4, 5, 6, 7, 8, 9, 10, 11, 12, 13, 14], [21], []), ([0, 1, 2, 3, 4, 5, 6, 7, 8, 9, 10, 11, 12, 13, 14, 15], [1, 22], []), ([0, 1, 2, 3, 4, 5, 6, 7, 8, 9, 10, 11, 12, 13, 14, 15, 16], [22, 23], []), ([0, 1, 2, 3, 4, 5, 6, 7, 8, 9, 10, 11, 12, 13, 14, 15], [1, 22], []), ([0, 1, 2, 3, 4, 5, 6, 7, 8, 9, 10, 11, 12, 13, 14, 15, 18], [22, 25], []), ([0, 1, 2, 3, 4, 5, 6, 7, 8, 9, 10, 11, 12, 13, 14, 15, 16, 17, 18, 19], [22, 24, 26], []), ([0, 1, 2, 3, 4, 5, 6, 7, 8, 9, 10, 11, 12, 13, 14, 15, 16, 17, 18, 19, 20], [22, 27], [])] rfl rfl rfl ?_ | refine call_x (impl_isNumber _) rfl ⟨rfl⟩ ?_ | refine call_x (impl_within _ _ _) rfl ⟨rfl⟩ ?_)) <;> (try simp (maxSteps := 1000000) (disch := first | omega | (simp only [LN, numOk, verOk, rfP, rvP, rhP, frP, elOk_en, elOk_nd, nfx_en, nfx_nd] <;> omega) | exact Ck.mk rfl) only [ee, VC, T, Nat.reduceMul, Nat.reduceAdd, Nat.reduceSub, Nat.reduceLT, Nat.reduceEqDiff, Nat.reduceLeDiff, Nat.reduceBEq, reduceCtorEq, Int.reduceToNat, ↓reduceIte, rfP, rvP, rhP, frP, elOk_en, elOk_nd, nfx_en, nfx_nd]) <;> (try clear ee))
end Go.Pv

/- What functions of the program and of the reference do, in plain values. -/
namespace Go.Pv
open Go.Proofs Go.Mth
set_option linter.unusedSimpArgs false
set_option linter.unusedVariables false
set_option maxHeartbeats 4000000
set_option maxRecDepth 4000

/-! ### the program's deeds on disks -/
theorem nodeP_has {d : Dk} {n : ByteArray} (h : hasT d.2.1 n) : nodeP d n = nodeI d.1 (entT d.2.1 n) := by
  unfold hasT at h
  unfold nodeP entT
  rw [if_neg (by omega), if_neg (by omega)]
theorem nodeP_not {d : Dk} {n : ByteArray} (h : ¬ hasT d.2.1 n) : nodeP d n = -1 := by
  unfold hasT at h
  unfold nodeP
  rw [if_pos (by omega)]
theorem impl_SyncFile_W (d : Dk) (n : ByteArray) (h : DkW d) : FnE Tryz.prog 44 [dkP d, .str n] [] (fun r m => r = .tup [dkR 64 (syncT d n).1, .int .i64 (syncT d n).2] ∧ m = dkH (syncT d n).1) := by
  have hes := h.es
  have hss := h.ss
  have hns := h.ns
  have hos := h.os
  have hc := impl_copyDisk_R d h
  have hO := impl_DiskOk d h
  have hA := impl_nodeAt d n h
  have e1 : ¬ diskOk d → syncT d n = (d, 3) := fun a => if_pos (.inl a)
  have e2 : ¬ hasT d.2.1 n → syncT d n = (d, 3) := fun a => if_pos (.inr a)
  by_cases a1 : diskOk d
  · rw [decide_eq_true a1] at hO
    by_cases a2 : hasT d.2.1 n
    · obtain ⟨t1, t2⟩ := node_there a1 a2
      have e3 : syncT d n = (setNd d (nodeI d.1 (entT d.2.1 n)).toNat ((d.1.getD (nodeI d.1 (entT d.2.1 n)).toNat default).1, (d.1.getD (nodeI d.1 (entT d.2.1 n)).toNat default).2.1, (d.1.getD (nodeI d.1 (entT d.2.1 n)).toNat default).2.1.size), 0) := if_neg (by simp [a1, a2])
      obtain ⟨k, hk⟩ : ∃ k : Nat, nodeI d.1 (entT d.2.1 n) = k := ⟨_, (Int.toNat_of_nonneg t1).symm⟩
      rw [nodeP_has a2, hk] at hA
      rw [hk] at t1 t2 e3
      rw [Int.toNat_natCast] at e3
      have hg : (d.1.map ndP).getD k .junk = .agg [.int .i64 (d.1.getD k default).1, .str (d.1.getD k default).2.1, .int .i64 (d.1.getD k default).2.2] := by
        rw [List.getD_eq_getElem?_getD, List.getElem?_map, List.getElem?_eq_getElem (by omega), List.getD_eq_getElem?_getD, List.getElem?_eq_getElem (by omega)]; rfl
      have hu : ∀ a b c z : PV, upd (.agg [a, b, c]) 2 [z] = .agg [a, b, z] := fun _ _ _ _ => rfl
      have hset : (d.1.map ndP).set k (.agg [.int .i64 (d.1.getD k default).1, .str (d.1.getD k default).2.1, .int .i64 (d.1.getD k default).2.1.size]) = (d.1.set k ((d.1.getD k default).1, (d.1.getD k default).2.1, (d.1.getD k default).2.1.size)).map ndP := by rw [List.map_set]; rfl
      have hz := nd_leW h k
      rw [e3]
      unfold setNd dkP dkR dkH at *
      refine fn_e tok (n := 34) (rs := [.cell 4 35, .tmp 5]) Tryz.func44 (by decide) rfl rfl rfl rfl (low_of rfl) ?_
      refine Wr.go ?_
      repeat' ((first | (have ee := True.intro; refine Wr.mk ?_) | ((first | refine br_go ?_ ?_ | refine pick_go ?_ ?_) <;> intro ee f <;> (try simp only [BB] at f) <;> (try simp only [numOk, verOk] at f)) | (have ee := True.intro; first | refine dr_go mixed (id := 5) [([], [6], []), ([0], [21], []), ([], [7], []), ([], [6], []), ([3], [24], []), ([], [7], []), ([3, 4, 5], [25, 26], []), ([3, 4, 5, 6], [27], []), ([3, 4, 5, 6, 7], [28], []), ([3, 4, 5, 6, 7, 8], [29], []), ([0, 1, 2, 3, 4, 5, 6, 7, 8, 9], [22, 23], []), ([0, 1, 2, 3, 4, 5, 6, 7, 8, 9, 10], [31], []), ([0, 1, 2, 3, 4, 5, 6, 7, 8, 9, 10, 11], [30, 32], [])] rfl rfl rfl ?_ | (refine call_h [] [] (hc) (by decide) rfl rfl ?_; rintro _ _ ⟨rfl, rfl⟩) | refine call_x (hA) rfl ⟨rfl⟩ ?_ | refine call_x (hO) rfl ⟨rfl⟩ ?_)) <;> (try simp (maxSteps := 1000000) (disch := first | omega | (simp only [LN, numOk, verOk, rfP, rvP, rhP, frP, elOk_en, elOk_nd, nfx_en, nfx_nd, hg, hu, hset] <;> omega) | exact Ck.mk rfl) only [ee, VC, T, Nat.reduceMul, Nat.reduceAdd, Nat.reduceSub, Nat.reduceLT, Nat.reduceEqDiff, Nat.reduceLeDiff, Nat.reduceBEq, reduceCtorEq, Int.reduceToNat, ↓reduceIte, rfP, rvP, rhP, frP, elOk_en, elOk_nd, nfx_en, nfx_nd, hg, hu, hset]) <;> (try clear ee))
      exact fin_t [some 640, some 641, some 642, some 643] (⟨rfl, rfl⟩) rfl (by simp [RV, RV2, RVl, RV1, tau, tget, hget, data1, oneOf, List.length_set]) (by simp [RH, RVl, RV1, tau, hget, data1, List.length_set]) (by simp [Taus, hget, List.length_set])
    · rw [nodeP_not a2] at hA
      rw [e2 a2]
      unfold dkP dkR dkH at *
      refine fn_e tok (n := 34) (rs := [.cell 4 35, .tmp 5]) Tryz.func44 (by decide) rfl rfl rfl rfl (low_of rfl) ?_
      refine Wr.go ?_
      repeat' ((first | (have ee := True.intro; refine Wr.mk ?_) | ((first | refine br_go ?_ ?_ | refine pick_go ?_ ?_) <;> intro ee f <;> (try simp only [BB] at f) <;> (try simp only [numOk, verOk] at f)) | (have ee := True.intro; first | refine dr_go mixed (id := 5) [([], [6], []), ([0], [21], []), ([], [7], []), ([], [6], []), ([3], [24], []), ([], [7], []), ([3, 4, 5], [25, 26], []), ([3, 4, 5, 6], [27], []), ([3, 4, 5, 6, 7], [28], []), ([3, 4, 5, 6, 7, 8], [29], []), ([0, 1, 2, 3, 4, 5, 6, 7, 8, 9], [22, 23], []), ([0, 1, 2, 3, 4, 5, 6, 7, 8, 9, 10], [31], []), ([0, 1, 2, 3, 4, 5, 6, 7, 8, 9, 10, 11], [30, 32], [])] rfl rfl rfl ?_ | (refine call_h [] [] (hc) (by decide) rfl rfl ?_; rintro _ _ ⟨rfl, rfl⟩) | refine call_x (hA) rfl ⟨rfl⟩ ?_ | refine call_x (hO) rfl ⟨rfl⟩ ?_)) <;> (try simp (maxSteps := 1000000) (disch := first | omega | (simp only [LN, numOk, verOk, rfP, rvP, rhP, frP, elOk_en, elOk_nd, nfx_en, nfx_nd] <;> omega) | exact Ck.mk rfl) only [ee, VC, T, Nat.reduceMul, Nat.reduceAdd, Nat.reduceSub, Nat.reduceLT, Nat.reduceEqDiff, Nat.reduceLeDiff, Nat.reduceBEq, reduceCtorEq, Int.reduceToNat, ↓reduceIte, rfP, rvP, rhP, frP, elOk_en, elOk_nd, nfx_en, nfx_nd]) <;> (try clear ee))
      exact fin_t [some 640, some 641, some 642, some 643] (⟨rfl, rfl⟩) rfl (by simp [RV, RV2, RVl, RV1, tau, tget, hget, data1, oneOf]) (by simp [RH, RVl, RV1, tau, hget, data1]) (by simp [Taus, hget])
  · rw [decide_eq_false a1] at hO
    rw [e1 a1]
    unfold dkP dkR dkH at *
    refine fn_e tok (n := 34) (rs := [.cell 4 35, .tmp 5]) Tryz.func44 (by decide) rfl rfl rfl rfl (low_of rfl) ?_
    refine Wr.go ?_
    repeat' ((first | (have ee := True.intro; refine Wr.mk ?_) | ((first | refine br_go ?_ ?_ | refine pick_go ?_ ?_) <;> intro ee f <;> (try simp only [BB] at f) <;> (try simp only [numOk, verOk] at f)) | (have ee := True.intro; first | refine dr_go mixed (id := 5) [([], [6], []), ([0], [21], []), ([], [7], []), ([], [6], []), ([3], [24], []), ([], [7], []), ([3, 4, 5], [25, 26], []), ([3, 4, 5, 6], [27], []), ([3, 4, 5, 6, 7], [28], []), ([3, 4, 5, 6, 7, 8], [29], []), ([0, 1, 2, 3, 4, 5, 6, 7, 8, 9], [22, 23], []), ([0, 1, 2, 3, 4, 5, 6, 7, 8, 9, 10], [31], []), ([0, 1, 2, 3, 4, 5, 6, 7, 8, 9, 10, 11], [30, 32], [])] rfl rfl rfl ?_ | (refine call_h [] [] (hc) (by decide) rfl rfl ?_; rintro _ _ ⟨rfl, rfl⟩) | refine call_x (hA) rfl ⟨rfl⟩ ?_ | refine call_x (hO) rfl ⟨rfl⟩ ?_)) <;> (try simp (maxSteps := 1000000) (disch := first | omega | (simp only [LN, numOk, verOk, rfP, rvP, rhP, frP, elOk_en, elOk_nd, nfx_en, nfx_nd] <;> omega) | exact Ck.mk rfl) only [ee, VC, T, Nat.reduceMul, Nat.reduceAdd, Nat.reduceSub, Nat.reduceLT, Nat.reduceEqDiff, Nat.reduceLeDiff, Nat.reduceBEq, reduceCtorEq, Int.reduceToNat, ↓reduceIte, rfP, rvP, rhP, frP, elOk_en, elOk_nd, nfx_en, nfx_nd]) <;> (try clear ee))
    exact fin_t [some 640, some 641, some 642, some 643] (⟨rfl, rfl⟩) rfl (by simp [RV, RV2, RVl, RV1, tau, tget, hget, data1, oneOf]) (by simp [RH, RVl, RV1, tau, hget, data1]) (by simp [Taus, hget])
theorem impl_AppendFile_W (d : Dk) (n t : ByteArray) (h : DkW d) (ht : t.size ≤ 1073741824) : FnE Tryz.prog 41 [dkP d, .str n, .str t] [] (fun r m => r = .tup [dkR 64 (appendT d n t).1, .int .i64 (appendT d n t).2] ∧ m = dkH (appendT d n t).1) := by
  have hes := h.es
  have hss := h.ss
  have hns := h.ns
  have hos := h.os
  have hc := impl_copyDisk_R d h
  have hO := impl_DiskOk d h
  have hA := impl_nodeAt d n h
  have hU := impl_UsedOn d h
  have hu0 := usedT_nn d
  have e1 : ¬ diskOk d → appendT d n t = (d, 3) := fun a => if_pos (.inl a)
  have e2 : ¬ hasT d.2.1 n → appendT d n t = (d, 3) := fun a => if_pos (.inr a)
  by_cases a1 : diskOk d
  · rw [decide_eq_true a1] at hO
    by_cases a2 : hasT d.2.1 n
    · obtain ⟨t1, t2⟩ := node_there a1 a2
      obtain ⟨_, hr1, _, hr2⟩ := a1.1
      obtain ⟨k, hk⟩ : ∃ k : Nat, nodeI d.1 (entT d.2.1 n) = k := ⟨_, (Int.toNat_of_nonneg t1).symm⟩
      have e3 : (t.size : Int) > d.2.2.2.2.1 - usedT d → appendT d n t = (setNd d k ((d.1.getD k default).1, (d.1.getD k default).2.1 ++ t.extract 0 (d.2.2.2.2.1 - usedT d).toNat, (d.1.getD k default).2.2), 5) := fun q => by
        unfold appendT
        rw [if_neg (by simp [a1, a2]), if_pos q, hk, Int.toNat_natCast]
      have e4 : ¬ (t.size : Int) > d.2.2.2.2.1 - usedT d → appendT d n t = (setNd d k ((d.1.getD k default).1, (d.1.getD k default).2.1 ++ t, (d.1.getD k default).2.2), 0) := fun q => by
        unfold appendT
        rw [if_neg (by simp [a1, a2]), if_neg q, hk, Int.toNat_natCast]
      rw [nodeP_has a2, hk] at hA
      rw [hk] at t1 t2
      have hg : (d.1.map ndP).getD k .junk = .agg [.int .i64 (d.1.getD k default).1, .str (d.1.getD k default).2.1, .int .i64 (d.1.getD k default).2.2] := by
        rw [List.getD_eq_getElem?_getD, List.getElem?_map, List.getElem?_eq_getElem (by omega), List.getD_eq_getElem?_getD, List.getElem?_eq_getElem (by omega)]; rfl
      have hu : ∀ a b c z : PV, upd (.agg [a, b, c]) 1 [z] = .agg [a, z, c] := fun _ _ _ _ => rfl
      have hset : ∀ s, (d.1.map ndP).set k (.agg [.int .i64 (d.1.getD k default).1, .str s, .int .i64 (d.1.getD k default).2.2]) = (d.1.set k ((d.1.getD k default).1, s, (d.1.getD k default).2.2)).map ndP := fun s => by rw [List.map_set]; rfl
      have hz := nd_leW h k
      have hex := ex_le t 0 (d.2.2.2.2.1 - usedT d).toNat
      have hall : t.extract 0 t.size = t := by
        apply bytesOf_inj
        rw [bytesOf_extract, List.drop_zero, List.take_of_length_le (by rw [bytesOf_length]; exact Nat.le_refl _)]
      generalize appendT d n t = q at *
      unfold setNd at *
      unfold dkP dkR dkH at *
      generalize usedT d = u at *
      by_cases hq : (t.size : Int) > d.2.2.2.2.1 - u
      · have hif : (if d.2.2.2.2.1 - u < (t.size : Int) then d.2.2.2.2.1 - u else (t.size : Int)) = d.2.2.2.2.1 - u := if_pos (by omega)
        cases e3 hq
        clear e1 e2 e3 e4
        refine fn_e tok (n := 50) (rs := [.cell 6 35, .tmp 7]) Tryz.func41 (by decide) rfl rfl rfl rfl (low_of rfl) ?_
        refine Wr.go ?_
        repeat' ((first | (have ee := True.intro; refine Wr.mk ?_) | ((first | refine br_go ?_ ?_ | refine pick_go ?_ ?_) <;> intro ee f <;> (try simp only [BB] at f) <;> (try simp only [numOk, verOk] at f)) | (have ee := True.intro; first | refine dr_go mixed (id := 5) [([], [2], []), ([0], [24], []), ([], [3], []), ([2], [26], []), ([], [3], []), ([4], [28], []), ([2, 3, 4, 5], [27, 29], []), ([0, 1, 2, 3, 4, 5, 6], [25, 30], []), ([0, 1, 2, 3, 4, 5, 6, 7], [31], [])] rfl rfl rfl ?_ | refine dr_go mixed (id := 6) [([], [8], []), ([0], [32], []), ([], [9], []), ([0, 1, 2], [33, 34], []), ([0, 1, 2, 3], [35], []), ([0, 1, 2, 3, 4], [36], []), ([], [2], []), ([], [10], []), ([6, 7], [38, 39], []), ([0, 1, 2, 3, 4, 5, 6, 7, 8], [37, 40], []), ([0, 1, 2, 3, 4, 5, 6, 7, 8, 9], [33, 34], []), ([0, 1, 2, 3, 4, 5, 6, 7, 8, 9, 10], [42], []), ([0, 1, 2, 3, 4, 5, 6, 7, 8, 9, 10, 11], [41, 43], [])] rfl rfl rfl ?_ | (refine call_h [] [] (hc) (by decide) rfl rfl ?_; rintro _ _ ⟨rfl, rfl⟩) | refine call_x (hA) rfl ⟨rfl⟩ ?_ | refine call_x (hO) rfl ⟨rfl⟩ ?_ | refine call_x (hU) rfl ⟨rfl⟩ ?_)) <;> (try simp (maxSteps := 1000000) (disch := first | omega | (simp only [LN, numOk, verOk, rfP, rvP, rhP, frP, elOk_en, elOk_nd, nfx_en, nfx_nd, hg, hu, hset, hif] <;> omega) | exact Ck.mk rfl) only [ee, VC, T, Nat.reduceMul, Nat.reduceAdd, Nat.reduceSub, Nat.reduceLT, Nat.reduceEqDiff, Nat.reduceLeDiff, Nat.reduceBEq, reduceCtorEq, Int.reduceToNat, ↓reduceIte, rfP, rvP, rhP, frP, elOk_en, elOk_nd, nfx_en, nfx_nd, hg, hu, hset, hif]) <;> (try clear ee))
        exact fin_t [some 832, some 833, some 834, some 835] (⟨rfl, rfl⟩) rfl (by simp [RV, RV2, RVl, RV1, tau, tget, hget, data1, oneOf, List.length_set]) (by simp [RH, RVl, RV1, tau, hget, data1, List.length_set]) (by simp [Taus, hget, List.length_set])
      · have hif : (if d.2.2.2.2.1 - u < (t.size : Int) then d.2.2.2.2.1 - u else (t.size : Int)) = (t.size : Int) := if_neg (by omega)
        cases e4 hq
        clear e1 e2 e3 e4
        refine fn_e tok (n := 50) (rs := [.cell 6 35, .tmp 7]) Tryz.func41 (by decide) rfl rfl rfl rfl (low_of rfl) ?_
        refine Wr.go ?_
        repeat' ((first | (have ee := True.intro; refine Wr.mk ?_) | ((first | refine br_go ?_ ?_ | refine pick_go ?_ ?_) <;> intro ee f <;> (try simp only [BB] at f) <;> (try simp only [numOk, verOk] at f)) | (have ee := True.intro; first | refine dr_go mixed (id := 5) [([], [2], []), ([0], [24], []), ([], [3], []), ([2], [26], []), ([], [3], []), ([4], [28], []), ([2, 3, 4, 5], [27, 29], []), ([0, 1, 2, 3, 4, 5, 6], [25, 30], []), ([0, 1, 2, 3, 4, 5, 6, 7], [31], [])] rfl rfl rfl ?_ | refine dr_go mixed (id := 6) [([], [8], []), ([0], [32], []), ([], [9], []), ([0, 1, 2], [33, 34], []), ([0, 1, 2, 3], [35], []), ([0, 1, 2, 3, 4], [36], []), ([], [2], []), ([], [10], []), ([6, 7], [38, 39], []), ([0, 1, 2, 3, 4, 5, 6, 7, 8], [37, 40], []), ([0, 1, 2, 3, 4, 5, 6, 7, 8, 9], [33, 34], []), ([0, 1, 2, 3, 4, 5, 6, 7, 8, 9, 10], [42], []), ([0, 1, 2, 3, 4, 5, 6, 7, 8, 9, 10, 11], [41, 43], [])] rfl rfl rfl ?_ | (refine call_h [] [] (hc) (by decide) rfl rfl ?_; rintro _ _ ⟨rfl, rfl⟩) | refine call_x (hA) rfl ⟨rfl⟩ ?_ | refine call_x (hO) rfl ⟨rfl⟩ ?_ | refine call_x (hU) rfl ⟨rfl⟩ ?_)) <;> (try simp (maxSteps := 1000000) (disch := first | omega | (simp only [LN, numOk, verOk, rfP, rvP, rhP, frP, elOk_en, elOk_nd, nfx_en, nfx_nd, hg, hu, hset, hif, hall, Int.toNat_natCast] <;> omega) | exact Ck.mk rfl) only [ee, VC, T, Nat.reduceMul, Nat.reduceAdd, Nat.reduceSub, Nat.reduceLT, Nat.reduceEqDiff, Nat.reduceLeDiff, Nat.reduceBEq, reduceCtorEq, Int.reduceToNat, ↓reduceIte, rfP, rvP, rhP, frP, elOk_en, elOk_nd, nfx_en, nfx_nd, hg, hu, hset, hif, hall, Int.toNat_natCast]) <;> (try clear ee))
        exact fin_t [some 832, some 833, some 834, some 835] (⟨rfl, rfl⟩) rfl (by simp [RV, RV2, RVl, RV1, tau, tget, hget, data1, oneOf, List.length_set]) (by simp [RH, RVl, RV1, tau, hget, data1, List.length_set]) (by simp [Taus, hget, List.length_set])
    · rw [nodeP_not a2] at hA
      rw [e2 a2]
      unfold dkP dkR dkH at *
      refine fn_e tok (n := 50) (rs := [.cell 6 35, .tmp 7]) Tryz.func41 (by decide) rfl rfl rfl rfl (low_of rfl) ?_
      refine Wr.go ?_
      repeat' ((first | (have ee := True.intro; refine Wr.mk ?_) | ((first | refine br_go ?_ ?_ | refine pick_go ?_ ?_) <;> intro ee f <;> (try simp only [BB] at f) <;> (try simp only [numOk, verOk] at f)) | (have ee := True.intro; first | (refine call_h [] [] (hc) (by decide) rfl rfl ?_; rintro _ _ ⟨rfl, rfl⟩) | refine call_x (hA) rfl ⟨rfl⟩ ?_ | refine call_x (hO) rfl ⟨rfl⟩ ?_)) <;> (try simp (maxSteps := 1000000) (disch := first | omega | (simp only [LN, numOk, verOk, rfP, rvP, rhP, frP, elOk_en, elOk_nd, nfx_en, nfx_nd] <;> omega) | exact Ck.mk rfl) only [ee, VC, T, Nat.reduceMul, Nat.reduceAdd, Nat.reduceSub, Nat.reduceLT, Nat.reduceEqDiff, Nat.reduceLeDiff, Nat.reduceBEq, reduceCtorEq, Int.reduceToNat, ↓reduceIte, rfP, rvP, rhP, frP, elOk_en, elOk_nd, nfx_en, nfx_nd]) <;> (try clear ee))
      exact fin_t [some 832, some 833, some 834, some 835] (⟨rfl, rfl⟩) rfl (by simp [RV, RV2, RVl, RV1, tau, tget, hget, data1, oneOf]) (by simp [RH, RVl, RV1, tau, hget, data1]) (by simp [Taus, hget])
  · rw [decide_eq_false a1] at hO
    rw [e1 a1]
    unfold dkP dkR dkH at *
    refine fn_e tok (n := 50) (rs := [.cell 6 35, .tmp 7]) Tryz.func41 (by decide) rfl rfl rfl rfl (low_of rfl) ?_
    refine Wr.go ?_
    repeat' ((first | (have ee := True.intro; refine Wr.mk ?_) | ((first | refine br_go ?_ ?_ | refine pick_go ?_ ?_) <;> intro ee f <;> (try simp only [BB] at f) <;> (try simp only [numOk, verOk] at f)) | (have ee := True.intro; first | (refine call_h [] [] (hc) (by decide) rfl rfl ?_; rintro _ _ ⟨rfl, rfl⟩) | refine call_x (hA) rfl ⟨rfl⟩ ?_ | refine call_x (hO) rfl ⟨rfl⟩ ?_)) <;> (try simp (maxSteps := 1000000) (disch := first | omega | (simp only [LN, numOk, verOk, rfP, rvP, rhP, frP, elOk_en, elOk_nd, nfx_en, nfx_nd] <;> omega) | exact Ck.mk rfl) only [ee, VC, T, Nat.reduceMul, Nat.reduceAdd, Nat.reduceSub, Nat.reduceLT, Nat.reduceEqDiff, Nat.reduceLeDiff, Nat.reduceBEq, reduceCtorEq, Int.reduceToNat, ↓reduceIte, rfP, rvP, rhP, frP, elOk_en, elOk_nd, nfx_en, nfx_nd]) <;> (try clear ee))
    exact fin_t [some 832, some 833, some 834, some 835] (⟨rfl, rfl⟩) rfl (by simp [RV, RV2, RVl, RV1, tau, tget, hget, data1, oneOf]) (by simp [RH, RVl, RV1, tau, hget, data1]) (by simp [Taus, hget])
end Go.Pv

/- What functions of the program and of the reference do, in plain values. -/
namespace Go.Pv
open Go.Proofs Go.Mth
set_option linter.unusedSimpArgs false
set_option linter.unusedVariables false
set_option maxHeartbeats 4000000
set_option maxRecDepth 4000

/-! ### writers: a file made sure, a file sealed -/
theorem impl_copyWriter_R (w : Wt) (h : w.2.2.2.2.2.1.length ≤ 1048576) : FnE Tryz.prog 36 [wrP w] [] (fun r m => r = wrR 64 w ∧ m = [(64, .row ⟨1, 0⟩ (w.2.2.2.2.2.1.map (.int .i64)))]) := by
  obtain ⟨a, b, c, d, e, L, g, o, k⟩ := w
  simp only at h
  have hI := cloneI L h
  unfold wrP
  refine fn_e tok (n := 8) (rs := [.cell 2 36]) Tryz.func36 (by decide) rfl rfl rfl rfl (low_of rfl) ?_
  refine Wr.go ?_
  repeat' ((first | (have ee := True.intro; refine Wr.mk ?_) | ((first | refine br_go ?_ ?_ | refine pick_go ?_ ?_) <;> intro ee f <;> (try simp only [BB] at f) <;> (try simp only [numOk, verOk] at f)) | (have ee := True.intro; first | (refine call_h [] [] (hI) (by decide) rfl rfl ?_; rintro _ _ ⟨rfl, rfl⟩))) <;> (try simp (maxSteps := 1000000) (disch := first | omega | (simp only [LN, numOk, verOk, rfP, rvP, rhP, frP, elOk_en, elOk_nd, nfx_en, nfx_nd] <;> omega) | exact Ck.mk rfl) only [ee, VC, T, Nat.reduceMul, Nat.reduceAdd, Nat.reduceSub, Nat.reduceLT, Nat.reduceEqDiff, Nat.reduceLeDiff, Nat.reduceBEq, reduceCtorEq, Int.reduceToNat, ↓reduceIte, rfP, rvP, rhP, frP, elOk_en, elOk_nd, nfx_en, nfx_nd]) <;> (try clear ee))
  exact fin_t [some 384] (⟨rfl, rfl⟩) rfl (by simp [RV, RV2, RVl, RV1, tau, tget, hget, data1, oneOf, wrR]) (by simp [RH, RVl, RV1, tau, hget, data1, wrR]) (by simp [Taus, hget, wrR])
theorem spec_l16Copy_R (w : Wt) (h : w.2.2.2.2.2.1.length ≤ 1048576) : FnE Tryz.prog 24 [wrP w] [] (fun r m => r = wrR 64 w ∧ m = [(64, .row ⟨1, 0⟩ (w.2.2.2.2.2.1.map (.int .i64)))]) := by
  obtain ⟨a, b, c, d, e, L, g, o, k⟩ := w
  simp only at h
  unfold wrP
  refine fn_e tok (n := 9) (rs := [.cell 2 36]) Tryz.func24 (by decide) rfl rfl rfl rfl (low_of rfl) ?_
  refine Wr.go ?_
  repeat' ((first | (have ee := True.intro; refine Wr.mk ?_) | ((first | refine br_go ?_ ?_ | refine pick_go ?_ ?_) <;> intro ee f <;> (try simp only [BB] at f) <;> (try simp only [numOk, verOk] at f))) <;> (try simp (maxSteps := 1000000) (disch := first | omega | (simp only [LN, numOk, verOk, rfP, rvP, rhP, frP, elOk_en, elOk_nd, nfx_en, nfx_nd] <;> omega) | exact Ck.mk rfl) only [ee, VC, T, Nat.reduceMul, Nat.reduceAdd, Nat.reduceSub, Nat.reduceLT, Nat.reduceEqDiff, Nat.reduceLeDiff, Nat.reduceBEq, reduceCtorEq, Int.reduceToNat, ↓reduceIte, rfP, rvP, rhP, frP, elOk_en, elOk_nd, nfx_en, nfx_nd]) <;> (try clear ee))
  exact fin_t [some 256] (⟨rfl, rfl⟩) rfl (by simp [RV, RV2, RVl, RV1, tau, tget, hget, data1, oneOf, wrR]) (by simp [RH, RVl, RV1, tau, hget, data1, wrR]) (by simp [Taus, hget, wrR])
theorem impl_head (w : Wt) : Fn Tryz.prog 43 [wrP w] [] (.agg [.int .i64 w.1, .int .i64 w.2.1, .int .i64 w.2.2.2.1, .int .i64 w.2.2.2.2.1]) [] := by
  obtain ⟨a, b, c, d, e, L, g, o, k⟩ := w
  unfold wrP
  refine fn_x tok (n := 12) (rs := [.cell 2 60]) Tryz.func43 (by decide) rfl rfl rfl rfl ?_
  refine Wr.go ?_
  repeat' ((first | (have ee := True.intro; refine Wr.mk ?_) | ((first | refine br_go ?_ ?_ | refine pick_go ?_ ?_) <;> intro ee f <;> (try simp only [BB] at f) <;> (try simp only [numOk, verOk] at f))) <;> (try simp (maxSteps := 1000000) (disch := first | omega | (simp only [LN, numOk, verOk, rfP, rvP, rhP, frP, elOk_en, elOk_nd, nfx_en, nfx_nd] <;> omega) | exact Ck.mk rfl) only [ee, VC, T, Nat.reduceMul, Nat.reduceAdd, Nat.reduceSub, Nat.reduceLT, Nat.reduceEqDiff, Nat.reduceLeDiff, Nat.reduceBEq, reduceCtorEq, Int.reduceToNat, ↓reduceIte, rfP, rvP, rhP, frP, elOk_en, elOk_nd, nfx_en, nfx_nd]) <;> (try clear ee))
theorem spec_head (w : Wt) : Fn Tryz.prog 30 [wrP w] [] (.agg [.int .i64 w.1, .int .i64 w.2.1, .int .i64 w.2.2.2.1, .int .i64 w.2.2.2.2.1]) [] := by
  obtain ⟨a, b, c, d, e, L, g, o, k⟩ := w
  unfold wrP
  refine fn_x tok (n := 12) (rs := [.cell 2 60]) Tryz.func30 (by decide) rfl rfl rfl rfl ?_
  refine Wr.go ?_
  repeat' ((first | (have ee := True.intro; refine Wr.mk ?_) | ((first | refine br_go ?_ ?_ | refine pick_go ?_ ?_) <;> intro ee f <;> (try simp only [BB] at f) <;> (try simp only [numOk, verOk] at f))) <;> (try simp (maxSteps := 1000000) (disch := first | omega | (simp only [LN, numOk, verOk, rfP, rvP, rhP, frP, elOk_en, elOk_nd, nfx_en, nfx_nd] <;> omega) | exact Ck.mk rfl) only [ee, VC, T, Nat.reduceMul, Nat.reduceAdd, Nat.reduceSub, Nat.reduceLT, Nat.reduceEqDiff, Nat.reduceLeDiff, Nat.reduceBEq, reduceCtorEq, Int.reduceToNat, ↓reduceIte, rfP, rvP, rhP, frP, elOk_en, elOk_nd, nfx_en, nfx_nd]) <;> (try clear ee))
end Go.Pv

/- What functions of the program and of the reference do, in plain values. -/
namespace Go.Pv
open Go.Proofs Go.Mth
set_option linter.unusedSimpArgs false
set_option linter.unusedVariables false
set_option maxHeartbeats 4000000
set_option maxRecDepth 4000

/-! ### the law of LogSync -/
def WtIn (w : Wt) : Prop := i64 w.1 ∧ i64 w.2.1 ∧ i64 w.2.2.1 ∧ i64 w.2.2.2.1 ∧ i64 w.2.2.2.2.1 ∧ (w.2.2.2.2.2.1.length ≤ 9223372036854775807 ∧ ∀ a ∈ w.2.2.2.2.2.1, i64 a) ∧ i64 w.2.2.2.2.2.2.1 ∧ True ∧ i64 w.2.2.2.2.2.2.2.2
end Go.Pv
