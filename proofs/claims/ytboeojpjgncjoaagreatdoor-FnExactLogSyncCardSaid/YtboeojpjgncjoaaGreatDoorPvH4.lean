/- The texts of this claim, part 4: a small logic of plain values for the model's runs, what it says of the functions, in plain values. -/
import Derived.Below
import Derived.ChangeArms
import Derived.ChangeShapes
import Derived.WideShapes
import Derived.Test.YtboeojpjgncjoaaGreatDoorPvH0
import Derived.Test.YtboeojpjgncjoaaGreatDoorPvH1
import Derived.Test.YtboeojpjgncjoaaGreatDoorPvH2
import Derived.Test.YtboeojpjgncjoaaGreatDoorPvH3
/- What functions of the program and of the reference do, in plain values. -/
namespace Go.Pv
open Go.Proofs Go.Mth
set_option linter.unusedSimpArgs false
set_option linter.unusedVariables false
set_option maxHeartbeats 4000000
set_option maxRecDepth 4000

/-! ### copies of disks; right disks, as the program looks -/
theorem impl_copyDisk_R (d : Dk) (h : DkW d) : FnE Tryz.prog 37 [dkP d] [] (fun r m => r = dkR 64 d ∧ m = dkH d) := by
  have h1 := h.ns
  have h2 := h.es
  have h3 := h.os
  have h4 := h.ss
  have c1 := cloneN d.1 h1
  have c2 := cloneE d.2.1 h2
  have c3 := cloneE d.2.2.1 h3
  have c4 := cloneS d.2.2.2.1 h4
  unfold dkP
  refine fn_e tok (n := 20) (rs := [.cell 2 35]) Tryz.func37 (by decide) rfl rfl rfl rfl (low_of rfl) ?_
  refine Wr.go ?_
  repeat' ((first | (have ee := True.intro; refine Wr.mk ?_) | ((first | refine br_go ?_ ?_ | refine pick_go ?_ ?_) <;> intro ee f <;> (try simp only [BB] at f) <;> (try simp only [numOk, verOk] at f)) | (have ee := True.intro; first | refine dr_go mixed (id := 1) [([], [1], []), ([0], [3], []), ([0, 1], [4], []), ([], [1], []), ([3], [6], []), ([0, 1, 2, 3, 4], [7], []), ([], [1], []), ([6], [9], []), ([0, 1, 2, 3, 4, 5, 6, 7], [10], []), ([], [1], []), ([9], [12], []), ([0, 1, 2, 3, 4, 5, 6, 7, 8, 9, 10], [13], []), ([0, 1, 2, 3, 4, 6, 7, 9, 10], [1], []), ([0, 1, 2, 3, 4, 5, 6, 7, 8, 9, 10, 11, 12], [5, 15], []), ([0, 1, 2, 3, 4, 5, 6, 7, 8, 9, 10, 11, 12, 13], [1], []), ([0, 1, 2, 3, 4, 5, 6, 7, 8, 9, 10, 11, 12, 13, 14], [8, 16], []), ([0, 1, 2, 3, 4, 5, 6, 7, 8, 9, 10, 11, 12, 13, 14, 15], [1], []), ([0, 1, 2, 3, 4, 5, 6, 7, 8, 9, 10, 11, 12, 13, 14, 15, 16], [11, 17], []), ([0, 1, 2, 3, 4, 5, 6, 7, 8, 9, 10, 11, 12, 13, 14, 15, 16, 17], [1], []), ([0, 1, 2, 3, 4, 5, 6, 7, 8, 9, 10, 11, 12, 13, 14, 15, 16, 17, 18], [14, 18], [])] rfl rfl rfl ?_ | (refine call_h [] [] (c1) (by decide) rfl rfl ?_; rintro _ _ ⟨rfl, rfl⟩) | (refine call_h [] [] (c2) (by decide) rfl rfl ?_; rintro _ _ ⟨rfl, rfl⟩) | (refine call_h [] [] (c3) (by decide) rfl rfl ?_; rintro _ _ ⟨rfl, rfl⟩) | (refine call_h [] [] (c4) (by decide) rfl rfl ?_; rintro _ _ ⟨rfl, rfl⟩))) <;> (try simp (maxSteps := 1000000) (disch := first | omega | (simp only [LN, numOk, verOk, rfP, rvP, rhP, frP, elOk_en, elOk_nd, nfx_en, nfx_nd] <;> omega) | exact Ck.mk rfl) only [ee, VC, T, Nat.reduceMul, Nat.reduceAdd, Nat.reduceSub, Nat.reduceLT, Nat.reduceEqDiff, Nat.reduceLeDiff, Nat.reduceBEq, reduceCtorEq, Int.reduceToNat, ↓reduceIte, rfP, rvP, rhP, frP, elOk_en, elOk_nd, nfx_en, nfx_nd]) <;> (try clear ee))
  exact fin_t [some 384, some 576, some 768, some 960] (⟨rfl, rfl⟩) rfl (by simp [RV, RV2, RVl, RV1, tau, tget, hget, data1, oneOf, dkR, dkH]) (by simp [RH, RVl, RV1, tau, hget, data1, dkR, dkH]) (by simp [Taus, hget, dkR, dkH])
theorem okGo_ents {d : Dk} {L : List Et} {S : List ByteArray} (h : okGo d L S) : entsOk d L := by
  cases S with
  | nil => exact h.1
  | cons s r => exact h.1
theorem okGo_nil (d : Dk) (L : List Et) : okGo d L [] = (entsOk d L ∧ L = d.2.1) := rfl
theorem okGo_some {d : Dk} {L M : List Et} {s : ByteArray} {r : List ByteArray} (h : stI L s = some M) (he : entsOk d L) : okGo d L (s :: r) = okGo d M r := by
  have e : okGo d L (s :: r) = (entsOk d L ∧ match stI L s with | some M => okGo d M r | none => False) := rfl
  rw [e, h]
  exact propext ⟨fun k => k.2, fun k => ⟨he, k⟩⟩
theorem okGo_none {d : Dk} {L : List Et} {s : ByteArray} {r : List ByteArray} (h : stI L s = none) : okGo d L (s :: r) = False := by
  have e : okGo d L (s :: r) = (entsOk d L ∧ match stI L s with | some M => okGo d M r | none => False) := rfl
  rw [e, h]
  exact propext ⟨fun k => k.2, False.elim⟩
theorem impl_DiskOk (d : Dk) (h : DkW d) : Fn Tryz.prog 87 [dkP d] [] (.bool (decide (diskOk d))) [] := by
  have hU := impl_UsedOn d h
  have hN := fun k => impl_areNodes d h k
  have hcl := cloneE d.2.2.1 h.os
  have hEn := fun L hl hz => impl_areEntries d L h hl hz
  have hot := h.ot
  have hst := h.st
  have hos := h.os
  have hss := h.ss
  have hes := h.es
  have n1 : ¬ (((0 ≤ d.2.2.2.2.1 ∧ d.2.2.2.2.1 ≤ 1000000000) ∧ (1 ≤ d.2.2.2.2.2 ∧ d.2.2.2.2.2 ≤ 1000000000)) ∧ (nodesOk d ∧ d.1.length ≤ 64) ∧ usedT d ≤ d.2.2.2.2.1) → diskOk d = False := fun q => propext ⟨fun k => q ⟨⟨k.1.2.1, k.1.2.2.1⟩, ⟨k.2.1, k.1.1⟩, k.1.2.2.2⟩, False.elim⟩
  have n2 : (((0 ≤ d.2.2.2.2.1 ∧ d.2.2.2.2.1 ≤ 1000000000) ∧ (1 ≤ d.2.2.2.2.2 ∧ d.2.2.2.2.2 ≤ 1000000000)) ∧ (nodesOk d ∧ d.1.length ≤ 64) ∧ usedT d ≤ d.2.2.2.2.1) → diskOk d = okGo d d.2.2.1 d.2.2.2.1 := fun q => propext ⟨fun k => (stepsOk_go d).1 k.2.2, fun k => ⟨⟨q.2.1.2, q.1.1, q.1.2, q.2.2⟩, q.2.1.1, (stepsOk_go d).2 k⟩⟩
  have hB : ∀ L : List Et, (L.map enP).length = L.length := fun L => List.length_map _
  have hEq := fun L hl => equalE L d.2.1 hl
  have hsd : ∀ (L : List Et) (s : ByteArray), entsOk d L → (∀ e ∈ L, e.1.size ≤ 1048576) → s.size ≤ 1048576 → ∀ M, stI L s = some M → M.length ≤ 17 ∧ ∀ e ∈ M, e.1.size ≤ 1048576 := fun L s he hz hs M hM => by
    rw [stI_eq L s (entsOk_pairs he)] at hM
    have k := sdT_le L s M 1048576 hM hz hs
    have := he.2
    exact ⟨by omega, k.2⟩
  by_cases hx : (0 ≤ d.2.2.2.2.1 ∧ d.2.2.2.2.1 ≤ 1000000000) ∧ (1 ≤ d.2.2.2.2.2 ∧ d.2.2.2.2.2 ≤ 1000000000)
  · have hN := hN ⟨hx.2.2, by omega⟩
    by_cases hq : (nodesOk d ∧ d.1.length ≤ 64) ∧ usedT d ≤ d.2.2.2.2.1
    · have m2 := n2 ⟨hx, hq⟩
      rw [decide_eq_true hq.1] at hN
      have hq2 := hq.2
      generalize hu : usedT d = u at *
      obtain ⟨⟨x1, x2⟩, x3, x4⟩ := hx
      clear n1 n2 hq
      unfold dkP at *
      refine fn_x tok (n := 60) (rs := [.tmp 2]) Tryz.func87 (by decide) rfl rfl rfl rfl ?_
      refine Wr.go ?_
      repeat' ((first | (have ee := True.intro; refine Wr.mk ?_) | ((first | refine br_go ?_ ?_ | refine pick_go ?_ ?_) <;> intro ee f <;> (try simp only [BB] at f) <;> (try simp only [numOk, verOk] at f)) | (have ee := True.intro; first | refine dr_go mixed (id := 1) [([], [1], []), ([0], [7], []), ([0, 1], [8], []), ([0, 1, 2], [9], []), ([0, 1, 2, 3], [10], []), ([0, 1, 2, 3, 4], [1, 11], []), ([0, 1, 2, 3, 4, 5], [11, 12], []), ([0, 1, 2, 3, 4, 5, 6], [11, 13], []), ([0, 1, 2, 3, 4, 5, 6, 7], [11, 14], []), ([0, 1, 2, 3, 4, 5, 6, 7, 8], [11, 15], []), ([0, 1, 2, 3, 4, 5, 6, 7, 8, 9], [16], []), ([0, 1, 2, 3, 4, 5, 6, 7, 8, 9, 10], [1, 17], []), ([0, 1, 2, 3, 4, 5, 6, 7, 8, 9, 10, 11], [17, 18], []), ([0, 1, 2, 3, 4, 5, 6, 7, 8, 9, 10, 11, 12], [17, 19], []), ([0, 1, 2, 3, 4, 5, 6, 7, 8, 9, 10, 11, 12, 13], [17, 20], []), ([0, 1, 2, 3, 4, 5, 6, 7, 8, 9, 10, 11, 12, 13, 14], [21], []), ([0, 1, 2, 3, 4, 5, 6, 7, 8, 9, 10, 11, 12, 13, 14, 15], [1, 22], []), ([0, 1, 2, 3, 4, 5, 6, 7, 8, 9, 10, 11, 12, 13, 14, 15, 16], [22, 23], []), ([0, 1, 2, 3, 4, 5, 6, 7, 8, 9, 10, 11, 12, 13, 14, 15], [1, 22], []), ([0, 1, 2, 3, 4, 5, 6, 7, 8, 9, 10, 11, 12, 13, 14, 15, 18], [22, 25], []), ([0, 1, 2, 3, 4, 5, 6, 7, 8, 9, 10, 11, 12, 13, 14, 15, 16, 17, 18, 19], [22, 24, 26], []), ([0, 1, 2, 3, 4, 5, 6, 7, 8, 9, 10, 11, 12, 13, 14, 15, 16, 17, 18, 19, 20], [22, 27], [])] rfl rfl rfl ?_ | refine call_x (impl_isNumber _) rfl ⟨rfl⟩ ?_ | refine call_x (impl_within _ _ _) rfl ⟨rfl⟩ ?_ | refine call_x (hN) rfl ⟨rfl⟩ ?_ | refine call_x (hU) rfl ⟨rfl⟩ ?_ | (refine call_h [] [] (hcl) (by decide) rfl rfl ?_; rintro _ _ ⟨rfl, rfl⟩))) <;> (try simp (maxSteps := 1000000) (disch := first | omega | (simp only [LN, numOk, verOk, rfP, rvP, rhP, frP, elOk_en, elOk_nd, nfx_en, nfx_nd] <;> omega) | exact Ck.mk rfl) only [ee, VC, T, Nat.reduceMul, Nat.reduceAdd, Nat.reduceSub, Nat.reduceLT, Nat.reduceEqDiff, Nat.reduceLeDiff, Nat.reduceBEq, reduceCtorEq, Int.reduceToNat, ↓reduceIte, rfP, rvP, rhP, frP, elOk_en, elOk_nd, nfx_en, nfx_nd]) <;> (try clear ee))
      refine lp_im (fun x : Nat × List Et => ⟨60, [(1, .ref 128 0), (3, .far (x.2.map enP)), (4, .int .i64 x.1)], [(128, .box 35 [.far (d.1.map ndP), .far (d.2.1.map enP), .far (d.2.2.1.map enP), .far (d.2.2.2.1.map .str), .int .i64 d.2.2.2.2.1, .int .i64 d.2.2.2.2.2])]⟩) (fun x => x.1 ≤ d.2.2.2.1.length ∧ (∀ e ∈ x.2, e.1.size ≤ 1048576) ∧ x.2.length ≤ 1048576 ∧ diskOk d = okGo d x.2 (d.2.2.2.1.drop x.1)) (fun x => d.2.2.2.1.length - x.1) (0, d.2.2.1) ?_ ⟨Nat.zero_le _, hot, hos, m2⟩ ?_
      · refine Im.go 3 2048 rfl rfl (List.length_map _).symm ?_
        (simp (disch := first | omega | (simp only [LN, numOk, verOk] <;> omega) | exact Ck.mk rfl) only [SB, EQ, Nat.reduceMul, Nat.reduceAdd, Nat.reduceSub, Nat.reduceLT, Nat.reduceEqDiff, Nat.reduceLeDiff, Nat.reduceBEq, reduceCtorEq, Int.reduceToNat, ↓reduceIte]; try omega)
        try rfl
      · rintro ⟨i, L⟩ ⟨hi, hz, hln, hgo⟩ N hL
        simp only at hi hz hln hgo hL ⊢
        have hEn := hEn L (by omega) hz
        have hEq := hEq L (by omega)
        by_cases he : entsOk d L
        · rw [decide_eq_true he] at hEn
          have hl16 := he.2
          by_cases hi2 : i < d.2.2.2.1.length
          · have hsz : (d.2.2.2.1.getD i default).size ≤ 1048576 := by
              rw [List.getD_eq_getElem?_getD, List.getElem?_eq_getElem hi2]; exact hst _ (List.getElem_mem hi2)
            have hdr : d.2.2.2.1.drop i = d.2.2.2.1.getD i default :: d.2.2.2.1.drop (i + 1) := by
              rw [List.drop_eq_getElem_cons hi2, List.getD_eq_getElem?_getD, List.getElem?_eq_getElem hi2]; rfl
            rw [hdr] at hgo
            have hS := impl_stepDone L (d.2.2.2.1.getD i default) (entsOk_pairs he) (by omega) hsz
            have hsd := hsd L (d.2.2.2.1.getD i default) he hz hsz
            cases hq : stI L (d.2.2.2.1.getD i default) with
            | none =>
              rw [okGo_none hq] at hgo
              have hS : FnE Tryz.prog 127 [.far (L.map enP), .str (d.2.2.2.1.getD i default)] [] (fun r m => r = .tup [.nils, .bool false] ∧ m = []) := by rw [hq] at hS; exact hS
              refine Wr.go ?_
              repeat' ((first | (have ee := True.intro; refine Wr.mk ?_) | ((first | refine br_go ?_ ?_ | refine pick_go ?_ ?_) <;> intro ee f <;> (try simp only [BB] at f) <;> (try simp only [numOk, verOk] at f)) | (have ee := True.intro; first | refine call_x (hEn) rfl ⟨rfl⟩ ?_ | (refine call_h [] [] (hS) (by decide) rfl rfl ?_; rintro _ _ ⟨rfl, rfl⟩))) <;> (try simp (maxSteps := 1000000) (disch := first | omega | (simp only [LN, numOk, verOk, rfP, rvP, rhP, frP, elOk_en, elOk_nd, nfx_en, nfx_nd] <;> omega) | exact Ck.mk rfl) only [ee, VC, T, Nat.reduceMul, Nat.reduceAdd, Nat.reduceSub, Nat.reduceLT, Nat.reduceEqDiff, Nat.reduceLeDiff, Nat.reduceBEq, reduceCtorEq, Int.reduceToNat, ↓reduceIte, rfP, rvP, rhP, frP, elOk_en, elOk_nd, nfx_en, nfx_nd]) <;> (try clear ee))
              all_goals simp only [hgo, decide_false]
            | some M =>
              rw [okGo_some hq he] at hgo
              have hsd := hsd M hq
              have hS : FnE Tryz.prog 127 [.far (L.map enP), .str (d.2.2.2.1.getD i default)] [] (fun r m => r = .tup [.row 64 M.length, .bool true] ∧ m = [(64, .row ⟨2, 0⟩ (M.map enP))]) := by rw [hq] at hS; exact hS
              refine Wr.go ?_
              repeat' ((first | (have ee := True.intro; refine Wr.mk ?_) | ((first | refine br_go ?_ ?_ | refine pick_go ?_ ?_) <;> intro ee f <;> (try simp only [BB] at f) <;> (try simp only [numOk, verOk] at f)) | (have ee := True.intro; first | refine call_x (hEn) rfl ⟨rfl⟩ ?_ | (refine call_h [] [] (hS) (by decide) rfl rfl ?_; rintro _ _ ⟨rfl, rfl⟩))) <;> (try simp (maxSteps := 1000000) (disch := first | omega | (simp only [LN, numOk, verOk, rfP, rvP, rhP, frP, elOk_en, elOk_nd, nfx_en, nfx_nd] <;> omega) | exact Ck.mk rfl) only [ee, VC, T, Nat.reduceMul, Nat.reduceAdd, Nat.reduceSub, Nat.reduceLT, Nat.reduceEqDiff, Nat.reduceLeDiff, Nat.reduceBEq, reduceCtorEq, Int.reduceToNat, ↓reduceIte, rfP, rvP, rhP, frP, elOk_en, elOk_nd, nfx_en, nfx_nd]) <;> (try clear ee))
              refine hL (i + 1, M) _ ⟨by simp only; omega, hsd.2, by simp only; omega, hgo⟩ (by simp only; omega) ?_
              refine Im.go 3 3520 rfl rfl (List.length_map _).symm ?_
              (simp (disch := first | omega | (simp only [LN, numOk, verOk] <;> omega) | exact Ck.mk rfl) only [SB, EQ, Nat.reduceMul, Nat.reduceAdd, Nat.reduceSub, Nat.reduceLT, Nat.reduceEqDiff, Nat.reduceLeDiff, Nat.reduceBEq, reduceCtorEq, Int.reduceToNat, ↓reduceIte]; try omega)
              try rfl
          · obtain rfl : i = d.2.2.2.1.length := by omega
            have hgo : diskOk d = (L = d.2.1) := by
              rw [hgo, List.drop_length, okGo_nil]
              exact propext ⟨fun k => k.2, fun k => ⟨he, k⟩⟩
            refine Wr.go ?_
            repeat' ((first | (have ee := True.intro; refine Wr.mk ?_) | ((first | refine br_go ?_ ?_ | refine pick_go ?_ ?_) <;> intro ee f <;> (try simp only [BB] at f) <;> (try simp only [numOk, verOk] at f)) | (have ee := True.intro; first | refine call_x (hEn) rfl ⟨rfl⟩ ?_ | refine call_x (hEq) rfl ⟨rfl⟩ ?_)) <;> (try simp (maxSteps := 1000000) (disch := first | omega | (simp only [LN, numOk, verOk, rfP, rvP, rhP, frP, elOk_en, elOk_nd, nfx_en, nfx_nd] <;> omega) | exact Ck.mk rfl) only [ee, VC, T, Nat.reduceMul, Nat.reduceAdd, Nat.reduceSub, Nat.reduceLT, Nat.reduceEqDiff, Nat.reduceLeDiff, Nat.reduceBEq, reduceCtorEq, Int.reduceToNat, ↓reduceIte, rfP, rvP, rhP, frP, elOk_en, elOk_nd, nfx_en, nfx_nd]) <;> (try clear ee))
            all_goals simp only [hgo]
        · rw [decide_eq_false he] at hEn
          have hgo : diskOk d = False := propext ⟨fun k => he (okGo_ents (hgo ▸ k)), False.elim⟩
          refine Wr.go ?_
          repeat' ((first | (have ee := True.intro; refine Wr.mk ?_) | ((first | refine br_go ?_ ?_ | refine pick_go ?_ ?_) <;> intro ee f <;> (try simp only [BB] at f) <;> (try simp only [numOk, verOk] at f)) | (have ee := True.intro; first | refine call_x (hEn) rfl ⟨rfl⟩ ?_)) <;> (try simp (maxSteps := 1000000) (disch := first | omega | (simp only [LN, numOk, verOk, rfP, rvP, rhP, frP, elOk_en, elOk_nd, nfx_en, nfx_nd] <;> omega) | exact Ck.mk rfl) only [ee, VC, T, Nat.reduceMul, Nat.reduceAdd, Nat.reduceSub, Nat.reduceLT, Nat.reduceEqDiff, Nat.reduceLeDiff, Nat.reduceBEq, reduceCtorEq, Int.reduceToNat, ↓reduceIte, rfP, rvP, rhP, frP, elOk_en, elOk_nd, nfx_en, nfx_nd]) <;> (try clear ee))
          all_goals simp only [hgo, decide_false]
    · have n1 := n1 fun k => hq k.2
      simp only [n1, decide_false]
      generalize hu : usedT d = u at *
      obtain ⟨⟨x1, x2⟩, x3, x4⟩ := hx
      clear n1 n2
      by_cases hp : nodesOk d ∧ d.1.length ≤ 64
      · have hq2 : ¬ u ≤ d.2.2.2.2.1 := fun k => hq ⟨hp, k⟩
        rw [decide_eq_true hp] at hN
        clear hq hp
        unfold dkP at *
        refine fn_x tok (n := 60) (rs := [.tmp 2]) Tryz.func87 (by decide) rfl rfl rfl rfl ?_
        refine Wr.go ?_
        repeat' ((first | (have ee := True.intro; refine Wr.mk ?_) | ((first | refine br_go ?_ ?_ | refine pick_go ?_ ?_) <;> intro ee f <;> (try simp only [BB] at f) <;> (try simp only [numOk, verOk] at f)) | (have ee := True.intro; first | refine dr_go mixed (id := 1) [([], [1], []), ([0], [7], []), ([0, 1], [8], []), ([0, 1, 2], [9], []), ([0, 1, 2, 3], [10], []), ([0, 1, 2, 3, 4], [1, 11], []), ([0, 1, 2, 3, 4, 5], [11, 12], []), ([0, 1, 2, 3, 4, 5, 6], [11, 13], []), ([0, 1, 2, 3, 4, 5, 6, 7], [11, 14], []), ([0, 1, 2, 3, 4, 5, 6, 7, 8], [11, 15], []), ([0, 1, 2, 3, 4, 5, 6, 7, 8, 9], [16], []), ([0, 1, 2, 3, 4, 5, 6, 7, 8, 9, 10], [1, 17], []), ([0, 1, 2, 3, 4, 5, 6, 7, 8, 9, 10, 11], [17, 18], []), ([0, 1, 2, 3, 4, 5, 6, 7, 8, 9, 10, 11, 12], [17, 19], []), ([0, 1, 2, 3, 4, 5, 6, 7, 8, 9, 10, 11, 12, 13], [17, 20], []), ([0, 1, 2, 3, 4, 5, 6, 7, 8, 9, 10, 11, 12, 13, 14], [21], []), ([0, 1, 2, 3, 4, 5, 6, 7, 8, 9, 10, 11, 12, 13, 14, 15], [1, 22], []), ([0, 1, 2, 3, 4, 5, 6, 7, 8, 9, 10, 11, 12, 13, 14, 15, 16], [22, 23], []), ([0, 1, 2, 3, 4, 5, 6, 7, 8, 9, 10, 11, 12, 13, 14, 15], [1, 22], []), ([0, 1, 2, 3, 4, 5, 6, 7, 8, 9, 10, 11, 12, 13, 14, 15, 18], [22, 25], []), ([0, 1, 2, 3, 4, 5, 6, 7, 8, 9, 10, 11, 12, 13, 14, 15, 16, 17, 18, 19], [22, 24, 26], []), ([0, 1, 2, 3, 4, 5, 6, 7, 8, 9, 10, 11, 12, 13, 14, 15, 16, 17, 18, 19, 20], [22, 27], [])] rfl rfl rfl ?_ | refine call_x (impl_isNumber _) rfl ⟨rfl⟩ ?_ | refine call_x (impl_within _ _ _) rfl ⟨rfl⟩ ?_ | refine call_x (hN) rfl ⟨rfl⟩ ?_ | refine call_x (hU) rfl ⟨rfl⟩ ?_)) <;> (try simp (maxSteps := 1000000) (disch := first | omega | (simp only [LN, numOk, verOk, rfP, rvP, rhP, frP, elOk_en, elOk_nd, nfx_en, nfx_nd] <;> omega) | exact Ck.mk rfl) only [ee, VC, T, Nat.reduceMul, Nat.reduceAdd, Nat.reduceSub, Nat.reduceLT, Nat.reduceEqDiff, Nat.reduceLeDiff, Nat.reduceBEq, reduceCtorEq, Int.reduceToNat, ↓reduceIte, rfP, rvP, rhP, frP, elOk_en, elOk_nd, nfx_en, nfx_nd]) <;> (try clear ee))
      · rw [decide_eq_false hp] at hN
        clear hq hp
        unfold dkP at *
        refine fn_x tok (n := 60) (rs := [.tmp 2]) Tryz.func87 (by decide) rfl rfl rfl rfl ?_
        refine Wr.go ?_
        repeat' ((first | (have ee := True.intro; refine Wr.mk ?_) | ((first | refine br_go ?_ ?_ | refine pick_go ?_ ?_) <;> intro ee f <;> (try simp only [BB] at f) <;> (try simp only [numOk, verOk] at f)) | (have ee := True.intro; first | refine dr_go mixed (id := 1) [([], [1], []), ([0], [7], []), ([0, 1], [8], []), ([0, 1, 2], [9], []), ([0, 1, 2, 3], [10], []), ([0, 1, 2, 3, 4], [1, 11], []), ([0, 1, 2, 3, 4, 5], [11, 12], []), ([0, 1, 2, 3, 4, 5, 6], [11, 13], []), ([0, 1, 2, 3, 4, 5, 6, 7], [11, 14], []), ([0, 1, 2, 3, 4, 5, 6, 7, 8], [11, 15], []), ([0, 1, 2, 3, 4, 5, 6, 7, 8, 9], [16], []), ([0, 1, 2, 3, 4, 5, 6, 7, 8, 9, 10], [1, 17], []), ([0, 1, 2, 3, 4, 5, 6, 7, 8, 9, 10, 11], [17, 18], []), ([0, 1, 2, 3, 4, 5, 6, 7, 8, 9, 10, 11, 12], [17, 19], []), ([0, 1, 2, 3, 4, 5, 6, 7, 8, 9, 10, 11, 12, 13], [17, 20], []), ([0, 1, 2, 3, 4, 5, 6, 7, 8, 9, 10, 11, 12, 13, 14], [21], []), ([0, 1, 2, 3, 4, 5, 6, 7, 8, 9, 10, 11, 12, 13, 14, 15], [1, 22], []), ([0, 1, 2, 3, 4, 5, 6, 7, 8, 9, 10, 11, 12, 13, 14, 15, 16], [22, 23], []), ([0, 1, 2, 3, 4, 5, 6, 7, 8, 9, 10, 11, 12, 13, 14, 15], [1, 22], []), ([0, 1, 2, 3, 4, 5, 6, 7, 8, 9, 10, 11, 12, 13, 14, 15, 18], [22, 25], []), ([0, 1, 2, 3, 4, 5, 6, 7, 8, 9, 10, 11, 12, 13, 14, 15, 16, 17, 18, 19], [22, 24, 26], []), ([0, 1, 2, 3, 4, 5, 6, 7, 8, 9, 10, 11, 12, 13, 14, 15, 16, 17, 18, 19, 20], [22, 27], [])] rfl rfl rfl ?_ | refine call_x (impl_isNumber _) rfl ⟨rfl⟩ ?_ | refine call_x (impl_within _ _ _) rfl ⟨rfl⟩ ?_ | refine call_x (hN) rfl ⟨rfl⟩ ?_ | refine call_x (hU) rfl ⟨rfl⟩ ?_)) <;> (try simp (maxSteps := 1000000) (disch := first | omega | (simp only [LN, numOk, verOk, rfP, rvP, rhP, frP, elOk_en, elOk_nd, nfx_en, nfx_nd] <;> omega) | exact Ck.mk rfl) only [ee, VC, T, Nat.reduceMul, Nat.reduceAdd, Nat.reduceSub, Nat.reduceLT, Nat.reduceEqDiff, Nat.reduceLeDiff, Nat.reduceBEq, reduceCtorEq, Int.reduceToNat, ↓reduceIte, rfP, rvP, rhP, frP, elOk_en, elOk_nd, nfx_en, nfx_nd]) <;> (try clear ee))
  · have n1 := n1 fun k => hx k.1
    simp only [n1, decide_false]
    clear n1 n2 hN
    unfold dkP at *
    refine fn_x tok (n := 60) (rs := [.tmp 2]) Tryz.func87 (by decide) rfl rfl rfl rfl ?_
    refine Wr.go ?_
    repeat' ((first | (have ee := True.intro; refine Wr.mk ?_) | ((first | refine br_go ?_ ?_ | refine pick_go ?_ ?_) <;> intro ee f <;> (try simp only [BB] at f) <;> (try simp only [numOk, verOk] at f)) | (have ee := True.intro; first | refine dr_go mixed (id := 1) [([], [1], []), ([0], [7], []), ([0, 1], [8], []), ([0, 1, 2], [9], []), ([0, 1, 2, 3], [10], []), ([0, 1, 2, 3, 4], [1, 11], []), ([0, 1, 2, 3, 4, 5], [11, 12], []), ([0, 1, 2, 3, 4, 5, 6], [11, 13], []), ([0, 1, 2, 3, 4, 5, 6, 7], [11, 14], []), ([0, 1, 2, 3, 4, 5, 6, 7, 8], [11, 15], []), ([0, 1, 2, 3, 4, 5, 6, 7, 8, 9], [16], []), ([0, 1, 2, 3, 4, 5, 6, 7, 8, 9, 10], [1, 17], []), ([0, 1, 2, 3, 4, 5, 6, 7, 8, 9, 10, 11], [17, 18], []), ([0, 1, 2, 3, 4, 5, 6, 7, 8, 9, 10, 11, 12], [17, 19], []), ([0, 1, 2, 3, 4, 5, 6, 7, 8, 9, 10, 11, 12, 13], [17, 20], []), ([0, 1, 2, 3, 4, 5, 6, 7, 8, 9, 10, 11, 12, 13, 14], [21], []), ([0, 1, 2, 3, 4, 5, 6, 7, 8, 9, 10, 11, 12, 13, 14, 15], [1, 22], []), ([0, 1, 2, 3, 4, 5, 6, 7, 8, 9, 10, 11, 12, 13, 14, 15, 16], [22, 23], []), ([0, 1, 2, 3, 4, 5, 6, 7, 8, 9, 10, 11, 12, 13, 14, 15], [1, 22], []), ([0, 1, 2, 3, 4, 5, 6, 7, 8, 9, 10, 11, 12, 13, 14, 15, 18], [22, 25], []), ([0, 1, 2, 3, 4, 5, 6, 7, 8, 9, 10, 11, 12, 13, 14, 15, 16, 17, 18, 19], [22, 24, 26], []), ([0, 1, 2, 3, 4, 5, 6, 7, 8, 9, 10, 11, 12, 13, 14, 15, 16, 17, 18, 19, 20], [22, 27], [])] rfl rfl rfl ?_ | refine call_x (impl_isNumber _) rfl ⟨rfl⟩ ?_ | refine call_x (impl_within _ _ _) rfl ⟨rfl⟩ ?_)) <;> (try simp (maxSteps := 1000000) (disch := first | omega | (simp only [LN, numOk, verOk, rfP, rvP, rhP, frP, elOk_en, elOk_nd, nfx_en, nfx_nd] <;> omega) | exact Ck.mk rfl) only [ee, VC, T, Nat.reduceMul, Nat.reduceAdd, Nat.reduceSub, Nat.reduceLT, Nat.reduceEqDiff, Nat.reduceLeDiff, Nat.reduceBEq, reduceCtorEq, Int.reduceToNat, ↓reduceIte, rfP, rvP, rhP, frP, elOk_en, elOk_nd, nfx_en, nfx_nd]) <;> (try clear ee))
end Go.Pv

/- What functions of the program and of the reference do, in plain values. -/
namespace Go.Pv
open Go.Proofs Go.Mth
set_option linter.unusedSimpArgs false
set_option linter.unusedVariables false
set_option maxHeartbeats 4000000
set_option maxRecDepth 4000

/-! ### the program's deeds on disks -/
theorem nodeP_has {d : Dk} {n : ByteArray} (h : hasT d.2.1 n) : nodeP d n = nodeI d.1 (entT d.2.1 n) := by
  unfold hasT at h
  unfold nodeP entT
  rw [if_neg (by omega), if_neg (by omega)]
theorem nodeP_not {d : Dk} {n : ByteArray} (h : ¬ hasT d.2.1 n) : nodeP d n = -1 := by
  unfold hasT at h
  unfold nodeP
  rw [if_pos (by omega)]
theorem impl_SyncFile_W (d : Dk) (n : ByteArray) (h : DkW d) : FnE Tryz.prog 44 [dkP d, .str n] [] (fun r m => r = .tup [dkR 64 (syncT d n).1, .int .i64 (syncT d n).2] ∧ m = dkH (syncT d n).1) := by
  have hes := h.es
  have hss := h.ss
  have hns := h.ns
  have hos := h.os
  have hc := impl_copyDisk_R d h
  have hO := impl_DiskOk d h
  have hA := impl_nodeAt d n h
  have e1 : ¬ diskOk d → syncT d n = (d, 3) := fun a => if_pos (.inl a)
  have e2 : ¬ hasT d.2.1 n → syncT d n = (d, 3) := fun a => if_pos (.inr a)
  by_cases a1 : diskOk d
  · rw [decide_eq_true a1] at hO
    by_cases a2 : hasT d.2.1 n
    · obtain ⟨t1, t2⟩ := node_there a1 a2
      have e3 : syncT d n = (setNd d (nodeI d.1 (entT d.2.1 n)).toNat ((d.1.getD (nodeI d.1 (entT d.2.1 n)).toNat default).1, (d.1.getD (nodeI d.1 (entT d.2.1 n)).toNat default).2.1, (d.1.getD (nodeI d.1 (entT d.2.1 n)).toNat default).2.1.size), 0) := if_neg (by simp [a1, a2])
      obtain ⟨k, hk⟩ : ∃ k : Nat, nodeI d.1 (entT d.2.1 n) = k := ⟨_, (Int.toNat_of_nonneg t1).symm⟩
      rw [nodeP_has a2, hk] at hA
      rw [hk] at t1 t2 e3
      rw [Int.toNat_natCast] at e3
      have hg : (d.1.map ndP).getD k .junk = .agg [.int .i64 (d.1.getD k default).1, .str (d.1.getD k default).2.1, .int .i64 (d.1.getD k default).2.2] := by
        rw [List.getD_eq_getElem?_getD, List.getElem?_map, List.getElem?_eq_getElem (by omega), List.getD_eq_getElem?_getD, List.getElem?_eq_getElem (by omega)]; rfl
      have hu : ∀ a b c z : PV, upd (.agg [a, b, c]) 2 [z] = .agg [a, b, z] := fun _ _ _ _ => rfl
      have hset : (d.1.map ndP).set k (.agg [.int .i64 (d.1.getD k default).1, .str (d.1.getD k default).2.1, .int .i64 (d.1.getD k default).2.1.size]) = (d.1.set k ((d.1.getD k default).1, (d.1.getD k default).2.1, (d.1.getD k default).2.1.size)).map ndP := by rw [List.map_set]; rfl
      have hz := nd_leW h k
      rw [e3]
      unfold setNd dkP dkR dkH at *
      refine fn_e tok (n := 34) (rs := [.cell 4 35, .tmp 5]) Tryz.func44 (by decide) rfl rfl rfl rfl (low_of rfl) ?_
      refine Wr.go ?_
      repeat' ((first | (have ee := True.intro; refine Wr.mk ?_) | ((first | refine br_go ?_ ?_ | refine pick_go ?_ ?_) <;> intro ee f <;> (try simp only [BB] at f) <;> (try simp only [numOk, verOk] at f)) | (have ee := True.intro; first | refine dr_go mixed (id := 5) [([], [6], []), ([0], [21], []), ([], [7], []), ([], [6], []), ([3], [24], []), ([], [7], []), ([3, 4, 5], [25, 26], []), ([3, 4, 5, 6], [27], []), ([3, 4, 5, 6, 7], [28], []), ([3, 4, 5, 6, 7, 8], [29], []), ([0, 1, 2, 3, 4, 5, 6, 7, 8, 9], [22, 23], []), ([0, 1, 2, 3, 4, 5, 6, 7, 8, 9, 10], [31], []), ([0, 1, 2, 3, 4, 5, 6, 7, 8, 9, 10, 11], [30, 32], [])] rfl rfl rfl ?_ | (refine call_h [] [] (hc) (by decide) rfl rfl ?_; rintro _ _ ⟨rfl, rfl⟩) | refine call_x (hA) rfl ⟨rfl⟩ ?_ | refine call_x (hO) rfl ⟨rfl⟩ ?_)) <;> (try simp (maxSteps := 1000000) (disch := first | omega | (simp only [LN, numOk, verOk, rfP, rvP, rhP, frP, elOk_en, elOk_nd, nfx_en, nfx_nd, hg, hu, hset] <;> omega) | exact Ck.mk rfl) only [ee, VC, T, Nat.reduceMul, Nat.reduceAdd, Nat.reduceSub, Nat.reduceLT, Nat.reduceEqDiff, Nat.reduceLeDiff, Nat.reduceBEq, reduceCtorEq, Int.reduceToNat, ↓reduceIte, rfP, rvP, rhP, frP, elOk_en, elOk_nd, nfx_en, nfx_nd, hg, hu, hset]) <;> (try clear ee))
      exact fin_t [some 640, some 641, some 642, some 643] (⟨rfl, rfl⟩) rfl (by simp [RV, RV2, RVl, RV1, tau, tget, hget, data1, oneOf, List.length_set]) (by simp [RH, RVl, RV1, tau, hget, data1, List.length_set]) (by simp [Taus, hget, List.length_set])
    · rw [nodeP_not a2] at hA
      rw [e2 a2]
      unfold dkP dkR dkH at *
      refine fn_e tok (n := 34) (rs := [.cell 4 35, .tmp 5]) Tryz.func44 (by decide) rfl rfl rfl rfl (low_of rfl) ?_
      refine Wr.go ?_
      repeat' ((first | (have ee := True.intro; refine Wr.mk ?_) | ((first | refine br_go ?_ ?_ | refine pick_go ?_ ?_) <;> intro ee f <;> (try simp only [BB] at f) <;> (try simp only [numOk, verOk] at f)) | (have ee := True.intro; first | refine dr_go mixed (id := 5) [([], [6], []), ([0], [21], []), ([], [7], []), ([], [6], []), ([3], [24], []), ([], [7], []), ([3, 4, 5], [25, 26], []), ([3, 4, 5, 6], [27], []), ([3, 4, 5, 6, 7], [28], []), ([3, 4, 5, 6, 7, 8], [29], []), ([0, 1, 2, 3, 4, 5, 6, 7, 8, 9], [22, 23], []), ([0, 1, 2, 3, 4, 5, 6, 7, 8, 9, 10], [31], []), ([0, 1, 2, 3, 4, 5, 6, 7, 8, 9, 10, 11], [30, 32], [])] rfl rfl rfl ?_ | (refine call_h [] [] (hc) (by decide) rfl rfl ?_; rintro _ _ ⟨rfl, rfl⟩) | refine call_x (hA) rfl ⟨rfl⟩ ?_ | refine call_x (hO) rfl ⟨rfl⟩ ?_)) <;> (try simp (maxSteps := 1000000) (disch := first | omega | (simp only [LN, numOk, verOk, rfP, rvP, rhP, frP, elOk_en, elOk_nd, nfx_en, nfx_nd] <;> omega) | exact Ck.mk rfl) only [ee, VC, T, Nat.reduceMul, Nat.reduceAdd, Nat.reduceSub, Nat.reduceLT, Nat.reduceEqDiff, Nat.reduceLeDiff, Nat.reduceBEq, reduceCtorEq, Int.reduceToNat, ↓reduceIte, rfP, rvP, rhP, frP, elOk_en, elOk_nd, nfx_en, nfx_nd]) <;> (try clear ee))
      exact fin_t [some 640, some 641, some 642, some 643] (⟨rfl, rfl⟩) rfl (by simp [RV, RV2, RVl, RV1, tau, tget, hget, data1, oneOf]) (by simp [RH, RVl, RV1, tau, hget, data1]) (by simp [Taus, hget])
  · rw [decide_eq_false a1] at hO
    rw [e1 a1]
    unfold dkP dkR dkH at *
    refine fn_e tok (n := 34) (rs := [.cell 4 35, .tmp 5]) Tryz.func44 (by decide) rfl rfl rfl rfl (low_of rfl) ?_
    refine Wr.go ?_
    repeat' ((first | (have ee := True.intro; refine Wr.mk ?_) | ((first | refine br_go ?_ ?_ | refine pick_go ?_ ?_) <;> intro ee f <;> (try simp only [BB] at f) <;> (try simp only [numOk, verOk] at f)) | (have ee := True.intro; first | refine dr_go mixed (id := 5) [([], [6], []), ([0], [21], []), ([], [7], []), ([], [6], []), ([3], [24], []), ([], [7], []), ([3, 4, 5], [25, 26], []), ([3, 4, 5, 6], [27], []), ([3, 4, 5, 6, 7], [28], []), ([3, 4, 5, 6, 7, 8], [29], []), ([0, 1, 2, 3, 4, 5, 6, 7, 8, 9], [22, 23], []), ([0, 1, 2, 3, 4, 5, 6, 7, 8, 9, 10], [31], []), ([0, 1, 2, 3, 4, 5, 6, 7, 8, 9, 10, 11], [30, 32], [])] rfl rfl rfl ?_ | (refine call_h [] [] (hc) (by decide) rfl rfl ?_; rintro _ _ ⟨rfl, rfl⟩) | refine call_x (hA) rfl ⟨rfl⟩ ?_ | refine call_x (hO) rfl ⟨rfl⟩ ?_)) <;> (try simp (maxSteps := 1000000) (disch := first | omega | (simp only [LN, numOk, verOk, rfP, rvP, rhP, frP, elOk_en, elOk_nd, nfx_en, nfx_nd] <;> omega) | exact Ck.mk rfl) only [ee, VC, T, Nat.reduceMul, Nat.reduceAdd, Nat.reduceSub, Nat.reduceLT, Nat.reduceEqDiff, Nat.reduceLeDiff, Nat.reduceBEq, reduceCtorEq, Int.reduceToNat, ↓reduceIte, rfP, rvP, rhP, frP, elOk_en, elOk_nd, nfx_en, nfx_nd]) <;> (try clear ee))
    exact fin_t [some 640, some 641, some 642, some 643] (⟨rfl, rfl⟩) rfl (by simp [RV, RV2, RVl, RV1, tau, tget, hget, data1, oneOf]) (by simp [RH, RVl, RV1, tau, hget, data1]) (by simp [Taus, hget])
end Go.Pv

/- What functions of the program and of the reference do, in plain values. -/
namespace Go.Pv
open Go.Proofs Go.Mth
set_option linter.unusedSimpArgs false
set_option linter.unusedVariables false
set_option maxHeartbeats 4000000
set_option maxRecDepth 4000

/-- The disk behind LogSync. -/
def lsT (d : Dk) (w : Wt) : Dk := if w.2.2.2.2.2.2.2.1 = true then (syncT d (segT w.2.2.2.1)).1 else d
theorem spec_LogSync_R (d : Dk) (w : Wt) (h : DkW d) (hb : i64 w.2.2.2.1) : FnE Tryz.prog 17 [dkP d, wrP w] [] (fun r m => r = .tup [dkR 64 (lsT d w), .int .i64 w.2.2.2.2.2.2.2.2] ∧ m = dkH (lsT d w)) := by
  obtain ⟨a, b, c, e, l, L, g, o, k⟩ := w
  simp only at hb ⊢
  have hc := spec_l05Copy_R d h
  have hS := spec_SegmentName e hb
  have hY := spec_SyncFile_W d (segT e) h
  unfold lsT
  simp only
  have hes := h.es
  have hss := h.ss
  have hns := h.ns
  have hos := h.os
  cases o with
  | true =>
    rw [if_pos rfl]
    generalize segT e = nm at *
    generalize (syncT d nm) = q at *
    obtain ⟨D, cd⟩ := q
    simp only at *
    unfold dkP dkR dkH wrP at *
    refine fn_e tok (n := 21) (rs := [.cell 4 35, .tmp 5]) Tryz.func17 (by decide) rfl rfl rfl rfl (low_of rfl) ?_
    refine Wr.go ?_
    repeat' ((first | (have ee := True.intro; refine Wr.mk ?_) | ((first | refine br_go ?_ ?_ | refine pick_go ?_ ?_) <;> intro ee f <;> (try simp only [BB] at f) <;> (try simp only [numOk, verOk] at f)) | (have ee := True.intro; first | refine dr_go mixed (id := 3) [([], [2], []), ([], [3], []), ([1], [12], []), ([1, 2], [13], []), ([0, 1, 2, 3], [11, 14], []), ([0, 1, 2, 3, 4], [15], []), ([0, 1, 2, 3, 4, 5], [10], []), ([0, 1, 2, 3, 4, 5], [10], [192]), ([0, 1, 2, 3, 4, 5, 6], [2, 16], [])] rfl rfl rfl ?_ | refine dr_go mixed (id := 4) [([], [2], []), ([], [3], [320]), ([1], [19], [320]), ([0], [4, 18], []), ([0, 1, 2, 3], [20], [])] rfl rfl rfl ?_ | (refine call_h [] [] (hc) (by decide) rfl rfl ?_; rintro _ _ ⟨rfl, rfl⟩) | refine call_x (hS) rfl ⟨rfl⟩ ?_ | (refine call_h [] [512,513,514,515] (hY) (by decide) ?_ rfl ?_; (focus (first | rfl | (simp (maxSteps := 1000000) (disch := first | omega | (simp only [LN, numOk, verOk, rfP, rvP, rhP, frP, elOk_en, elOk_nd, nfx_en, nfx_nd] <;> omega) | exact Ck.mk rfl) only [VC, T, Nat.reduceMul, Nat.reduceAdd, Nat.reduceSub, Nat.reduceLT, Nat.reduceEqDiff, Nat.reduceLeDiff, Nat.reduceBEq, reduceCtorEq, Int.reduceToNat, ↓reduceIte, rfP, rvP, rhP, frP, elOk_en, elOk_nd, nfx_en, nfx_nd]; done))); rintro _ _ ⟨rfl, rfl⟩))) <;> (try simp (maxSteps := 1000000) (disch := first | omega | (simp only [LN, numOk, verOk, rfP, rvP, rhP, frP, elOk_en, elOk_nd, nfx_en, nfx_nd] <;> omega) | exact Ck.mk rfl) only [ee, VC, T, Nat.reduceMul, Nat.reduceAdd, Nat.reduceSub, Nat.reduceLT, Nat.reduceEqDiff, Nat.reduceLeDiff, Nat.reduceBEq, reduceCtorEq, Int.reduceToNat, ↓reduceIte, rfP, rvP, rhP, frP, elOk_en, elOk_nd, nfx_en, nfx_nd]) <;> (try clear ee))
    exact fin_t [some 1024, some 1025, some 1026, some 1027] (⟨rfl, rfl⟩) rfl (by simp [RV, RV2, RVl, RV1, tau, tget, hget, data1, oneOf]) (by simp [RH, RVl, RV1, tau, hget, data1]) (by simp [Taus, hget])
  | false =>
    rw [if_neg (by decide)]
    unfold dkP dkR dkH wrP at *
    refine fn_e tok (n := 21) (rs := [.cell 4 35, .tmp 5]) Tryz.func17 (by decide) rfl rfl rfl rfl (low_of rfl) ?_
    refine Wr.go ?_
    repeat' ((first | (have ee := True.intro; refine Wr.mk ?_) | ((first | refine br_go ?_ ?_ | refine pick_go ?_ ?_) <;> intro ee f <;> (try simp only [BB] at f) <;> (try simp only [numOk, verOk] at f)) | (have ee := True.intro; first | refine dr_go mixed (id := 4) [([], [2], []), ([], [3], [320]), ([1], [19], [320]), ([0], [4, 18], []), ([0, 1, 2, 3], [20], [])] rfl rfl rfl ?_ | (refine call_h [] [] (hc) (by decide) rfl rfl ?_; rintro _ _ ⟨rfl, rfl⟩))) <;> (try simp (maxSteps := 1000000) (disch := first | omega | (simp only [LN, numOk, verOk, rfP, rvP, rhP, frP, elOk_en, elOk_nd, nfx_en, nfx_nd] <;> omega) | exact Ck.mk rfl) only [ee, VC, T, Nat.reduceMul, Nat.reduceAdd, Nat.reduceSub, Nat.reduceLT, Nat.reduceEqDiff, Nat.reduceLeDiff, Nat.reduceBEq, reduceCtorEq, Int.reduceToNat, ↓reduceIte, rfP, rvP, rhP, frP, elOk_en, elOk_nd, nfx_en, nfx_nd]) <;> (try clear ee))
    exact fin_t [some 512, some 513, some 514, some 515] (⟨rfl, rfl⟩) rfl (by simp [RV, RV2, RVl, RV1, tau, tget, hget, data1, oneOf]) (by simp [RH, RVl, RV1, tau, hget, data1]) (by simp [Taus, hget])
theorem impl_LogSync_R (d : Dk) (w : Wt) (h : DkW d) (hb : i64 w.2.2.2.1) : FnE Tryz.prog 18 [dkP d, wrP w] [] (fun r m => r = .tup [dkR 64 (lsT d w), .int .i64 w.2.2.2.2.2.2.2.2] ∧ m = dkH (lsT d w)) := by
  obtain ⟨a, b, c, e, l, L, g, o, k⟩ := w
  simp only at hb ⊢
  have hc := impl_copyDisk_R d h
  have hS := impl_SegmentName e hb
  have hY := impl_SyncFile_W d (segT e) h
  unfold lsT
  simp only
  have hes := h.es
  have hss := h.ss
  have hns := h.ns
  have hos := h.os
  cases o with
  | true =>
    rw [if_pos rfl]
    generalize segT e = nm at *
    generalize (syncT d nm) = q at *
    obtain ⟨D, cd⟩ := q
    simp only at *
    unfold dkP dkR dkH wrP at *
    refine fn_e tok (n := 22) (rs := [.cell 4 35, .tmp 5]) Tryz.func18 (by decide) rfl rfl rfl rfl (low_of rfl) ?_
    refine Wr.go ?_
    repeat' ((first | (have ee := True.intro; refine Wr.mk ?_) | ((first | refine br_go ?_ ?_ | refine pick_go ?_ ?_) <;> intro ee f <;> (try simp only [BB] at f) <;> (try simp only [numOk, verOk] at f)) | (have ee := True.intro; first | refine dr_go mixed (id := 3) [([], [2], []), ([], [3], []), ([1], [13], []), ([1, 2], [14], []), ([0, 1, 2, 3], [12, 15], []), ([0, 1, 2, 3, 4], [16], []), ([0, 1, 2, 3, 4, 5], [11], []), ([0, 1, 2, 3, 4, 5], [11], [448]), ([0, 1, 2, 3, 4, 5, 6], [6, 17], [])] rfl rfl rfl ?_ | refine dr_go mixed (id := 4) [([], [6], []), ([], [3], [320]), ([1], [20], [320]), ([0], [4, 19], []), ([0, 1, 2, 3], [21], [])] rfl rfl rfl ?_ | (refine call_h [] [] (hc) (by decide) rfl rfl ?_; rintro _ _ ⟨rfl, rfl⟩) | refine call_x (hS) rfl ⟨rfl⟩ ?_ | (refine call_h [] [] (hY) (by decide) rfl rfl ?_; rintro _ _ ⟨rfl, rfl⟩))) <;> (try simp (maxSteps := 1000000) (disch := first | omega | (simp only [LN, numOk, verOk, rfP, rvP, rhP, frP, elOk_en, elOk_nd, nfx_en, nfx_nd] <;> omega) | exact Ck.mk rfl) only [ee, VC, T, Nat.reduceMul, Nat.reduceAdd, Nat.reduceSub, Nat.reduceLT, Nat.reduceEqDiff, Nat.reduceLeDiff, Nat.reduceBEq, reduceCtorEq, Int.reduceToNat, ↓reduceIte, rfP, rvP, rhP, frP, elOk_en, elOk_nd, nfx_en, nfx_nd]) <;> (try clear ee))
    exact fin_t [some 1088, some 1089, some 1090, some 1091] (⟨rfl, rfl⟩) rfl (by simp [RV, RV2, RVl, RV1, tau, tget, hget, data1, oneOf]) (by simp [RH, RVl, RV1, tau, hget, data1]) (by simp [Taus, hget])
  | false =>
    rw [if_neg (by decide)]
    unfold dkP dkR dkH wrP at *
    refine fn_e tok (n := 22) (rs := [.cell 4 35, .tmp 5]) Tryz.func18 (by decide) rfl rfl rfl rfl (low_of rfl) ?_
    refine Wr.go ?_
    repeat' ((first | (have ee := True.intro; refine Wr.mk ?_) | ((first | refine br_go ?_ ?_ | refine pick_go ?_ ?_) <;> intro ee f <;> (try simp only [BB] at f) <;> (try simp only [numOk, verOk] at f)) | (have ee := True.intro; first | refine dr_go mixed (id := 4) [([], [6], []), ([], [3], [320]), ([1], [20], [320]), ([0], [4, 19], []), ([0, 1, 2, 3], [21], [])] rfl rfl rfl ?_ | (refine call_h [] [] (hc) (by decide) rfl rfl ?_; rintro _ _ ⟨rfl, rfl⟩))) <;> (try simp (maxSteps := 1000000) (disch := first | omega | (simp only [LN, numOk, verOk, rfP, rvP, rhP, frP, elOk_en, elOk_nd, nfx_en, nfx_nd] <;> omega) | exact Ck.mk rfl) only [ee, VC, T, Nat.reduceMul, Nat.reduceAdd, Nat.reduceSub, Nat.reduceLT, Nat.reduceEqDiff, Nat.reduceLeDiff, Nat.reduceBEq, reduceCtorEq, Int.reduceToNat, ↓reduceIte, rfP, rvP, rhP, frP, elOk_en, elOk_nd, nfx_en, nfx_nd]) <;> (try clear ee))
    exact fin_t [some 576, some 577, some 578, some 579] (⟨rfl, rfl⟩) rfl (by simp [RV, RV2, RVl, RV1, tau, tget, hget, data1, oneOf]) (by simp [RH, RVl, RV1, tau, hget, data1]) (by simp [Taus, hget])
theorem lsT_W {d : Dk} (h : DkW d) (w : Wt) : DkW (lsT d w) := by
  unfold lsT
  split
  · exact syncT_W h _
  · exact h
theorem spec_LogSync (d : Dk) (w : Wt) (h : DkW d) (hb : i64 w.2.2.2.1) : Fn Tryz.prog 17 [dkP d, wrP w] [] (.tup [dkP (lsT d w), .int .i64 w.2.2.2.2.2.2.2.2]) [] := by
  obtain ⟨_, _, ⟨rfl, rfl⟩, k⟩ := spec_LogSync_R d w h hb
  refine k.far ?_
  simp [fz, fz2, fz1, cvtl, elems, dkR, dkH, dkP, hget, data1]
theorem impl_LogSync (d : Dk) (w : Wt) (h : DkW d) (hb : i64 w.2.2.2.1) : Fn Tryz.prog 18 [dkP d, wrP w] [] (.tup [dkP (lsT d w), .int .i64 w.2.2.2.2.2.2.2.2]) [] := by
  obtain ⟨_, _, ⟨rfl, rfl⟩, k⟩ := impl_LogSync_R d w h hb
  refine k.far ?_
  simp [fz, fz2, fz1, cvtl, elems, dkR, dkH, dkP, hget, data1]
end Go.Pv

/- What functions of the program and of the reference do, in plain values. -/
namespace Go.Pv
open Go.Proofs Go.Mth
set_option linter.unusedSimpArgs false
set_option linter.unusedVariables false
set_option maxHeartbeats 4000000
set_option maxRecDepth 4000

/-! ### the law of LogSync -/
def WtIn (w : Wt) : Prop := i64 w.1 ∧ i64 w.2.1 ∧ i64 w.2.2.1 ∧ i64 w.2.2.2.1 ∧ i64 w.2.2.2.2.1 ∧ (w.2.2.2.2.2.1.length ≤ 9223372036854775807 ∧ ∀ a ∈ w.2.2.2.2.2.1, i64 a) ∧ i64 w.2.2.2.2.2.2.1 ∧ True ∧ i64 w.2.2.2.2.2.2.2.2
set_option maxRecDepth 20000 in
theorem law_FnExactLogSync (d : Dk) (w : Wt) (h : DkIn d) (hw : WtIn w) : Fn Tryz.prog 4 [dkP d, wrP w] [] (.bool true) [] := by
  have hz := sz_disk d h
  have hzw := fun m hm => laws_szWriter w m hm hw.2.2.2.2.2.1.1
  have hS := fun hd => spec_LogSync d w hd hw.2.2.2.1
  have hI := fun hd => impl_LogSync d w hd hw.2.2.2.1
  have hIR := fun hd => impl_LogSync_R d w hd hw.2.2.2.1
  have hDW : DkW d → DkW (lsT d w) := fun hd => lsT_W hd w
  have hT := fun hd => laws_toDisk d hd
  have hTR := fun hd => laws_toDisk_R d hd
  have hE := fun hd => laws_eqDisk_W d d hd
  have hM := fun hd => laws_markDisk_W d 1 hd (by decide) 0 0 0 0
  have hV := fun hl => laws_toWriter w hl
  have hVR := fun hl => laws_toWriter_R w hl
  have hEV := fun hl => laws_eqWriter w w hl
  have hMV := fun k hl hk => laws_markWriter w k hl hk 0
  generalize lsT d w = D at *
  have hE2 := fun hd => laws_eqDisk_W D D hd
  have hM2 := fun hd => laws_markDisk_W D 1 hd (by decide) 0 0 0 0
  have hH2 := fun h1 h2 h3 h4 => laws_heldDisk D.1.length D.2.1.length D.2.2.1.length D.2.2.2.1.length 1 D.2.2.2.2.1 D.2.2.2.2.2 h1 h2 h3 h4 (by decide)
  clear h hw
  obtain ⟨a, b, c, e, l, L, g, o, cd⟩ := w
  simp only at hz hzw hS hI hIR hV hVR hEV hMV
  unfold mkDk at hH2
  unfold dkP dkR dkH wrP wrR at *
  refine fn_x tok (n := 119) (rs := [.tmp 4]) Tryz.func4 (by decide) rfl rfl rfl rfl ?_
  refine Wr.go ?_
  repeat' ((first | (have ee := True.intro; refine Wr.mk ?_) | ((first | refine br_go ?_ ?_ | refine pick_go ?_ ?_) <;> intro ee f <;> (try simp only [BB] at f) <;> (try simp only [numOk, verOk] at f)) | (have ee := True.intro; first | (refine call_v hz rfl ?_; rintro _ ⟨m, rfl, hm1, hm2, hm3⟩; refine ⟨⟨rfl⟩, ?_⟩))) <;> (try simp (maxSteps := 1000000) (disch := first | omega | (simp only [LN, numOk, verOk, dkP, dkR, dkH, beq_self_eq_true, bkd] <;> omega) | exact Ck.mk rfl) only [ee, VC, T, Nat.reduceMul, Nat.reduceAdd, Nat.reduceSub, Nat.reduceLT, Nat.reduceEqDiff, Nat.reduceLeDiff, Nat.reduceBEq, reduceCtorEq, Int.reduceToNat, ↓reduceIte, dkP, dkR, dkH, beq_self_eq_true, bkd]) <;> (try clear ee))
  have hd := hm1 (by omega)
  have hzw := hzw m (by omega)
  clear hz hm1
  refine Wr.go ?_
  repeat' ((first | (have ee := True.intro; refine Wr.mk ?_) | ((first | refine br_go ?_ ?_ | refine pick_go ?_ ?_) <;> intro ee f <;> (try simp only [BB] at f) <;> (try simp only [numOk, verOk] at f)) | (have ee := True.intro; first | (refine call_v hzw rfl ?_; rintro _ ⟨m2, rfl, hn1, hn2, hn3⟩; refine ⟨⟨rfl⟩, ?_⟩))) <;> (try simp (maxSteps := 1000000) (disch := first | omega | (simp only [LN, numOk, verOk, dkP, dkR, dkH, beq_self_eq_true, bkd] <;> omega) | exact Ck.mk rfl) only [ee, VC, T, Nat.reduceMul, Nat.reduceAdd, Nat.reduceSub, Nat.reduceLT, Nat.reduceEqDiff, Nat.reduceLeDiff, Nat.reduceBEq, reduceCtorEq, Int.reduceToNat, ↓reduceIte, dkP, dkR, dkH, beq_self_eq_true, bkd]) <;> (try clear ee))
  have hl := hn1 (by omega)
  have hT := hT hd
  have hTR := hTR hd
  have hV := hV hl
  have hVR := hVR hl
  have hEV := hEV hl
  have hMV := fun k hk => hMV k hl hk
  have hd := hd.w
  have hS := hS hd
  have hI := hI hd
  have hIR := hIR hd
  have hDW := hDW hd
  have hE := hE hd
  have hM := hM hd
  have hE2 := hE2 hDW
  have hM2 := hM2 hDW
  have b1 := hd.ns
  have b2 := hd.es
  have b3 := hd.os
  have b4 := hd.ss
  have c1 := hDW.ns
  have c2 := hDW.es
  have c3 := hDW.os
  have c4 := hDW.ss
  have hH2 := hH2 c1 c2 c3 c4
  clear hn1 hzw hd hDW
  have hq := seqL_length D.1.length 0
  refine Wr.go ?_
  repeat' ((first | (have ee := True.intro; refine Wr.mk ?_) | ((first | refine br_go ?_ ?_ | refine pick_go ?_ ?_) <;> intro ee f <;> (try simp only [BB] at f) <;> (try simp only [numOk, verOk] at f)) | (have ee := True.intro; first | refine dr_go mixed (id := 8) [([], [2], []), ([0], [28], []), ([], [3], []), ([0, 1, 2], [30], []), ([0, 1, 2, 3], [29, 31], []), ([0, 1, 2, 3, 4], [32], []), ([0, 1, 2, 3, 4, 5], [27], []), ([0, 1, 2, 3, 4, 5], [27], []), ([], [], []), ([0, 1, 2, 3, 4, 5, 6, 8], [6, 33], []), ([0, 1, 2, 3, 4, 5, 6, 7, 8, 9], [34], [])] rfl rfl rfl ?_ | refine dr_go mixed (id := 14) [([], [8], []), ([], [2], []), ([1], [55], []), ([0, 1, 2], [54, 56], []), ([0, 1, 2, 3], [57], [])] rfl rfl rfl ?_ | refine dr_go mixed (id := 16) [([], [9], []), ([], [3], []), ([1], [60], []), ([0, 1, 2], [59, 61], []), ([0, 1, 2, 3], [62], [])] rfl rfl rfl ?_ | refine dr_go mixed (id := 31) [([], [2], []), ([0], [95], []), ([], [3], []), ([0, 1, 2], [97], []), ([0, 1, 2, 3], [96, 98], []), ([0, 1, 2, 3, 4], [99], []), ([0, 1, 2, 3, 4, 5], [94], []), ([0, 1, 2, 3, 4, 5], [94], []), ([], [], []), ([0, 1, 2, 3, 4, 5, 6, 8], [15, 100], []), ([0, 1, 2, 3, 4, 5, 6, 7, 8, 9], [101], [])] rfl rfl rfl ?_ | (refine call_h (key := 2368) [] [] (hTR) (by decide) rfl rfl ?_; rintro _ _ ⟨rfl, rfl⟩) | (refine call_h (key := 2496) [] [] (hVR) (by decide) rfl rfl ?_; rintro _ _ ⟨rfl, rfl⟩) | refine call_x (hT) rfl ⟨rfl⟩ ?_ | refine call_x (hV) rfl ⟨rfl⟩ ?_ | refine call_x (hS) rfl ⟨rfl⟩ ?_ | refine call_x (hI) rfl ⟨rfl⟩ ?_ | refine call_x (hE2) rfl ⟨rfl⟩ ?_ | (refine call_h [] [2368,2369,2370,2371,2496] (hIR) (by decide) ?_ rfl ?_; (focus (first | rfl | (simp (maxSteps := 1000000) (disch := first | omega | (simp only [LN, numOk, verOk, dkP, dkR, dkH, beq_self_eq_true, bkd, seqL_length, List.length_map, nfx_en, nfx_nd, elOk_en, elOk_nd] <;> omega) | exact Ck.mk rfl) only [VC, T, Nat.reduceMul, Nat.reduceAdd, Nat.reduceSub, Nat.reduceLT, Nat.reduceEqDiff, Nat.reduceLeDiff, Nat.reduceBEq, reduceCtorEq, Int.reduceToNat, ↓reduceIte, dkP, dkR, dkH, beq_self_eq_true, bkd, seqL_length, List.length_map, nfx_en, nfx_nd, elOk_en, elOk_nd]; done))); rintro _ _ ⟨rfl, rfl⟩) | (refine call_hx [] [2752,2753,2754,2755] (hE2) (by decide) ?_ rfl ?_; (focus (first | rfl | (simp (maxSteps := 1000000) (disch := first | omega | (simp only [LN, numOk, verOk, dkP, dkR, dkH, beq_self_eq_true, bkd, seqL_length, List.length_map, nfx_en, nfx_nd, elOk_en, elOk_nd] <;> omega) | exact Ck.mk rfl) only [VC, T, Nat.reduceMul, Nat.reduceAdd, Nat.reduceSub, Nat.reduceLT, Nat.reduceEqDiff, Nat.reduceLeDiff, Nat.reduceBEq, reduceCtorEq, Int.reduceToNat, ↓reduceIte, dkP, dkR, dkH, beq_self_eq_true, bkd, seqL_length, List.length_map, nfx_en, nfx_nd, elOk_en, elOk_nd]; done)))) | (refine call_hx [] [2368,2369,2370,2371] (hE) (by decide) ?_ rfl ?_; (focus (first | rfl | (simp (maxSteps := 1000000) (disch := first | omega | (simp only [LN, numOk, verOk, dkP, dkR, dkH, beq_self_eq_true, bkd, seqL_length, List.length_map, nfx_en, nfx_nd, elOk_en, elOk_nd] <;> omega) | exact Ck.mk rfl) only [VC, T, Nat.reduceMul, Nat.reduceAdd, Nat.reduceSub, Nat.reduceLT, Nat.reduceEqDiff, Nat.reduceLeDiff, Nat.reduceBEq, reduceCtorEq, Int.reduceToNat, ↓reduceIte, dkP, dkR, dkH, beq_self_eq_true, bkd, seqL_length, List.length_map, nfx_en, nfx_nd, elOk_en, elOk_nd]; done)))) | (refine call_hx [] [2496] (hEV) (by decide) ?_ rfl ?_; (focus (first | rfl | (simp (maxSteps := 1000000) (disch := first | omega | (simp only [LN, numOk, verOk, dkP, dkR, dkH, beq_self_eq_true, bkd, seqL_length, List.length_map, nfx_en, nfx_nd, elOk_en, elOk_nd] <;> omega) | exact Ck.mk rfl) only [VC, T, Nat.reduceMul, Nat.reduceAdd, Nat.reduceSub, Nat.reduceLT, Nat.reduceEqDiff, Nat.reduceLeDiff, Nat.reduceBEq, reduceCtorEq, Int.reduceToNat, ↓reduceIte, dkP, dkR, dkH, beq_self_eq_true, bkd, seqL_length, List.length_map, nfx_en, nfx_nd, elOk_en, elOk_nd]; done)))) | (refine call_h [2368,2369,2370,2371] [] (hM) (by decide) rfl rfl ?_; rintro _ _ ⟨rfl, rfl⟩) | (refine call_h [2496] [] (hMV _ (by omega)) (by decide) rfl rfl ?_; rintro _ _ ⟨rfl, rfl⟩) | (refine call_h [2752,2753,2754,2755] [] (hM2) (by decide) rfl rfl ?_; rintro _ _ ⟨rfl, rfl⟩) | (refine call_hx [] [2752,2753,2754,2755] (hH2) (by decide) ?_ rfl ?_; (focus (first | rfl | (simp (maxSteps := 1000000) (disch := first | omega | (simp only [LN, numOk, verOk, dkP, dkR, dkH, beq_self_eq_true, bkd, seqL_length, List.length_map, nfx_en, nfx_nd, elOk_en, elOk_nd] <;> omega) | exact Ck.mk rfl) only [VC, T, Nat.reduceMul, Nat.reduceAdd, Nat.reduceSub, Nat.reduceLT, Nat.reduceEqDiff, Nat.reduceLeDiff, Nat.reduceBEq, reduceCtorEq, Int.reduceToNat, ↓reduceIte, dkP, dkR, dkH, beq_self_eq_true, bkd, seqL_length, List.length_map, nfx_en, nfx_nd, elOk_en, elOk_nd]; done)))))) <;> (try simp (maxSteps := 1000000) (disch := first | omega | (simp only [LN, numOk, verOk, dkP, dkR, dkH, beq_self_eq_true, bkd, seqL_length, List.length_map, nfx_en, nfx_nd, elOk_en, elOk_nd] <;> omega) | exact Ck.mk rfl) only [ee, VC, T, Nat.reduceMul, Nat.reduceAdd, Nat.reduceSub, Nat.reduceLT, Nat.reduceEqDiff, Nat.reduceLeDiff, Nat.reduceBEq, reduceCtorEq, Int.reduceToNat, ↓reduceIte, dkP, dkR, dkH, beq_self_eq_true, bkd, seqL_length, List.length_map, nfx_en, nfx_nd, elOk_en, elOk_nd]) <;> (try clear ee))
end Go.Pv

/- What a law's contract in plain values says of its walk. -/
namespace Go.Pv

variable {P : Program}
theorem kp_below {Γ : Nat → Value} {w w' : World} (h : Kp (Ow Γ []) w w') : Go.RowKit.Below w.heap.size w w' :=
  ⟨h.os, h.tape, h.output, h.size, fun k hk => h.block k hk fun ⟨_, l, _⟩ => l.elim⟩
/-- Nothing is handed over. -/
def No : Bl := fun _ => False
def Ga : Nat → Value := fun _ => .bool false
/-- The arguments of a law. -/
def Lay (w : World) (args : List PV) (vs : List Value) : Prop := vs.length = args.length ∧ ∀ (i : Nat) (x : PV) (v : Value), args[i]? = some x → vs[i]? = some v → DR w No x v
theorem lay_nil {w : World} : Lay w [] [] := ⟨rfl, fun _ _ _ h => by simp at h⟩
theorem lay_cons {w : World} {x : PV} {v : Value} {xs : List PV} {vs : List Value} (h : DR w No x v) (k : Lay w xs vs) : Lay w (x :: xs) (v :: vs) :=
  ⟨congrArg (· + 1) k.1, fun i y u h1 h2 => by
    cases i with
    | zero => simp at h1 h2; obtain rfl := h1; obtain rfl := h2; exact h
    | succ i => exact k.2 i y u (by simpa using h1) (by simpa using h2)⟩
theorem Fn.law {f : FuncId} {args : List PV} {vs : List Value} {w : World} {b : Bool} (h : Fn P f args [] (.bool b) []) (hg : Glo w No No) (hl : Lay w args vs) :
    Calls P f vs.toArray w fun e w' => e = .returned (.bool b) ∧ Go.RowKit.Below w.heap.size w w' := by
  have no : ∀ b, ¬ Av No Ga [] b := fun b hb => hb.elim id fun ⟨_, l, _⟩ => l
  refine (h.run w No Ga vs.toArray ⟨fun _ h => h.elim, fun g cs e => ⟨(hg g cs e).1, fun ⟨_, l, _⟩ => l, (hg g cs e).2.2⟩⟩ (by simpa using hl.1) (fun i x hx => ?_) (fun _ => trivial) fun _ _ _ l => l.elim).mono ?_
  · have hi : i < vs.length := by
      rw [hl.1]
      exact (List.getElem?_eq_some_iff.1 hx).1
    have e := hl.2 i x vs[i] hx (List.getElem?_eq_getElem hi)
    have g : vs.toArray.getD i undef = vs[i] := by simp [Array.getD, hi]
    rw [g]
    exact .data (e.step (fun _ _ _ => rfl) fun b _ hb => (no b hb).elim)
  · rintro e w' ⟨v, Γ', rfl, h1, h2, _⟩
    refine ⟨?_, kp_below h1⟩
    cases h2 with
    | data h => cases h; rfl
end Go.Pv

/- A law's arguments, opened: whole numbers, texts, slices and structs of them. -/
namespace Go.Pv
open Go.RowKit Go.WideShapes

section
variable {H : Type} {enc : TypeId × Value → H} {P : Program} {w : World} {α β : Type}

/-- What is read at type t, out of k cells, is 'f a', for an a of which R holds. -/
def Opn (enc : TypeId × Value → H) (P : Program) (w : World) (t : TypeId) (k : Nat) (f : α → PV) (R : α → Prop) : Prop :=
  ∀ (fuel : Nat) (cs : List Value) (d : DataW H × List MemPlace), DataW.trod enc P w 0 (fun _ => true) true fuel t cs = some d →
    cs.length = k ∧ ∃ a, R a ∧ (flat (f a)).length = k ∧ ∀ (j : Nat) (y : PV), (flat (f a))[j]? = some y → DR w No y (cs.getD j undef)
theorem one_dr {x : PV} {v : Value} (hx : flat x = [x]) (h : DR w No x v) : (flat x).length = 1 ∧ ∀ (j : Nat) (y : PV), (flat x)[j]? = some y → DR w No y ([v].getD j undef) := by
  rw [hx]
  refine ⟨rfl, fun j y hy => ?_⟩
  cases j with
  | zero => cases hy; exact h
  | succ j => simp at hy
theorem opn_int {t : TypeId} {k : IntKind} (ht : P.underlying t = some (.int k)) : Opn enc P w t 1 (PV.int k) (fun n => (Lit.int k n).wf = true) := fun fuel cs d h => by
  obtain ⟨n, rfl, _, hw⟩ := DataW.trod_int ht h
  exact ⟨rfl, n, hw, one_dr rfl (.int k n)⟩
theorem int_wf {n : Int} (h : (Lit.int .i64 n).wf = true) : -9223372036854775808 ≤ n ∧ n ≤ 9223372036854775807 := by
  simp only [Lit.wf, Bool.and_eq_true, decide_eq_true_eq] at h
  exact h
theorem opn_i64 {t : TypeId} (ht : P.underlying t = some (.int .i64)) : Opn enc P w t 1 (PV.int .i64) (fun n => -9223372036854775808 ≤ n ∧ n ≤ 9223372036854775807) := fun fuel cs d h => by
  obtain ⟨h1, a, h2, h3⟩ := opn_int ht fuel cs d h
  exact ⟨h1, a, int_wf h2, h3⟩
theorem opn_bool {t : TypeId} (ht : P.underlying t = some .bool) : Opn enc P w t 1 PV.bool (fun _ => True) := fun fuel cs d h => by
  obtain ⟨n, rfl, _⟩ := DataW.trod_bool ht h
  exact ⟨rfl, n, trivial, one_dr rfl (.bool n)⟩
theorem opn_str {t : TypeId} (ht : P.underlying t = some .string) : Opn enc P w t 1 PV.str (fun s => s.size ≤ 9223372036854775807) := fun fuel cs d h => by
  obtain ⟨s, rfl, _, hs⟩ := DataW.trod_string ht h
  exact ⟨rfl, s, hs, one_dr rfl (.str s)⟩
theorem all_list {Q : Nat → α → Prop} : ∀ (n : Nat), (∀ i, i < n → ∃ a, Q i a) → ∃ l : List α, l.length = n ∧ ∀ i a, l[i]? = some a → Q i a
  | 0, _ => ⟨[], rfl, fun i a h => by simp at h⟩
  | n + 1, h => by
    obtain ⟨l, h1, h2⟩ := all_list n fun i hi => h i (by omega)
    obtain ⟨a, ha⟩ := h n (by omega)
    refine ⟨l ++ [a], by simp [h1], fun i x hx => ?_⟩
    by_cases hi : i < l.length
    · rw [List.getElem?_append_left hi] at hx; exact h2 i x hx
    · rw [List.getElem?_append_right (by omega)] at hx
      by_cases e : i = l.length
      · subst e; rw [Nat.sub_self] at hx; cases hx; rw [h1]; exact ha
      · rw [show i - l.length = (i - l.length - 1) + 1 by omega] at hx; simp at hx
theorem opn_slice {t e : TypeId} {k : Nat} {f : α → PV} {R : α → Prop} (ht : P.underlying t = some (.slice e)) (hk : P.cellsOf e = k) (h0 : 0 < k) (he : Opn enc P w e k f R) :
    Opn enc P w t 1 (fun l : List α => .far (l.map f)) (fun l => l.length ≤ 9223372036854775807 ∧ ∀ a ∈ l, R a) := fun fuel cs d h => by
  rcases DataW.trod_slice ht h with ⟨rfl, _⟩ | ⟨a, len, cap, elems, rest, n, _, rfl, _, _, hl, hm, hlen, hel, _, _⟩
  · exact ⟨rfl, [], ⟨by simp, by simp⟩, one_dr rfl (.far0 _ _)⟩
  · refine ⟨rfl, ?_⟩
    rw [hk] at hel
    have each : ∀ i, i < len → ∃ x, R x ∧ (flat (f x)).length = k ∧ ∀ (j : Nat) (y : PV), (flat (f x))[j]? = some y → ∃ v, w.cell? ((a.add (i * k)).add j) = some v ∧ DR w No y v := fun i hi => by
      have h1 := hel i hi
      rw [List.getElem?_eq_getElem (by omega), Option.bind_eq_some_iff] at h1
      obtain ⟨cs, h2, h3⟩ := h1
      obtain ⟨h4, x, h5, h6, h7⟩ := he _ _ _ h3
      refine ⟨x, h5, h6, fun j y hy => ?_⟩
      have hj : j < k := by rw [← h6]; exact (List.getElem?_eq_some_iff.1 hy).1
      unfold World.cells? at h2
      rw [if_pos (Nat.zero_le _)] at h2
      have h8 := mapM_some_get h2 j j (by simp [hj])
      rw [List.getElem?_eq_getElem (by omega)] at h8
      refine ⟨_, h8, ?_⟩
      have := h7 j y hy
      rw [List.getD_eq_getElem?_getD, List.getElem?_eq_getElem (by omega)] at this
      exact this
    obtain ⟨l, h1, h2⟩ := all_list len each
    refine ⟨l, ⟨by rw [h1]; exact Nat.le_trans hl hm, fun x hx => ?_⟩, one_dr rfl ?_⟩
    · obtain ⟨i, hi⟩ := List.getElem?_of_mem hx
      exact (h2 i x hi).1
    · by_cases hz : len = 0
      · obtain rfl : l = [] := List.eq_nil_of_length_eq_zero (by omega)
        subst hz
        exact .far0 _ _
      · obtain ⟨β, o, spot⟩ := a
        have cell : ∀ (i : Nat) (x : α) (j : Nat) (y : PV), l[i]? = some x → (flat (f x))[j]? = some y → ∃ v, w.cell? ⟨β, o + i * k + j, if i * k = 0 ∧ j = 0 then spot else none⟩ = some v ∧ DR w No y v := fun i x j y hx hy => by
          obtain ⟨v, q1, q2⟩ := (h2 i x hx).2.2 j y hy
          refine ⟨v, ?_, q2⟩
          rw [← q1]
          unfold Addr.add
          by_cases e1 : i * k = 0 <;> by_cases e2 : j = 0 <;> simp [e1, e2]
        obtain ⟨x0, hx0⟩ : ∃ x, l[0]? = some x := ⟨l[0]'(by omega), List.getElem?_eq_getElem (by omega)⟩
        have hfl := (h2 0 x0 hx0).2.1
        obtain ⟨v, q1, _⟩ := cell 0 x0 0 ((flat (f x0))[0]'(by omega)) hx0 (List.getElem?_eq_getElem (by omega))
        simp only [Nat.zero_mul, true_and, and_self, if_true] at q1
        obtain ⟨c, t', fr, hw, hs⟩ : ∃ c t' fr, w.heap[β]? = some (.cells c t' fr) ∧ spot = none := by
          unfold World.cell? at q1
          split at q1
          · rename_i c t' fr hw
            refine ⟨c, t', fr, hw, ?_⟩
            cases spot with
            | none => rfl
            | some s => simp at q1
          · cases q1
        subst hs
        simp only [ite_self] at cell
        have cc : ∀ (i : Nat) (x : α) (j : Nat) (y : PV), l[i]? = some x → (flat (f x))[j]? = some y → o + i * k + j < c.size ∧ DR w No y (c.getD (o + i * k + j) undef) := fun i x j y hx hy => by
          obtain ⟨v, q1, q2⟩ := cell i x j y hx hy
          unfold World.cell? at q1
          simp only [hw] at q1
          have q3 := (Array.getElem?_eq_some_iff.1 (by simpa using q1 : c[o + i * k + j]? = some v)).1
          refine ⟨q3, ?_⟩
          have q4 : c[o + i * k + j]? = some v := by simpa using q1
          rw [Array.getD_eq_getD_getElem?, q4]
          exact q2
        have pick : ∀ (i : Nat) (x : PV), (l.map f)[i]? = some x → ∃ a, l[i]? = some a ∧ x = f a := fun i x hx => by
          rw [List.getElem?_map, Option.map_eq_some_iff] at hx
          obtain ⟨a, ha, rfl⟩ := hx
          exact ⟨a, ha, rfl⟩
        have key := DR.far (w := w) (A := No) (l.map f) β o cap k c t' fr (fun h => h) hw (by simpa [h1] using hl)
          (fun i x hx => by obtain ⟨a, ha, rfl⟩ := pick i x hx; exact (h2 i a ha).2.1)
          (fun i x j y hx hy => by obtain ⟨a, ha, rfl⟩ := pick i x hx; exact (cc i a j y ha hy).1)
          (fun i x j y hx hy => by obtain ⟨a, ha, rfl⟩ := pick i x hx; exact (cc i a j y ha hy).2)
        rw [List.length_map, h1] at key
        exact key
/-- The fields of a struct, from cell 'off' on, each of one cell. -/
def OpnF (enc : TypeId × Value → H) (P : Program) (w : World) (fs : List Field) (off : Nat) (f : α → List PV) (R : α → Prop) : Prop :=
  ∀ (n : Nat) (cs : List Value), (∀ (i : Nat) (fl : Field), fs[i]? = some fl → ∃ d, DataW.trod enc P w 0 (fun _ => true) true n fl.type ((cs.drop fl.offset).take (P.cellsOf fl.type)) = some d) →
    ∃ a, R a ∧ (f a).length = fs.length ∧ ∀ (j : Nat) (y : PV), (f a)[j]? = some y → DR w No y (cs.getD (off + j) undef)
theorem opnf_fld {fl : Field} {off : Nat} {f1 : α → PV} {R1 : α → Prop} (hk : P.cellsOf fl.type = 1) (ho : fl.offset = off) (hf : ∀ a, flat (f1 a) = [f1 a]) (h1 : Opn enc P w fl.type 1 f1 R1) {n : Nat} {cs : List Value} {d : DataW H × List MemPlace}
    (h : DataW.trod enc P w 0 (fun _ => true) true n fl.type ((cs.drop fl.offset).take (P.cellsOf fl.type)) = some d) : ∃ a, R1 a ∧ DR w No (f1 a) (cs.getD off undef) := by
  rw [hk, ho] at h
  obtain ⟨e, a, q1, q2, q3⟩ := h1 _ _ _ h
  refine ⟨a, q1, ?_⟩
  rw [hf] at q3
  have q4 := q3 0 _ rfl
  have e2 : ((cs.drop off).take 1).getD 0 undef = cs.getD off undef := by
    rw [List.getD_eq_getElem?_getD, List.getD_eq_getElem?_getD, List.getElem?_take_of_lt (by decide), List.getElem?_drop, Nat.add_zero]
  rw [e2] at q4
  exact q4
theorem opnf_one {fl : Field} {off : Nat} {f1 : α → PV} {R1 : α → Prop} (hk : P.cellsOf fl.type = 1) (ho : fl.offset = off) (hf : ∀ a, flat (f1 a) = [f1 a]) (h1 : Opn enc P w fl.type 1 f1 R1) : OpnF enc P w [fl] off (fun a => [f1 a]) R1 := fun n cs h => by
  obtain ⟨d, hd⟩ := h 0 fl rfl
  obtain ⟨a, q1, q2⟩ := opnf_fld hk ho hf h1 hd
  refine ⟨a, q1, rfl, fun j y hy => ?_⟩
  cases j with
  | zero => cases hy; exact q2
  | succ j => simp at hy
theorem opnf_cons {fl : Field} {fs : List Field} {off : Nat} {f1 : α → PV} {R1 : α → Prop} {f2 : β → List PV} {R2 : β → Prop} (hk : P.cellsOf fl.type = 1) (ho : fl.offset = off) (hf : ∀ a, flat (f1 a) = [f1 a]) (h1 : Opn enc P w fl.type 1 f1 R1) (h2 : OpnF enc P w fs (off + 1) f2 R2) :
    OpnF enc P w (fl :: fs) off (fun p : α × β => f1 p.1 :: f2 p.2) (fun p => R1 p.1 ∧ R2 p.2) := fun n cs h => by
  obtain ⟨d, hd⟩ := h 0 fl rfl
  obtain ⟨a, q1, q2⟩ := opnf_fld hk ho hf h1 hd
  obtain ⟨b, q3, q4, q5⟩ := h2 n cs fun i g hg => h (i + 1) g (by simpa using hg)
  refine ⟨(a, b), ⟨q1, q3⟩, by simp [q4], fun j y hy => ?_⟩
  cases j with
  | zero => cases hy; exact q2
  | succ j =>
    have := q5 j y (by simpa using hy)
    rwa [show off + 1 + j = off + (j + 1) by omega] at this
theorem opn_struct {t : TypeId} {fs : Array Field} {fl : List Field} {n : Nat} {f : α → List PV} {R : α → Prop} (ht : P.underlying t = some (.struct fs)) (hfs : fs.toList = fl) (hc : P.cellsOf t = n) (hn : fl.length = n) (h : OpnF enc P w fl 0 f R) : Opn enc P w t n (fun a => .agg (f a)) R := fun fuel cs d hd => by
  obtain ⟨xs, m, _, _, h1, h2, h3⟩ := DataW.trod_struct ht hd
  subst hfs
  obtain ⟨a, q1, q2, q3⟩ := h m cs fun i g hg => by
    have hi : i < fs.size := by simpa using (List.getElem?_eq_some_iff.1 hg).1
    rw [h3 i g (by simpa using hg), List.getElem?_eq_getElem (by omega)]
    exact ⟨_, rfl⟩
  refine ⟨h1.trans hc, a, q1, q2.trans hn, fun j y hy => ?_⟩
  have := q3 j y hy
  rwa [Nat.zero_add] at this
/-- A struct, and a slice, as an argument. -/
theorem arg_struct {t : TypeId} {n : Nat} {fs : Array Field} {f : α → List PV} {R : α → Prop} {base : Nat} {v : Value} {d : DataW H} {ps : List MemPlace} (ht : P.underlying t = some (.struct fs)) (h : Opn enc P w t n (fun a => .agg (f a)) R) (hval : Value.okWide P w .any base t v)
    (hd : DataW.Trod enc P w 0 (fun _ => true) true t v d ps) : ∃ a, R a ∧ DR w No (.agg (f a)) v := by
  obtain ⟨cs, rfl, _⟩ := okWide_struct ht hval
  obtain ⟨fuel, hf⟩ := hd
  obtain ⟨h1, a, h2, h3, h4⟩ := h _ _ _ hf
  refine ⟨a, h2, .agg _ _ ?_ fun i x hx => ?_⟩
  · have : (flat (.agg (f a))).length = (f a).length := rfl
    simp only [Value.cells] at h1
    rw [← this, h3, ← h1, Array.length_toList]
  · have := h4 i x hx
    simp only [Value.cells] at this
    rwa [List.getD_eq_getElem?_getD, Array.getElem?_toList, ← Array.getD_eq_getD_getElem?] at this
end
end Go.Pv
