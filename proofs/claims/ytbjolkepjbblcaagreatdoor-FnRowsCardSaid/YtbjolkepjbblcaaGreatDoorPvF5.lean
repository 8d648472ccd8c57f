/- The texts of this claim, part 5: a small logic of plain values for the model's runs, what it says of the functions, in plain values. -/
import Derived.Below
import Derived.ChangeArms
import Derived.ChangeShapes
import Derived.WideShapes
import Derived.Test.YtbjolkepjbblcaaGreatDoorPvF0
import Derived.Test.YtbjolkepjbblcaaGreatDoorPvF1
import Derived.Test.YtbjolkepjbblcaaGreatDoorPvF2
import Derived.Test.YtbjolkepjbblcaaGreatDoorPvF3
import Derived.Test.YtbjolkepjbblcaaGreatDoorPvF4
/- What functions of the program and of the reference do, in plain values. -/
namespace Go.Pv
open Go.Proofs Go.Mth
set_option linter.unusedSimpArgs false
set_option linter.unusedVariables false
set_option maxHeartbeats 4000000
set_option maxRecDepth 4000

/-! ### laws of drawn disks: rows -/
theorem impl_BasesOn (d : Dk) (h : DkOk d) : Fn Tryz.prog 20 [dkP d] [] (.far ((basesT d).map (.int .i64))) [] := by
  obtain ⟨_, _, ⟨rfl, rfl⟩, k⟩ := impl_BasesOn_R d h
  refine k.far ?_
  simp [fz, fz2, fz1, cvtl, elems, hget, data1]
theorem tkS (xs : List ByteArray) (z : Nat) : List.take xs.length (xs.map PV.str ++ Jz z) = xs.map .str := List.take_left' (List.length_map _)
theorem go_true {t : ByteArray} {b l : Int} (h : goOk t b l) : ((rHead t).2.2.2.2 && decide ((rHead t).2.2.1 = b) && decide ((rHead t).2.2.2.1 = l)) = true := by
  obtain ⟨⟨h1, h2, h3⟩, _⟩ := h
  rw [h1, decide_eq_true h2, decide_eq_true h3]; rfl
set_option maxRecDepth 20000 in
theorem law_FnRows (code : List Int) (hc : code.length ≤ 9223372036854775807 ∧ ∀ a ∈ code, (Lit.int .u8 a).wf = true) : Fn Tryz.prog 8 [.far (code.map (.int .u8))] [] (.bool true) [] := by
  have k1 := new500
  have k2 := create_nm0
  have k3 := seal1
  have k4 := append_nm0 _ seal1_le
  have ok0 := dk0_okk (sealT 1 1 0 0 [⟨#[97]⟩]) (Nat.le_trans seal1_le (by decide))
  have k5 := impl_Chain _ ok0
  have c0 := chain0 _ seal1_go.1 seal1_go.2
  rw [c0] at k5
  generalize dk0 (sealT 1 1 0 0 [⟨#[97]⟩]) = d7 at *
  generalize sealT 1 1 0 0 [⟨#[97]⟩] = st at *
  generalize newT 500 = d5 at *
  generalize dk0 ⟨#[]⟩ = d6 at *
  refine fn_x tok (n := 109) (rs := [.tmp 2]) Tryz.func8 (by decide) rfl rfl rfl rfl ?_
  refine Wr.go ?_
  repeat' ((first | (have ee := True.intro; refine Wr.mk ?_) | ((first | refine br_go ?_ ?_ | refine pick_go ?_ ?_) <;> intro ee f <;> (try simp only [BB] at f) <;> (try simp only [numOk, verOk] at f)) | (have ee := True.intro; first | refine call_x (laws_bigD _ hc.1) rfl ⟨rfl⟩ ?_)) <;> (try simp (maxSteps := 1000000) (disch := first | omega | (simp only [LN, numOk, verOk, dkP, beq_self_eq_true, bkd] <;> omega) | exact Ck.mk rfl) only [ee, VC, T, Nat.reduceMul, Nat.reduceAdd, Nat.reduceSub, Nat.reduceLT, Nat.reduceEqDiff, Nat.reduceLeDiff, Nat.reduceBEq, reduceCtorEq, Int.reduceToNat, ↓reduceIte, dkP, beq_self_eq_true, bkd]) <;> (try clear ee))
  refine call_v (DrawRowOf code (CodeOk.bytes hc f)) rfl ?_
  rintro _ ⟨d, rfl, hd⟩
  refine ⟨⟨rfl⟩, ?_⟩
  have a1 := impl_RowOf d hd
  have a2 := impl_Chain d hd
  have a3 := spec_RowOf d hd
  have a4 := spec_Chain d hd
  have a5 := impl_BasesOn d hd
  have a6 := spec_BasesOn d hd
  have a7 := impl_LooseNames d hd
  have a8 := spec_LooseNames d hd
  have a9 := impl_RowLink d hd a1
  have b1 := fun b hb => impl_TextAt d b hd hb
  have hbl := basesT_len hd
  have hll : (looseT d).length ≤ 1048576 := Nat.le_trans (List.length_filter_le _ _) (by rw [namesT_len]; exact hd.es)
  have hlen := chainT_length d
  have hrg := chainT_range hd
  have hat : ∀ i, i < (chainT d).length → (chainT d).getD i default = (flR d ((chainT d).take i)).length ∧ goOk (textT d ((chainT d).getD i default)) ((chainT d).getD i default) (linkAll 0 (flR d ((chainT d).take i))) := fun i h => chainT_at d i h
  have hlk : linkT d = linkAll 0 (flR d (chainT d)) := rfl
  have hrow : rowT d = flR d (chainT d) := rfl
  have hfl := fun L => flat_le d hd L
  have hle := textT_le hd
  have hr60 : ∀ L, ∀ r ∈ flR d L, r.size ≤ 60 := fun L r hr => by
    unfold flR at hr
    rw [List.mem_flatMap] at hr
    obtain ⟨x, _, hr⟩ := hr
    exact (recs_le _).2 r hr
  rw [hrow] at a1 a3
  rw [hlk] at a9
  generalize chainT d = C at *
  generalize basesT d = B at *
  generalize looseT d = W at *
  unfold dkP at *
  refine Wr.go ?_
  repeat' ((first | (have ee := True.intro; refine Wr.mk ?_) | ((first | refine br_go ?_ ?_ | refine pick_go ?_ ?_) <;> intro ee f <;> (try simp only [BB] at f) <;> (try simp only [numOk, verOk] at f)) | (have ee := True.intro; first | refine call_x (a1) rfl ⟨rfl⟩ ?_ | refine call_x (a2) rfl ⟨rfl⟩ ?_)) <;> (try simp (maxSteps := 1000000) (disch := first | omega | (simp only [LN, numOk, verOk, dkP, beq_self_eq_true, bkd] <;> omega) | exact Ck.mk rfl) only [ee, VC, T, Nat.reduceMul, Nat.reduceAdd, Nat.reduceSub, Nat.reduceLT, Nat.reduceEqDiff, Nat.reduceLeDiff, Nat.reduceBEq, reduceCtorEq, Int.reduceToNat, ↓reduceIte, dkP, beq_self_eq_true, bkd]) <;> (try clear ee))
  have hfa : (flR d C).length ≤ 16777216 := by
    have := (hfl C).1
    unfold flR
    omega
  refine Wr.go ?_
  repeat' ((first | (have ee := True.intro; refine Wr.mk ?_) | ((first | refine br_go ?_ ?_ | refine pick_go ?_ ?_) <;> intro ee f <;> (try simp only [BB] at f) <;> (try simp only [numOk, verOk] at f)) | (have ee := True.intro; first | refine dr_go mixed (id := 6) [([], [4], []), ([], [3], []), ([1], [20], []), ([0, 1, 2], [19, 21], []), ([0, 1, 2, 3], [22], []), ([0, 1, 2, 3, 4], [23], []), ([0, 1, 2, 3, 4, 5], [5, 24], []), ([0, 1, 2, 3, 4, 5], [3, 24], []), ([0, 1, 2, 3, 4, 5, 7], [24, 26], []), ([0, 1, 2, 3, 4, 5, 6, 7, 8], [24, 25, 27], []), ([0, 1, 2, 3, 4, 5, 6, 7, 8, 9], [24, 28], []), ([0, 1, 2, 3, 4, 5, 6, 7, 8, 9, 10], [24, 29], []), ([0, 1, 2, 3, 4, 5, 6, 7, 8, 9, 10, 11], [30], []), ([0, 1, 2, 3, 4, 5, 6, 7, 8, 9, 10, 11, 12], [3, 31], []), ([0, 1, 2, 3, 4, 5, 6, 7, 8, 9, 10, 11, 12, 13], [31, 32], []), ([0, 1, 2, 3, 4, 5, 6, 7, 8, 9, 10, 11, 12], [3, 31], []), ([0, 1, 2, 3, 4, 5, 6, 7, 8, 9, 10, 11, 12, 13, 14, 15], [31, 34], []), ([0, 1, 2, 3, 4, 5, 6, 7, 8, 9, 10, 11, 12, 13, 14, 15, 16], [31, 33, 35], []), ([0, 1, 2, 3, 4, 5, 6, 7, 8, 9, 10, 11, 12, 13, 14, 15, 16, 17], [31, 36], []), ([0, 1, 2, 3, 4, 5, 6, 7, 8, 9, 10, 11, 12, 13, 14, 15, 16, 17, 18], [31, 37], []), ([0, 1, 2, 3, 4, 5, 6, 7, 8, 9, 10, 11, 12, 13, 14, 15, 16, 17, 18, 19], [38], []), ([0, 1, 2, 3, 4, 5, 6, 7, 8, 9, 10, 11, 12, 13, 14, 15, 16, 17, 18, 19, 20], [3, 39], []), ([0, 1, 2, 3, 4, 5, 6, 7, 8, 9, 10, 11, 12, 13, 14, 15, 16, 17, 18, 19, 20, 21], [39, 40], []), ([0, 1, 2, 3, 4, 5, 6, 7, 8, 9, 10, 11, 12, 13, 14, 15, 16, 17, 18, 19, 20], [3, 39], []), ([0, 1, 2, 3, 4, 5, 6, 7, 8, 9, 10, 11, 12, 13, 14, 15, 16, 17, 18, 19, 20, 21, 22, 23], [39, 42], []), ([0, 1, 2, 3, 4, 5, 6, 7, 8, 9, 10, 11, 12, 13, 14, 15, 16, 17, 18, 19, 20, 21, 22, 23, 24], [39, 41, 43], []), ([0, 1, 2, 3, 4, 5, 6, 7, 8, 9, 10, 11, 12, 13, 14, 15, 16, 17, 18, 19, 20, 21, 22, 23, 24, 25], [39, 44], []), ([0, 1, 2, 3, 4, 5, 6, 7, 8, 9, 10, 11, 12, 13, 14, 15, 16, 17, 18, 19, 20, 21, 22, 23, 24, 25, 26], [39, 45], [])] rfl rfl rfl ?_ | refine call_x (a3) rfl ⟨rfl⟩ ?_ | refine call_x (a4) rfl ⟨rfl⟩ ?_ | refine call_x (a5) rfl ⟨rfl⟩ ?_ | refine call_x (a6) rfl ⟨rfl⟩ ?_ | refine call_x (laws_sameStr _ _ (by omega)) rfl ⟨rfl⟩ ?_ | refine call_x (laws_sameInt _ _ (by omega)) rfl ⟨rfl⟩ ?_ | (refine call_h [] [] (a7) (by decide) rfl rfl ?_; rintro _ _ (⟨rfl, rfl⟩ | ⟨n, z, rfl, hz1, hz2, rfl⟩)) | refine call_x (a8) rfl ⟨rfl⟩ ?_ | (refine call_hx [] [2688] (laws_sameStr W W (by omega)) (by decide) ?_ rfl ?_; (focus (first | rfl | (simp (maxSteps := 1000000) (disch := first | omega | (simp only [LN, numOk, verOk, dkP, beq_self_eq_true, bkd, nfx_cutS, tkS, List.drop_zero, Jz_len] <;> omega) | exact Ck.mk rfl) only [VC, T, Nat.reduceMul, Nat.reduceAdd, Nat.reduceSub, Nat.reduceLT, Nat.reduceEqDiff, Nat.reduceLeDiff, Nat.reduceBEq, reduceCtorEq, Int.reduceToNat, ↓reduceIte, dkP, beq_self_eq_true, bkd, nfx_cutS, tkS, List.drop_zero, Jz_len]; done)))))) <;> (try simp (maxSteps := 1000000) (disch := first | omega | (simp only [LN, numOk, verOk, dkP, beq_self_eq_true, bkd, nfx_cutS, tkS, List.drop_zero, Jz_len] <;> omega) | exact Ck.mk rfl) only [ee, VC, T, Nat.reduceMul, Nat.reduceAdd, Nat.reduceSub, Nat.reduceLT, Nat.reduceEqDiff, Nat.reduceLeDiff, Nat.reduceBEq, reduceCtorEq, Int.reduceToNat, ↓reduceIte, dkP, beq_self_eq_true, bkd, nfx_cutS, tkS, List.drop_zero, Jz_len]) <;> (try clear ee))
  · refine lp_go (fun x : Nat => ⟨109, [(3, .ref 256 0), (4, .far ((flR d C).map .str)), (5, .far (C.map (.int .i64))), (6, .row 3072 (flR d (C.take x)).length), (7, .int .i64 x)], [(256, .box 32 [.far (d.1.map ndP), .far (d.2.1.map enP), .far (d.2.2.1.map enP), .far (d.2.2.2.1.map .str), .int .i64 d.2.2.2.2.1, .int .i64 d.2.2.2.2.2]), (3072, .row ⟨1, 0⟩ ((flR d (C.take x)).map .str))]⟩) (fun x => x ≤ C.length) (fun x => C.length - x) 0 ?_ (Nat.zero_le _) ?_
    · (simp (disch := first | omega | (simp only [LN, numOk, verOk] <;> omega) | exact Ck.mk rfl) only [SB, EQ, Nat.reduceMul, Nat.reduceAdd, Nat.reduceSub, Nat.reduceLT, Nat.reduceEqDiff, Nat.reduceLeDiff, Nat.reduceBEq, reduceCtorEq, Int.reduceToNat, ↓reduceIte]; try omega)
      all_goals (try exact ⟨rfl, rfl⟩)
      all_goals (try rfl)
    · intro x hx N hN
      have hfb : (flR d (C.take x)).length ≤ 16777216 := by
        have := (hfl (C.take x)).1
        rw [List.length_take] at this
        unfold flR
        omega
      by_cases hxl : x < C.length
      · obtain ⟨q1, q2⟩ := hat x hxl
        have hsn := flR_snoc d C x hxl
        have hle := hle (C.getD x default)
        have hr1 := hrg _ (getD_mem C x hxl)
        have b1 := b1 (C.getD x default) (by unfold i64; omega)
        have hL := spec_LinkOf (flR d (C.take x)) (by omega) (fun r hr => by have := hr60 _ r hr; omega)
        generalize hcx : C.getD x default = c at *
        generalize textT d c = t at *
        have hre := (recs_le t).1
        have hR : Fn Tryz.prog 35 [.str t] [] (.far ((recs t).map .str)) [] := spec_RecordsIn t (by omega)
        have hG := spec_GoesOn t c (linkAll 0 (flR d (C.take x))) (by omega)
        rw [go_true q2] at hG
        generalize linkAll 0 (flR d (C.take x)) = lk at *
        generalize flR d (C.take x) = M at *
        generalize recs t = R at *
        subst q1
        refine Wr.go ?_
        repeat' ((first | (have ee := True.intro; refine Wr.mk ?_) | ((first | refine br_go ?_ ?_ | refine pick_go ?_ ?_) <;> intro ee f <;> (try simp only [BB] at f) <;> (try simp only [numOk, verOk] at f)) | (have ee := True.intro; first | refine dr_go mixed (id := 12) [([], [3], []), ([], [5], []), ([], [7], []), ([1, 2], [55, 56], []), ([1, 2, 3], [57], []), ([0, 1, 2, 3, 4], [54, 58], []), ([0, 1, 2, 3, 4, 5], [59], [])] rfl rfl rfl ?_ | refine call_x (b1) rfl ⟨rfl⟩ ?_ | (refine call_hx [] [3072] (hL) (by decide) ?_ rfl ?_; (focus (first | rfl | (simp (maxSteps := 1000000) (disch := first | omega | (simp only [LN, numOk, verOk, dkP, beq_self_eq_true, bkd, hcx] <;> omega) | exact Ck.mk rfl) only [VC, T, Nat.reduceMul, Nat.reduceAdd, Nat.reduceSub, Nat.reduceLT, Nat.reduceEqDiff, Nat.reduceLeDiff, Nat.reduceBEq, reduceCtorEq, Int.reduceToNat, ↓reduceIte, dkP, beq_self_eq_true, bkd, hcx]; done)))) | refine call_x (hG) rfl ⟨rfl⟩ ?_ | refine call_x (hR) rfl ⟨rfl⟩ ?_)) <;> (try simp (maxSteps := 1000000) (disch := first | omega | (simp only [LN, numOk, verOk, dkP, beq_self_eq_true, bkd, hcx] <;> omega) | exact Ck.mk rfl) only [ee, VC, T, Nat.reduceMul, Nat.reduceAdd, Nat.reduceSub, Nat.reduceLT, Nat.reduceEqDiff, Nat.reduceLeDiff, Nat.reduceBEq, reduceCtorEq, Int.reduceToNat, ↓reduceIte, dkP, beq_self_eq_true, bkd, hcx]) <;> (try clear ee))
        all_goals first
          | (exfalso; omega)
          | (refine hN (x + 1) _ (by omega) (by omega) ?_
             rw [hsn]
             (simp (disch := first | omega | (simp only [LN, numOk, verOk, List.length_append] <;> omega) | exact Ck.mk rfl) only [SB, EQ, Nat.reduceMul, Nat.reduceAdd, Nat.reduceSub, Nat.reduceLT, Nat.reduceEqDiff, Nat.reduceLeDiff, Nat.reduceBEq, reduceCtorEq, Int.reduceToNat, ↓reduceIte, List.length_append]; try omega)
             all_goals (try exact List.map_append.symm))
      · obtain rfl : x = C.length := by omega
        rw [List.take_length] at *
        have hL := spec_LinkOf (flR d C) (by omega) (fun r hr => by have := hr60 _ r hr; omega)
        generalize linkAll 0 (flR d C) = lk at *
        generalize flR d C = M at *
        refine Wr.go ?_
        repeat' ((first | (have ee := True.intro; refine Wr.mk ?_) | ((first | refine br_go ?_ ?_ | refine pick_go ?_ ?_) <;> intro ee f <;> (try simp only [BB] at f) <;> (try simp only [numOk, verOk] at f)) | (have ee := True.intro; first | refine dr_go mixed (id := 17) [([], [9], []), ([], [], []), ([], [], []), ([1, 2], [87, 88], []), ([0, 1, 2, 3], [86, 89], []), ([0, 1, 2, 3, 4], [90], []), ([0, 1, 2, 3, 4, 5], [85], []), ([0, 1, 2, 3, 4, 5], [85], [640]), ([0, 1, 2, 3, 4, 5, 6], [9, 91], [])] rfl rfl rfl ?_ | refine call_x (k1) rfl ⟨rfl⟩ ?_ | refine call_x (k2) rfl ⟨rfl⟩ ?_ | (refine call_hx [] [5696] (k3) (by decide) ?_ rfl ?_; (focus (first | rfl | (simp (maxSteps := 1000000) (disch := first | omega | (simp only [LN, numOk, verOk, dkP, beq_self_eq_true, bkd] <;> omega) | exact Ck.mk rfl) only [VC, T, Nat.reduceMul, Nat.reduceAdd, Nat.reduceSub, Nat.reduceLT, Nat.reduceEqDiff, Nat.reduceLeDiff, Nat.reduceBEq, reduceCtorEq, Int.reduceToNat, ↓reduceIte, dkP, beq_self_eq_true, bkd]; done)))) | refine call_x (k4) rfl ⟨rfl⟩ ?_ | (refine call_hx [] [3072] (laws_sameStr M M (by omega)) (by decide) ?_ rfl ?_; (focus (first | rfl | (simp (maxSteps := 1000000) (disch := first | omega | (simp only [LN, numOk, verOk, dkP, beq_self_eq_true, bkd] <;> omega) | exact Ck.mk rfl) only [VC, T, Nat.reduceMul, Nat.reduceAdd, Nat.reduceSub, Nat.reduceLT, Nat.reduceEqDiff, Nat.reduceLeDiff, Nat.reduceBEq, reduceCtorEq, Int.reduceToNat, ↓reduceIte, dkP, beq_self_eq_true, bkd]; done)))) | refine call_x (a9) rfl ⟨rfl⟩ ?_ | (refine call_hx [] [3072] (hL) (by decide) ?_ rfl ?_; (focus (first | rfl | (simp (maxSteps := 1000000) (disch := first | omega | (simp only [LN, numOk, verOk, dkP, beq_self_eq_true, bkd] <;> omega) | exact Ck.mk rfl) only [VC, T, Nat.reduceMul, Nat.reduceAdd, Nat.reduceSub, Nat.reduceLT, Nat.reduceEqDiff, Nat.reduceLeDiff, Nat.reduceBEq, reduceCtorEq, Int.reduceToNat, ↓reduceIte, dkP, beq_self_eq_true, bkd]; done)))) | refine call_x (k5) rfl ⟨rfl⟩ ?_)) <;> (try simp (maxSteps := 1000000) (disch := first | omega | (simp only [LN, numOk, verOk, dkP, beq_self_eq_true, bkd] <;> omega) | exact Ck.mk rfl) only [ee, VC, T, Nat.reduceMul, Nat.reduceAdd, Nat.reduceSub, Nat.reduceLT, Nat.reduceEqDiff, Nat.reduceLeDiff, Nat.reduceBEq, reduceCtorEq, Int.reduceToNat, ↓reduceIte, dkP, beq_self_eq_true, bkd]) <;> (try clear ee))
        all_goals simp
  · rw [List.length_map] at hz1 hz2
    subst hz2
    refine Wr.go ?_
    repeat' ((first | (have ee := True.intro; refine Wr.mk ?_) | ((first | refine br_go ?_ ?_ | refine pick_go ?_ ?_) <;> intro ee f <;> (try simp only [BB] at f) <;> (try simp only [numOk, verOk] at f)) | (have ee := True.intro; first | refine dr_go mixed (id := 6) [([], [4], []), ([], [3], []), ([1], [20], []), ([0, 1, 2], [19, 21], []), ([0, 1, 2, 3], [22], []), ([0, 1, 2, 3, 4], [23], []), ([0, 1, 2, 3, 4, 5], [5, 24], []), ([0, 1, 2, 3, 4, 5], [3, 24], []), ([0, 1, 2, 3, 4, 5, 7], [24, 26], []), ([0, 1, 2, 3, 4, 5, 6, 7, 8], [24, 25, 27], []), ([0, 1, 2, 3, 4, 5, 6, 7, 8, 9], [24, 28], []), ([0, 1, 2, 3, 4, 5, 6, 7, 8, 9, 10], [24, 29], []), ([0, 1, 2, 3, 4, 5, 6, 7, 8, 9, 10, 11], [30], []), ([0, 1, 2, 3, 4, 5, 6, 7, 8, 9, 10, 11, 12], [3, 31], []), ([0, 1, 2, 3, 4, 5, 6, 7, 8, 9, 10, 11, 12, 13], [31, 32], []), ([0, 1, 2, 3, 4, 5, 6, 7, 8, 9, 10, 11, 12], [3, 31], []), ([0, 1, 2, 3, 4, 5, 6, 7, 8, 9, 10, 11, 12, 13, 14, 15], [31, 34], []), ([0, 1, 2, 3, 4, 5, 6, 7, 8, 9, 10, 11, 12, 13, 14, 15, 16], [31, 33, 35], []), ([0, 1, 2, 3, 4, 5, 6, 7, 8, 9, 10, 11, 12, 13, 14, 15, 16, 17], [31, 36], []), ([0, 1, 2, 3, 4, 5, 6, 7, 8, 9, 10, 11, 12, 13, 14, 15, 16, 17, 18], [31, 37], []), ([0, 1, 2, 3, 4, 5, 6, 7, 8, 9, 10, 11, 12, 13, 14, 15, 16, 17, 18, 19], [38], []), ([0, 1, 2, 3, 4, 5, 6, 7, 8, 9, 10, 11, 12, 13, 14, 15, 16, 17, 18, 19, 20], [3, 39], []), ([0, 1, 2, 3, 4, 5, 6, 7, 8, 9, 10, 11, 12, 13, 14, 15, 16, 17, 18, 19, 20, 21], [39, 40], []), ([0, 1, 2, 3, 4, 5, 6, 7, 8, 9, 10, 11, 12, 13, 14, 15, 16, 17, 18, 19, 20], [3, 39], []), ([0, 1, 2, 3, 4, 5, 6, 7, 8, 9, 10, 11, 12, 13, 14, 15, 16, 17, 18, 19, 20, 21, 22, 23], [39, 42], []), ([0, 1, 2, 3, 4, 5, 6, 7, 8, 9, 10, 11, 12, 13, 14, 15, 16, 17, 18, 19, 20, 21, 22, 23, 24], [39, 41, 43], []), ([0, 1, 2, 3, 4, 5, 6, 7, 8, 9, 10, 11, 12, 13, 14, 15, 16, 17, 18, 19, 20, 21, 22, 23, 24, 25], [39, 44], []), ([0, 1, 2, 3, 4, 5, 6, 7, 8, 9, 10, 11, 12, 13, 14, 15, 16, 17, 18, 19, 20, 21, 22, 23, 24, 25, 26], [39, 45], [])] rfl rfl rfl ?_ | refine call_x (a3) rfl ⟨rfl⟩ ?_ | refine call_x (a4) rfl ⟨rfl⟩ ?_ | refine call_x (a5) rfl ⟨rfl⟩ ?_ | refine call_x (a6) rfl ⟨rfl⟩ ?_ | refine call_x (laws_sameStr _ _ (by omega)) rfl ⟨rfl⟩ ?_ | refine call_x (laws_sameInt _ _ (by omega)) rfl ⟨rfl⟩ ?_ | (refine call_h [] [] (a7) (by decide) rfl rfl ?_; rintro _ _ (⟨rfl, rfl⟩ | ⟨n, z, rfl, hz1, hz2, rfl⟩)) | refine call_x (a8) rfl ⟨rfl⟩ ?_ | (refine call_hx [] [2688] (laws_sameStr W W (by omega)) (by decide) ?_ rfl ?_; (focus (first | rfl | (simp (maxSteps := 1000000) (disch := first | omega | (simp only [LN, numOk, verOk, dkP, beq_self_eq_true, bkd, nfx_cutS, tkS, List.drop_zero, Jz_len] <;> omega) | exact Ck.mk rfl) only [VC, T, Nat.reduceMul, Nat.reduceAdd, Nat.reduceSub, Nat.reduceLT, Nat.reduceEqDiff, Nat.reduceLeDiff, Nat.reduceBEq, reduceCtorEq, Int.reduceToNat, ↓reduceIte, dkP, beq_self_eq_true, bkd, nfx_cutS, tkS, List.drop_zero, Jz_len]; done)))))) <;> (try simp (maxSteps := 1000000) (disch := first | omega | (simp only [LN, numOk, verOk, dkP, beq_self_eq_true, bkd, nfx_cutS, tkS, List.drop_zero, Jz_len] <;> omega) | exact Ck.mk rfl) only [ee, VC, T, Nat.reduceMul, Nat.reduceAdd, Nat.reduceSub, Nat.reduceLT, Nat.reduceEqDiff, Nat.reduceLeDiff, Nat.reduceBEq, reduceCtorEq, Int.reduceToNat, ↓reduceIte, dkP, beq_self_eq_true, bkd, nfx_cutS, tkS, List.drop_zero, Jz_len]) <;> (try clear ee))
    refine lp_go (fun x : Nat => ⟨109, [(3, .ref 256 0), (4, .far ((flR d C).map .str)), (5, .far (C.map (.int .i64))), (6, .row 3072 (flR d (C.take x)).length), (7, .int .i64 x)], [(256, .box 32 [.far (d.1.map ndP), .far (d.2.1.map enP), .far (d.2.2.1.map enP), .far (d.2.2.2.1.map .str), .int .i64 d.2.2.2.2.1, .int .i64 d.2.2.2.2.2]), (3072, .row ⟨1, 0⟩ ((flR d (C.take x)).map .str))]⟩) (fun x => x ≤ C.length) (fun x => C.length - x) 0 ?_ (Nat.zero_le _) ?_
    · (simp (disch := first | omega | (simp only [LN, numOk, verOk] <;> omega) | exact Ck.mk rfl) only [SB, EQ, Nat.reduceMul, Nat.reduceAdd, Nat.reduceSub, Nat.reduceLT, Nat.reduceEqDiff, Nat.reduceLeDiff, Nat.reduceBEq, reduceCtorEq, Int.reduceToNat, ↓reduceIte]; try omega)
      all_goals (try exact ⟨rfl, rfl⟩)
      all_goals (try rfl)
    · intro x hx N hN
      have hfb : (flR d (C.take x)).length ≤ 16777216 := by
        have := (hfl (C.take x)).1
        rw [List.length_take] at this
        unfold flR
        omega
      by_cases hxl : x < C.length
      · obtain ⟨q1, q2⟩ := hat x hxl
        have hsn := flR_snoc d C x hxl
        have hle := hle (C.getD x default)
        have hr1 := hrg _ (getD_mem C x hxl)
        have b1 := b1 (C.getD x default) (by unfold i64; omega)
        have hL := spec_LinkOf (flR d (C.take x)) (by omega) (fun r hr => by have := hr60 _ r hr; omega)
        generalize hcx : C.getD x default = c at *
        generalize textT d c = t at *
        have hre := (recs_le t).1
        have hR : Fn Tryz.prog 35 [.str t] [] (.far ((recs t).map .str)) [] := spec_RecordsIn t (by omega)
        have hG := spec_GoesOn t c (linkAll 0 (flR d (C.take x))) (by omega)
        rw [go_true q2] at hG
        generalize linkAll 0 (flR d (C.take x)) = lk at *
        generalize flR d (C.take x) = M at *
        generalize recs t = R at *
        subst q1
        refine Wr.go ?_
        repeat' ((first | (have ee := True.intro; refine Wr.mk ?_) | ((first | refine br_go ?_ ?_ | refine pick_go ?_ ?_) <;> intro ee f <;> (try simp only [BB] at f) <;> (try simp only [numOk, verOk] at f)) | (have ee := True.intro; first | refine dr_go mixed (id := 12) [([], [3], []), ([], [5], []), ([], [7], []), ([1, 2], [55, 56], []), ([1, 2, 3], [57], []), ([0, 1, 2, 3, 4], [54, 58], []), ([0, 1, 2, 3, 4, 5], [59], [])] rfl rfl rfl ?_ | refine call_x (b1) rfl ⟨rfl⟩ ?_ | (refine call_hx [] [3072] (hL) (by decide) ?_ rfl ?_; (focus (first | rfl | (simp (maxSteps := 1000000) (disch := first | omega | (simp only [LN, numOk, verOk, dkP, beq_self_eq_true, bkd, hcx] <;> omega) | exact Ck.mk rfl) only [VC, T, Nat.reduceMul, Nat.reduceAdd, Nat.reduceSub, Nat.reduceLT, Nat.reduceEqDiff, Nat.reduceLeDiff, Nat.reduceBEq, reduceCtorEq, Int.reduceToNat, ↓reduceIte, dkP, beq_self_eq_true, bkd, hcx]; done)))) | refine call_x (hG) rfl ⟨rfl⟩ ?_ | refine call_x (hR) rfl ⟨rfl⟩ ?_)) <;> (try simp (maxSteps := 1000000) (disch := first | omega | (simp only [LN, numOk, verOk, dkP, beq_self_eq_true, bkd, hcx] <;> omega) | exact Ck.mk rfl) only [ee, VC, T, Nat.reduceMul, Nat.reduceAdd, Nat.reduceSub, Nat.reduceLT, Nat.reduceEqDiff, Nat.reduceLeDiff, Nat.reduceBEq, reduceCtorEq, Int.reduceToNat, ↓reduceIte, dkP, beq_self_eq_true, bkd, hcx]) <;> (try clear ee))
        all_goals first
          | (exfalso; omega)
          | (refine hN (x + 1) _ (by omega) (by omega) ?_
             rw [hsn]
             (simp (disch := first | omega | (simp only [LN, numOk, verOk, List.length_append] <;> omega) | exact Ck.mk rfl) only [SB, EQ, Nat.reduceMul, Nat.reduceAdd, Nat.reduceSub, Nat.reduceLT, Nat.reduceEqDiff, Nat.reduceLeDiff, Nat.reduceBEq, reduceCtorEq, Int.reduceToNat, ↓reduceIte, List.length_append]; try omega)
             all_goals (try exact List.map_append.symm))
      · obtain rfl : x = C.length := by omega
        rw [List.take_length] at *
        have hL := spec_LinkOf (flR d C) (by omega) (fun r hr => by have := hr60 _ r hr; omega)
        generalize linkAll 0 (flR d C) = lk at *
        generalize flR d C = M at *
        refine Wr.go ?_
        repeat' ((first | (have ee := True.intro; refine Wr.mk ?_) | ((first | refine br_go ?_ ?_ | refine pick_go ?_ ?_) <;> intro ee f <;> (try simp only [BB] at f) <;> (try simp only [numOk, verOk] at f)) | (have ee := True.intro; first | refine dr_go mixed (id := 17) [([], [9], []), ([], [], []), ([], [], []), ([1, 2], [87, 88], []), ([0, 1, 2, 3], [86, 89], []), ([0, 1, 2, 3, 4], [90], []), ([0, 1, 2, 3, 4, 5], [85], []), ([0, 1, 2, 3, 4, 5], [85], [640]), ([0, 1, 2, 3, 4, 5, 6], [9, 91], [])] rfl rfl rfl ?_ | refine call_x (k1) rfl ⟨rfl⟩ ?_ | refine call_x (k2) rfl ⟨rfl⟩ ?_ | (refine call_hx [] [5696] (k3) (by decide) ?_ rfl ?_; (focus (first | rfl | (simp (maxSteps := 1000000) (disch := first | omega | (simp only [LN, numOk, verOk, dkP, beq_self_eq_true, bkd] <;> omega) | exact Ck.mk rfl) only [VC, T, Nat.reduceMul, Nat.reduceAdd, Nat.reduceSub, Nat.reduceLT, Nat.reduceEqDiff, Nat.reduceLeDiff, Nat.reduceBEq, reduceCtorEq, Int.reduceToNat, ↓reduceIte, dkP, beq_self_eq_true, bkd]; done)))) | refine call_x (k4) rfl ⟨rfl⟩ ?_ | (refine call_hx [] [3072] (laws_sameStr M M (by omega)) (by decide) ?_ rfl ?_; (focus (first | rfl | (simp (maxSteps := 1000000) (disch := first | omega | (simp only [LN, numOk, verOk, dkP, beq_self_eq_true, bkd] <;> omega) | exact Ck.mk rfl) only [VC, T, Nat.reduceMul, Nat.reduceAdd, Nat.reduceSub, Nat.reduceLT, Nat.reduceEqDiff, Nat.reduceLeDiff, Nat.reduceBEq, reduceCtorEq, Int.reduceToNat, ↓reduceIte, dkP, beq_self_eq_true, bkd]; done)))) | refine call_x (a9) rfl ⟨rfl⟩ ?_ | (refine call_hx [] [3072] (hL) (by decide) ?_ rfl ?_; (focus (first | rfl | (simp (maxSteps := 1000000) (disch := first | omega | (simp only [LN, numOk, verOk, dkP, beq_self_eq_true, bkd] <;> omega) | exact Ck.mk rfl) only [VC, T, Nat.reduceMul, Nat.reduceAdd, Nat.reduceSub, Nat.reduceLT, Nat.reduceEqDiff, Nat.reduceLeDiff, Nat.reduceBEq, reduceCtorEq, Int.reduceToNat, ↓reduceIte, dkP, beq_self_eq_true, bkd]; done)))) | refine call_x (k5) rfl ⟨rfl⟩ ?_)) <;> (try simp (maxSteps := 1000000) (disch := first | omega | (simp only [LN, numOk, verOk, dkP, beq_self_eq_true, bkd] <;> omega) | exact Ck.mk rfl) only [ee, VC, T, Nat.reduceMul, Nat.reduceAdd, Nat.reduceSub, Nat.reduceLT, Nat.reduceEqDiff, Nat.reduceLeDiff, Nat.reduceBEq, reduceCtorEq, Int.reduceToNat, ↓reduceIte, dkP, beq_self_eq_true, bkd]) <;> (try clear ee))
        all_goals simp
end Go.Pv

/- What a law's contract in plain values says of its walk. -/
namespace Go.Pv

variable {P : Program}
theorem kp_below {Γ : Nat → Value} {w w' : World} (h : Kp (Ow Γ []) w w') : Go.RowKit.Below w.heap.size w w' :=
  ⟨h.os, h.tape, h.output, h.size, fun k hk => h.block k hk fun ⟨_, l, _⟩ => l.elim⟩
/-- Nothing is handed over. -/
def No : Bl := fun _ => False
def Ga : Nat → Value := fun _ => .bool false
/-- The arguments of a law. -/
def Lay (w : World) (args : List PV) (vs : List Value) : Prop := vs.length = args.length ∧ ∀ (i : Nat) (x : PV) (v : Value), args[i]? = some x → vs[i]? = some v → DR w No x v
theorem lay_nil {w : World} : Lay w [] [] := ⟨rfl, fun _ _ _ h => by simp at h⟩
theorem lay_cons {w : World} {x : PV} {v : Value} {xs : List PV} {vs : List Value} (h : DR w No x v) (k : Lay w xs vs) : Lay w (x :: xs) (v :: vs) :=
  ⟨congrArg (· + 1) k.1, fun i y u h1 h2 => by
    cases i with
    | zero => simp at h1 h2; obtain rfl := h1; obtain rfl := h2; exact h
    | succ i => exact k.2 i y u (by simpa using h1) (by simpa using h2)⟩
theorem Fn.law {f : FuncId} {args : List PV} {vs : List Value} {w : World} {b : Bool} (h : Fn P f args [] (.bool b) []) (hg : Glo w No No) (hl : Lay w args vs) :
    Calls P f vs.toArray w fun e w' => e = .returned (.bool b) ∧ Go.RowKit.Below w.heap.size w w' := by
  have no : ∀ b, ¬ Av No Ga [] b := fun b hb => hb.elim id fun ⟨_, l, _⟩ => l
  refine (h.run w No Ga vs.toArray ⟨fun _ h => h.elim, fun g cs e => ⟨(hg g cs e).1, fun ⟨_, l, _⟩ => l, (hg g cs e).2.2⟩⟩ (by simpa using hl.1) (fun i x hx => ?_) (fun _ => trivial) fun _ _ _ l => l.elim).mono ?_
  · have hi : i < vs.length := by
      rw [hl.1]
      exact (List.getElem?_eq_some_iff.1 hx).1
    have e := hl.2 i x vs[i] hx (List.getElem?_eq_getElem hi)
    have g : vs.toArray.getD i undef = vs[i] := by simp [Array.getD, hi]
    rw [g]
    exact .data (e.step (fun _ _ _ => rfl) fun b _ hb => (no b hb).elim)
  · rintro e w' ⟨v, Γ', rfl, h1, h2, _⟩
    refine ⟨?_, kp_below h1⟩
    cases h2 with
    | data h => cases h; rfl
end Go.Pv

/- A law's arguments, opened: whole numbers, texts, slices and structs of them. -/
namespace Go.Pv
open Go.RowKit Go.WideShapes

section
variable {H : Type} {enc : TypeId × Value → H} {P : Program} {w : World} {α β : Type}

/-- What is read at type t, out of k cells, is 'f a', for an a of which R holds. -/
def Opn (enc : TypeId × Value → H) (P : Program) (w : World) (t : TypeId) (k : Nat) (f : α → PV) (R : α → Prop) : Prop :=
  ∀ (fuel : Nat) (cs : List Value) (d : DataW H × List MemPlace), DataW.trod enc P w 0 (fun _ => true) true fuel t cs = some d →
    cs.length = k ∧ ∃ a, R a ∧ (flat (f a)).length = k ∧ ∀ (j : Nat) (y : PV), (flat (f a))[j]? = some y → DR w No y (cs.getD j undef)
theorem one_dr {x : PV} {v : Value} (hx : flat x = [x]) (h : DR w No x v) : (flat x).length = 1 ∧ ∀ (j : Nat) (y : PV), (flat x)[j]? = some y → DR w No y ([v].getD j undef) := by
  rw [hx]
  refine ⟨rfl, fun j y hy => ?_⟩
  cases j with
  | zero => cases hy; exact h
  | succ j => simp at hy
theorem opn_int {t : TypeId} {k : IntKind} (ht : P.underlying t = some (.int k)) : Opn enc P w t 1 (PV.int k) (fun n => (Lit.int k n).wf = true) := fun fuel cs d h => by
  obtain ⟨n, rfl, _, hw⟩ := DataW.trod_int ht h
  exact ⟨rfl, n, hw, one_dr rfl (.int k n)⟩
theorem all_list {Q : Nat → α → Prop} : ∀ (n : Nat), (∀ i, i < n → ∃ a, Q i a) → ∃ l : List α, l.length = n ∧ ∀ i a, l[i]? = some a → Q i a
  | 0, _ => ⟨[], rfl, fun i a h => by simp at h⟩
  | n + 1, h => by
    obtain ⟨l, h1, h2⟩ := all_list n fun i hi => h i (by omega)
    obtain ⟨a, ha⟩ := h n (by omega)
    refine ⟨l ++ [a], by simp [h1], fun i x hx => ?_⟩
    by_cases hi : i < l.length
    · rw [List.getElem?_append_left hi] at hx; exact h2 i x hx
    · rw [List.getElem?_append_right (by omega)] at hx
      by_cases e : i = l.length
      · subst e; rw [Nat.sub_self] at hx; cases hx; rw [h1]; exact ha
      · rw [show i - l.length = (i - l.length - 1) + 1 by omega] at hx; simp at hx
theorem opn_slice {t e : TypeId} {k : Nat} {f : α → PV} {R : α → Prop} (ht : P.underlying t = some (.slice e)) (hk : P.cellsOf e = k) (h0 : 0 < k) (he : Opn enc P w e k f R) :
    Opn enc P w t 1 (fun l : List α => .far (l.map f)) (fun l => l.length ≤ 9223372036854775807 ∧ ∀ a ∈ l, R a) := fun fuel cs d h => by
  rcases DataW.trod_slice ht h with ⟨rfl, _⟩ | ⟨a, len, cap, elems, rest, n, _, rfl, _, _, hl, hm, hlen, hel, _, _⟩
  · exact ⟨rfl, [], ⟨by simp, by simp⟩, one_dr rfl (.far0 _ _)⟩
  · refine ⟨rfl, ?_⟩
    rw [hk] at hel
    have each : ∀ i, i < len → ∃ x, R x ∧ (flat (f x)).length = k ∧ ∀ (j : Nat) (y : PV), (flat (f x))[j]? = some y → ∃ v, w.cell? ((a.add (i * k)).add j) = some v ∧ DR w No y v := fun i hi => by
      have h1 := hel i hi
      rw [List.getElem?_eq_getElem (by omega), Option.bind_eq_some_iff] at h1
      obtain ⟨cs, h2, h3⟩ := h1
      obtain ⟨h4, x, h5, h6, h7⟩ := he _ _ _ h3
      refine ⟨x, h5, h6, fun j y hy => ?_⟩
      have hj : j < k := by rw [← h6]; exact (List.getElem?_eq_some_iff.1 hy).1
      unfold World.cells? at h2
      rw [if_pos (Nat.zero_le _)] at h2
      have h8 := mapM_some_get h2 j j (by simp [hj])
      rw [List.getElem?_eq_getElem (by omega)] at h8
      refine ⟨_, h8, ?_⟩
      have := h7 j y hy
      rw [List.getD_eq_getElem?_getD, List.getElem?_eq_getElem (by omega)] at this
      exact this
    obtain ⟨l, h1, h2⟩ := all_list len each
    refine ⟨l, ⟨by rw [h1]; exact Nat.le_trans hl hm, fun x hx => ?_⟩, one_dr rfl ?_⟩
    · obtain ⟨i, hi⟩ := List.getElem?_of_mem hx
      exact (h2 i x hi).1
    · by_cases hz : len = 0
      · obtain rfl : l = [] := List.eq_nil_of_length_eq_zero (by omega)
        subst hz
        exact .far0 _ _
      · obtain ⟨β, o, spot⟩ := a
        have cell : ∀ (i : Nat) (x : α) (j : Nat) (y : PV), l[i]? = some x → (flat (f x))[j]? = some y → ∃ v, w.cell? ⟨β, o + i * k + j, if i * k = 0 ∧ j = 0 then spot else none⟩ = some v ∧ DR w No y v := fun i x j y hx hy => by
          obtain ⟨v, q1, q2⟩ := (h2 i x hx).2.2 j y hy
          refine ⟨v, ?_, q2⟩
          rw [← q1]
          unfold Addr.add
          by_cases e1 : i * k = 0 <;> by_cases e2 : j = 0 <;> simp [e1, e2]
        obtain ⟨x0, hx0⟩ : ∃ x, l[0]? = some x := ⟨l[0]'(by omega), List.getElem?_eq_getElem (by omega)⟩
        have hfl := (h2 0 x0 hx0).2.1
        obtain ⟨v, q1, _⟩ := cell 0 x0 0 ((flat (f x0))[0]'(by omega)) hx0 (List.getElem?_eq_getElem (by omega))
        simp only [Nat.zero_mul, true_and, and_self, if_true] at q1
        obtain ⟨c, t', fr, hw, hs⟩ : ∃ c t' fr, w.heap[β]? = some (.cells c t' fr) ∧ spot = none := by
          unfold World.cell? at q1
          split at q1
          · rename_i c t' fr hw
            refine ⟨c, t', fr, hw, ?_⟩
            cases spot with
            | none => rfl
            | some s => simp at q1
          · cases q1
        subst hs
        simp only [ite_self] at cell
        have cc : ∀ (i : Nat) (x : α) (j : Nat) (y : PV), l[i]? = some x → (flat (f x))[j]? = some y → o + i * k + j < c.size ∧ DR w No y (c.getD (o + i * k + j) undef) := fun i x j y hx hy => by
          obtain ⟨v, q1, q2⟩ := cell i x j y hx hy
          unfold World.cell? at q1
          simp only [hw] at q1
          have q3 := (Array.getElem?_eq_some_iff.1 (by simpa using q1 : c[o + i * k + j]? = some v)).1
          refine ⟨q3, ?_⟩
          have q4 : c[o + i * k + j]? = some v := by simpa using q1
          rw [Array.getD_eq_getD_getElem?, q4]
          exact q2
        have pick : ∀ (i : Nat) (x : PV), (l.map f)[i]? = some x → ∃ a, l[i]? = some a ∧ x = f a := fun i x hx => by
          rw [List.getElem?_map, Option.map_eq_some_iff] at hx
          obtain ⟨a, ha, rfl⟩ := hx
          exact ⟨a, ha, rfl⟩
        have key := DR.far (w := w) (A := No) (l.map f) β o cap k c t' fr (fun h => h) hw (by simpa [h1] using hl)
          (fun i x hx => by obtain ⟨a, ha, rfl⟩ := pick i x hx; exact (h2 i a ha).2.1)
          (fun i x j y hx hy => by obtain ⟨a, ha, rfl⟩ := pick i x hx; exact (cc i a j y ha hy).1)
          (fun i x j y hx hy => by obtain ⟨a, ha, rfl⟩ := pick i x hx; exact (cc i a j y ha hy).2)
        rw [List.length_map, h1] at key
        exact key
theorem arg_slice {t e : TypeId} {f : α → PV} {R : List α → Prop} {base : Nat} {v : Value} {d : DataW H} {ps : List MemPlace} (ht : P.underlying t = some (.slice e)) (h : Opn enc P w t 1 (fun l : List α => .far (l.map f)) R) (hval : Value.okWide P w .any base t v)
    (hd : DataW.Trod enc P w 0 (fun _ => true) true t v d ps) : ∃ l, R l ∧ DR w No (.far (l.map f)) v := by
  obtain ⟨a, len, cap, rfl⟩ := okWide_slice ht hval
  obtain ⟨fuel, hf⟩ := hd
  obtain ⟨h1, l, h2, h3, h4⟩ := h _ _ _ hf
  exact ⟨l, h2, h4 0 _ rfl⟩
end
end Go.Pv
