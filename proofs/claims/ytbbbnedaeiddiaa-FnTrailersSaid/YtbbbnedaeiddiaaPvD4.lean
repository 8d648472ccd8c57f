/- The texts of this claim, part 4: a small logic of plain values for the model's runs, what it says of the functions, in plain values. -/
import Derived.Below
import Derived.ChangeArms
import Derived.ChangeShapes
import Derived.WideShapes
import Derived.Test.YtbbbnedaeiddiaaPvD0
import Derived.Test.YtbbbnedaeiddiaaPvD1
import Derived.Test.YtbbbnedaeiddiaaPvD2
import Derived.Test.YtbbbnedaeiddiaaPvD3
/- What functions of the program and of the reference do, in plain values. -/
namespace Go.Pv
open Go.Proofs Go.Mth
set_option linter.unusedSimpArgs false
set_option linter.unusedVariables false
set_option maxHeartbeats 4000000

/-! ### draws: a cursor over bytes -/
def bkd (κ R : List Nat) (key : Nat) (hp ha : Hp) (K : PV → Hp → Prop) (res : PV) (hr : Hp) : Prop :=
  Ck (resOk res && hpB hr) ∧ KeysOk hp (ln κ) key hr ∧ Mn ha hr (ln κ) ∧ K (rk (sg κ key) res) (rkH (sg κ key) hr ++ gone hr κ 0 ++ R.map fun k => (k, HC.dead))
/-- A call that reads memory of the caller's, which then is gone. -/
theorem call_hd {P : Program} {hp : Hp} {key : Nat} (κ R : List Nat) {xs ys : List PV} {f : FuncId} {ha : Hp} {Q K : PV → Hp → Prop} (h : FnE P f ys ha Q) (hn : κ.Nodup ∧ (∀ k ∈ κ, k ∉ R) ∧ κ.length ≤ 64) (hc : cvtl (cvt hp R κ) xs = some ys) (hh : hand hp R κ κ 0 = some ha)
    (hk : ∀ res hr, Q res hr → bkd κ R key hp ha K res hr) : Call P hp key xs f K := by
  obtain ⟨res, hr, hq, hf⟩ := h
  obtain ⟨⟨h1⟩, h3, h4, h5⟩ := hk res hr hq
  simp only [Bool.and_eq_true] at h1
  rw [ln_eq] at h3 h4
  exact ⟨κ, R, false, ys, ha, res, hr, hc, hh, hf, hn, h3, Mn_mono h4, ⟨h1.1, hpB_ok h1.2⟩, fun e => Bool.noConfusion e, h5⟩
section
variable {hp hr : Hp}
theorem frz1_rv' {x y : PV} (h : frz1 hp x = some y) : RV1 hp hr [] y x ∧ RV2 hp hr [] y x ∧ RV hp hr [] y x := by
  unfold frz1 at h
  split at h
  · cases h; exact ⟨.inr (.inl ⟨rfl, rfl⟩), .inr (.inl ⟨rfl, rfl⟩), .inr (.inl ⟨rfl, rfl⟩)⟩
  · cases h; exact ⟨trivial, trivial, trivial⟩
  · rename_i g n
    split at h
    · rename_i hg
      rw [Option.map_eq_some_iff] at h
      obtain ⟨xs, h1, rfl⟩ := h
      have k : RV1 hp hr [] (.far xs) (.row g n) := .inr (.inr ⟨g, n, rfl, h1, by simp, Nat.le_of_ble_eq_true hg⟩)
      exact ⟨k, k, k⟩
    · cases h
  · split at h
    · rename_i hd
      cases h
      cases x <;> first
        | exact ⟨⟨hd, rfl⟩, ⟨hd, rfl⟩, ⟨hd, rfl⟩⟩
        | exact ⟨.inl rfl, .inl rfl, .inl rfl⟩
        | cases hd
    · cases h
theorem frz2_rv' {x y : PV} (h : frz2 hp x = some y) : RV2 hp hr [] y x ∧ RV hp hr [] y x := by
  cases x
  case agg xs =>
    simp only [frz2, Option.map_eq_some_iff] at h
    obtain ⟨ys, h1, rfl⟩ := h
    have k : RV2 hp hr [] (.agg ys) (.agg xs) := ⟨xs, rfl, cvtl_rvl (fun _ _ h => (frz1_rv' h).1) h1⟩
    exact ⟨k, k⟩
  all_goals (simp only [frz2] at h; exact (frz1_rv' h).2)
theorem frz_rv' {x y : PV} (h : frz hp x = some y) : RV hp hr [] y x := by
  cases x
  case tup xs =>
    simp only [frz, Option.map_eq_some_iff] at h
    obtain ⟨ys, h1, rfl⟩ := h
    exact ⟨xs, rfl, cvtl_rvl (fun _ _ h => (frz2_rv' h).1) h1⟩
  all_goals (simp only [frz] at h; exact (frz2_rv' h).2)
theorem rvl_self : ∀ {cs : List PV}, cs.all data1 = true → RVl (RV1 hp hr []) cs cs
  | [], _ => trivial
  | x :: cs, h => by
    simp only [List.all_cons, Bool.and_eq_true] at h
    refine ⟨?_, rvl_self h.2⟩
    cases x <;> first
      | exact ⟨h.1, rfl⟩
      | exact .inl rfl
      | exact trivial
      | cases h.1
theorem fin_c {T : Tab} {rs : List ResultVar} {ha : Hp} {Q : PV → Hp → Prop} {s : St} {xs cs : List PV} {y : PV} {q : TypeId} (h1 : resv T s rs = some xs) (h2 : frz s.hp (oneOf xs) = some y) (hc : hget s.hp 0 = some (.box q cs)) (hcs : cs.all data1 = true) (hq : Q y [(0, .box q cs)]) : Fin T rs ha Q s :=
  fin_t [] hq h1 (frz_rv' h2) ⟨⟨cs, hc, rvl_self hcs⟩, trivial⟩ trivial
end
def curB (code : List Int) (i h : Int) : HC := .box 106 [.far (code.map (.int .u8)), .int .i64 i, .int .i64 h]
def CurOk (code : List Int) (i h : Int) : Prop := (0 ≤ i ∧ i ≤ code.length) ∧ i64 h
def Bytes (code : List Int) : Prop := code.length ≤ 1048576 ∧ ∀ x ∈ code, 0 ≤ x ∧ x ≤ 255
/-- What a draw brings: a value of which A holds, and a cursor. -/
def CQ (code : List Int) (A : PV → Prop) (r : PV) (m : Hp) : Prop := A r ∧ ∃ i h, m = [(0, curB code i h)] ∧ CurOk code i h
/-- 0 .. n-1; 0 where n is not above 0. -/
def Bel (n x : Int) : Prop := (n ≤ 0 → x = 0) ∧ (0 < n → 0 ≤ x ∧ x < n)
def Mem (xs : List Int) (x : Int) : Prop := x ∈ xs
def MemT (xs : List ByteArray) (x : ByteArray) : Prop := x ∈ xs
def isBool (r : PV) : Prop := ∃ x, r = .bool x
def isInt (A : Int → Prop) (r : PV) : Prop := ∃ x, r = .int .i64 x ∧ A x
def isStr' (A : ByteArray → Prop) (r : PV) : Prop := ∃ x, r = .str x ∧ A x
theorem wrap_i64r (n : Int) : i64 (IntKind.i64.wrap n) := by rw [IntKind.wrap_i64]; unfold i64; omega
theorem and_mask30 (s : Int) : Go.bits .and .i64 s 1073741823 = s % 1073741824 := and_mask64 s 30 (by decide)
theorem l01New (code : List Int) (hb : Bytes code) : FnE Try.prog 78 [.far (code.map (.int .u8))] [] (fun r m => r = .ref 64 0 ∧ ∃ h, m = [(64, curB code 0 h)] ∧ CurOk code 0 h) := by
  obtain ⟨hl, hx⟩ := hb
  refine fn_e tok (n := 32) (rs := [.tmp 2]) Try.func78 (by decide) rfl rfl rfl rfl (low_of rfl) ?_
  (try simp (maxSteps := 1000000) (disch := first | omega | (simp only [LN, numOk, verOk, rfP, rvP, rhP, frP, curB, bkd] <;> omega) | exact Ck.mk rfl) only [VC, T, Nat.reduceMul, Nat.reduceAdd, Nat.reduceSub, Nat.reduceLT, Nat.reduceEqDiff, Nat.reduceLeDiff, Nat.reduceBEq, reduceCtorEq, Int.reduceToNat, ↓reduceIte, rfP, rvP, rhP, frP, curB, bkd])
  repeat' (first
    | (refine br_go (fun e f => ?_) (fun e f => ?_) <;> (try simp only [BB] at f) <;> (try simp only [numOk, verOk] at f) <;> (try simp (maxSteps := 1000000) (disch := first | omega | (simp only [LN, numOk, verOk, rfP, rvP, rhP, frP, curB, bkd] <;> omega) | exact Ck.mk rfl) only [e, VC, T, Nat.reduceMul, Nat.reduceAdd, Nat.reduceSub, Nat.reduceLT, Nat.reduceEqDiff, Nat.reduceLeDiff, Nat.reduceBEq, reduceCtorEq, Int.reduceToNat, ↓reduceIte, rfP, rvP, rhP, frP, curB, bkd]) <;> (try clear e))
    | (refine pick_go (fun e f => ?_) (fun e f => ?_) <;> (try simp only [BB] at f) <;> (try simp only [numOk, verOk] at f) <;> (try simp (maxSteps := 1000000) (disch := first | omega | (simp only [LN, numOk, verOk, rfP, rvP, rhP, frP, curB, bkd] <;> omega) | exact Ck.mk rfl) only [e, VC, T, Nat.reduceMul, Nat.reduceAdd, Nat.reduceSub, Nat.reduceLT, Nat.reduceEqDiff, Nat.reduceLeDiff, Nat.reduceBEq, reduceCtorEq, Int.reduceToNat, ↓reduceIte, rfP, rvP, rhP, frP, curB, bkd]) <;> (try clear e)))
  refine lp_go (fun x : Nat × Int => ⟨32, [(0, .far (code.map (.int .u8))), (3, .int .i64 x.2), (4, .int .i64 x.1)], []⟩) (fun x => x.1 ≤ code.length ∧ 0 ≤ x.2 ∧ x.2 ≤ 1073741824) (fun x => code.length - x.1) (0, 94701 + code.length) ?_ ⟨Nat.zero_le _, by simp only; omega, by simp only; omega⟩ ?_
  · (simp (disch := first | omega | (simp only [LN, numOk, verOk] <;> omega) | exact Ck.mk rfl) only [SB, EQ, Nat.reduceMul, Nat.reduceAdd, Nat.reduceSub, Nat.reduceLT, Nat.reduceEqDiff, Nat.reduceLeDiff, Nat.reduceBEq, reduceCtorEq, Int.reduceToNat, ↓reduceIte]; try omega)
  · rintro ⟨i, h⟩ ⟨h1, h2, h3⟩ N hN
    simp only at h1 h2 h3
    have hg : i < code.length → 0 ≤ code.getD i default ∧ code.getD i default ≤ 255 := fun h => hx _ (getD_mem _ _ h)
    (try simp (maxSteps := 1000000) (disch := first | omega | (simp only [LN, numOk, verOk, rfP, rvP, rhP, frP, curB, bkd, and_mask30] <;> omega) | exact Ck.mk rfl) only [VC, T, Nat.reduceMul, Nat.reduceAdd, Nat.reduceSub, Nat.reduceLT, Nat.reduceEqDiff, Nat.reduceLeDiff, Nat.reduceBEq, reduceCtorEq, Int.reduceToNat, ↓reduceIte, rfP, rvP, rhP, frP, curB, bkd, and_mask30])
    repeat' (first
      | (refine br_go (fun e f => ?_) (fun e f => ?_) <;> (try simp only [BB] at f) <;> (try simp only [numOk, verOk] at f) <;> (try simp (maxSteps := 1000000) (disch := first | omega | (simp only [LN, numOk, verOk, rfP, rvP, rhP, frP, curB, bkd, and_mask30] <;> omega) | exact Ck.mk rfl) only [e, VC, T, Nat.reduceMul, Nat.reduceAdd, Nat.reduceSub, Nat.reduceLT, Nat.reduceEqDiff, Nat.reduceLeDiff, Nat.reduceBEq, reduceCtorEq, Int.reduceToNat, ↓reduceIte, rfP, rvP, rhP, frP, curB, bkd, and_mask30]) <;> (try clear e))
      | (refine pick_go (fun e f => ?_) (fun e f => ?_) <;> (try simp only [BB] at f) <;> (try simp only [numOk, verOk] at f) <;> (try simp (maxSteps := 1000000) (disch := first | omega | (simp only [LN, numOk, verOk, rfP, rvP, rhP, frP, curB, bkd, and_mask30] <;> omega) | exact Ck.mk rfl) only [e, VC, T, Nat.reduceMul, Nat.reduceAdd, Nat.reduceSub, Nat.reduceLT, Nat.reduceEqDiff, Nat.reduceLeDiff, Nat.reduceBEq, reduceCtorEq, Int.reduceToNat, ↓reduceIte, rfP, rvP, rhP, frP, curB, bkd, and_mask30]) <;> (try clear e)))
    · refine hN (i + 1, (h * 131 + code.getD i default + 7) % 1073741824) _ ⟨by simp only; omega, by simp only; omega, by simp only; omega⟩ (by simp only; omega) ?_
      (simp (disch := first | omega | (simp only [LN, numOk, verOk] <;> omega) | exact Ck.mk rfl) only [SB, EQ, Nat.reduceMul, Nat.reduceAdd, Nat.reduceSub, Nat.reduceLT, Nat.reduceEqDiff, Nat.reduceLeDiff, Nat.reduceBEq, reduceCtorEq, Int.reduceToNat, ↓reduceIte]; try omega)
    · exact fin_t [some 2048] (⟨rfl, h, rfl, ⟨by omega, by omega⟩, by unfold i64; omega⟩) rfl (by simp [RV, RV2, RVl, RV1, tau, tget, hget, data1, oneOf, curB]) (by simp [RH, RVl, RV1, tau, hget, data1, curB]) (by simp [Taus, hget, curB])
    · exact fin_t [some 2048] (⟨rfl, h, rfl, ⟨by omega, by omega⟩, by unfold i64; omega⟩) rfl (by simp [RV, RV2, RVl, RV1, tau, tget, hget, data1, oneOf, curB]) (by simp [RH, RVl, RV1, tau, hget, data1, curB]) (by simp [Taus, hget, curB])
theorem l01Byte (code : List Int) (hb : Bytes code) (i h : Int) (hc : CurOk code i h) : FnE Try.prog 123 [.ref 0 0] [(0, curB code i h)] (CQ code (isInt (Bel 256))) := by
  obtain ⟨⟨h1, h2⟩, h3⟩ := hc
  obtain ⟨hl, hx⟩ := hb
  have hw := wrap_i64r (IntKind.i64.wrap (h * 6364136223846793005) + 1442695040888963407)
  have hg : ∀ n : Nat, n < code.length → 0 ≤ code.getD n default ∧ code.getD n default ≤ 255 := fun n h => hx _ (getD_mem _ _ h)
  refine fn_e tok (n := 58) (rs := [.tmp 2]) Try.func123 (by decide) rfl rfl rfl rfl (low_of rfl) ?_
  (try simp (maxSteps := 1000000) (disch := first | omega | (simp only [LN, numOk, verOk, rfP, rvP, rhP, frP, curB, bkd, and_255] <;> omega) | exact Ck.mk rfl) only [VC, T, Nat.reduceMul, Nat.reduceAdd, Nat.reduceSub, Nat.reduceLT, Nat.reduceEqDiff, Nat.reduceLeDiff, Nat.reduceBEq, reduceCtorEq, Int.reduceToNat, ↓reduceIte, rfP, rvP, rhP, frP, curB, bkd, and_255])
  repeat' (first
    | (refine br_go (fun e f => ?_) (fun e f => ?_) <;> (try simp only [BB] at f) <;> (try simp only [numOk, verOk] at f) <;> (try simp (maxSteps := 1000000) (disch := first | omega | (simp only [LN, numOk, verOk, rfP, rvP, rhP, frP, curB, bkd, and_255] <;> omega) | exact Ck.mk rfl) only [e, VC, T, Nat.reduceMul, Nat.reduceAdd, Nat.reduceSub, Nat.reduceLT, Nat.reduceEqDiff, Nat.reduceLeDiff, Nat.reduceBEq, reduceCtorEq, Int.reduceToNat, ↓reduceIte, rfP, rvP, rhP, frP, curB, bkd, and_255]) <;> (try clear e))
    | (refine pick_go (fun e f => ?_) (fun e f => ?_) <;> (try simp only [BB] at f) <;> (try simp only [numOk, verOk] at f) <;> (try simp (maxSteps := 1000000) (disch := first | omega | (simp only [LN, numOk, verOk, rfP, rvP, rhP, frP, curB, bkd, and_255] <;> omega) | exact Ck.mk rfl) only [e, VC, T, Nat.reduceMul, Nat.reduceAdd, Nat.reduceSub, Nat.reduceLT, Nat.reduceEqDiff, Nat.reduceLeDiff, Nat.reduceBEq, reduceCtorEq, Int.reduceToNat, ↓reduceIte, rfP, rvP, rhP, frP, curB, bkd, and_255]) <;> (try clear e))
    | ((first | refine dr_go mixed (id := 2) [([], [0], []), ([0], [13], []), ([0, 1], [14], []), ([0, 1, 2], [15], []), ([0, 1, 2, 3], [16], []), ([], [0], []), ([5], [18], []), ([5, 6], [19], []), ([5, 6, 7], [20], []), ([5, 6, 7, 8], [21], []), ([0, 1, 2, 3, 4, 5, 6, 7, 8, 9], [17, 22], []), ([0, 1, 2, 3, 4, 5, 6, 7, 8, 9, 10], [23], []), ([0, 1, 2, 3, 4, 5, 6, 7, 8, 9, 10, 11], [24], [])] rfl rfl rfl ?_ | refine dr_go mixed (id := 3) [([], [0], []), ([0], [25], []), ([0, 1], [26], []), ([0, 1, 2], [27], []), ([], [0], []), ([4], [29], []), ([4, 5], [30], []), ([4, 5, 6], [31], []), ([4, 5, 6, 7], [32], []), ([0, 1, 2, 3, 4, 5, 6, 7, 8], [28, 33], [])] rfl rfl rfl ?_ | refine dr_go mixed (id := 4) [([], [3], []), ([], [0], []), ([1], [36], []), ([1, 2], [37], []), ([1, 2, 3], [38], []), ([], [0], []), ([5], [40], []), ([5, 6], [41], []), ([5, 6, 7], [42], []), ([1, 2, 3, 4, 5, 6, 7, 8], [39, 43], []), ([1, 2, 3, 4, 5, 6, 7, 8, 9], [44], []), ([1, 2, 3, 4, 5, 6, 7, 8, 9, 10], [45], []), ([0, 1, 2, 3, 4, 5, 6, 7, 8, 9, 10, 11], [35, 46], []), ([0, 1, 2, 3, 4, 5, 6, 7, 8, 9, 10, 11, 12], [47], []), ([0, 1, 2, 3, 4, 5, 6, 7, 8, 9, 10, 11, 12, 13], [48], [])] rfl rfl rfl ?_); (try simp (maxSteps := 1000000) (disch := first | omega | (simp only [LN, numOk, verOk, rfP, rvP, rhP, frP, curB, bkd, and_255] <;> omega) | exact Ck.mk rfl) only [VC, T, Nat.reduceMul, Nat.reduceAdd, Nat.reduceSub, Nat.reduceLT, Nat.reduceEqDiff, Nat.reduceLeDiff, Nat.reduceBEq, reduceCtorEq, Int.reduceToNat, ↓reduceIte, rfP, rvP, rhP, frP, curB, bkd, and_255])))
  · refine fin_c rfl (by first | rfl | (simp (maxSteps := 1000000) (disch := first | omega | (simp only [LN, numOk, verOk, rfP, rvP, rhP, frP, curB, bkd] <;> omega) | exact Ck.mk rfl) only [VC, T, Nat.reduceMul, Nat.reduceAdd, Nat.reduceSub, Nat.reduceLT, Nat.reduceEqDiff, Nat.reduceLeDiff, Nat.reduceBEq, reduceCtorEq, Int.reduceToNat, ↓reduceIte, rfP, rvP, rhP, frP, curB, bkd]; done)) rfl rfl ?_
    exact ⟨⟨_, rfl, fun h => by omega, fun _ => by omega⟩, _, _, rfl, ⟨by omega, by omega⟩, hw⟩
  · refine fin_c rfl (by first | rfl | (simp (maxSteps := 1000000) (disch := first | omega | (simp only [LN, numOk, verOk, rfP, rvP, rhP, frP, curB, bkd] <;> omega) | exact Ck.mk rfl) only [VC, T, Nat.reduceMul, Nat.reduceAdd, Nat.reduceSub, Nat.reduceLT, Nat.reduceEqDiff, Nat.reduceLeDiff, Nat.reduceBEq, reduceCtorEq, Int.reduceToNat, ↓reduceIte, rfP, rvP, rhP, frP, curB, bkd]; done)) rfl rfl ?_
    exact ⟨⟨_, rfl, fun h => by omega, fun _ => by omega⟩, _, _, rfl, ⟨by omega, by omega⟩, hw⟩
theorem l01Below (code : List Int) (hb : Bytes code) (n : Int) (hn : n ≤ 1000000000) (i h : Int) (hc : CurOk code i h) : FnE Try.prog 81 [.ref 0 0, .int .i64 n] [(0, curB code i h)] (CQ code (isInt (Bel n))) := by
  have ht : ∀ x : Int, 0 ≤ x → x.tmod n = x % n := fun x h => Int.tmod_eq_emod_of_nonneg h
  have hm : ∀ x : Int, 0 < n → 0 ≤ x % n ∧ x % n < n := fun x h => ⟨Int.emod_nonneg _ (by omega), Int.emod_lt_of_pos _ h⟩
  refine fn_e tok (n := 37) (rs := [.tmp 4]) Try.func81 (by decide) rfl rfl rfl rfl (low_of rfl) ?_
  (try simp (maxSteps := 1000000) (disch := first | omega | (simp only [LN, numOk, verOk, rfP, rvP, rhP, frP, curB, bkd, ht] <;> omega) | exact Ck.mk rfl) only [VC, T, Nat.reduceMul, Nat.reduceAdd, Nat.reduceSub, Nat.reduceLT, Nat.reduceEqDiff, Nat.reduceLeDiff, Nat.reduceBEq, reduceCtorEq, Int.reduceToNat, ↓reduceIte, rfP, rvP, rhP, frP, curB, bkd, ht])
  repeat' (first
    | (refine br_go (fun e f => ?_) (fun e f => ?_) <;> (try simp only [BB] at f) <;> (try simp only [numOk, verOk] at f) <;> (try simp (maxSteps := 1000000) (disch := first | omega | (simp only [LN, numOk, verOk, rfP, rvP, rhP, frP, curB, bkd, ht] <;> omega) | exact Ck.mk rfl) only [e, VC, T, Nat.reduceMul, Nat.reduceAdd, Nat.reduceSub, Nat.reduceLT, Nat.reduceEqDiff, Nat.reduceLeDiff, Nat.reduceBEq, reduceCtorEq, Int.reduceToNat, ↓reduceIte, rfP, rvP, rhP, frP, curB, bkd, ht]) <;> (try clear e))
    | (refine pick_go (fun e f => ?_) (fun e f => ?_) <;> (try simp only [BB] at f) <;> (try simp only [numOk, verOk] at f) <;> (try simp (maxSteps := 1000000) (disch := first | omega | (simp only [LN, numOk, verOk, rfP, rvP, rhP, frP, curB, bkd, ht] <;> omega) | exact Ck.mk rfl) only [e, VC, T, Nat.reduceMul, Nat.reduceAdd, Nat.reduceSub, Nat.reduceLT, Nat.reduceEqDiff, Nat.reduceLeDiff, Nat.reduceBEq, reduceCtorEq, Int.reduceToNat, ↓reduceIte, rfP, rvP, rhP, frP, curB, bkd, ht]) <;> (try clear e))
    | ((first | (refine call_h [0] [] (l01Byte code hb _ _ (by assumption)) (by decide) rfl rfl ?_; rintro _ _ ⟨⟨x, rfl, hx1, hx2⟩, i', h', rfl, hc'⟩)); (try simp (maxSteps := 1000000) (disch := first | omega | (simp only [LN, numOk, verOk, rfP, rvP, rhP, frP, curB, bkd, ht] <;> omega) | exact Ck.mk rfl) only [VC, T, Nat.reduceMul, Nat.reduceAdd, Nat.reduceSub, Nat.reduceLT, Nat.reduceEqDiff, Nat.reduceLeDiff, Nat.reduceBEq, reduceCtorEq, Int.reduceToNat, ↓reduceIte, rfP, rvP, rhP, frP, curB, bkd, ht])))
  · refine fin_c rfl (by first | rfl | (simp (maxSteps := 1000000) (disch := first | omega | (simp only [LN, numOk, verOk, rfP, rvP, rhP, frP, curB, bkd] <;> omega) | exact Ck.mk rfl) only [VC, T, Nat.reduceMul, Nat.reduceAdd, Nat.reduceSub, Nat.reduceLT, Nat.reduceEqDiff, Nat.reduceLeDiff, Nat.reduceBEq, reduceCtorEq, Int.reduceToNat, ↓reduceIte, rfP, rvP, rhP, frP, curB, bkd]; done)) rfl rfl ?_
    exact ⟨⟨_, rfl, fun _ => rfl, fun _ => by omega⟩, _, _, rfl, by assumption⟩
  · refine fin_c rfl (by first | rfl | (simp (maxSteps := 1000000) (disch := first | omega | (simp only [LN, numOk, verOk, rfP, rvP, rhP, frP, curB, bkd] <;> omega) | exact Ck.mk rfl) only [VC, T, Nat.reduceMul, Nat.reduceAdd, Nat.reduceSub, Nat.reduceLT, Nat.reduceEqDiff, Nat.reduceLeDiff, Nat.reduceBEq, reduceCtorEq, Int.reduceToNat, ↓reduceIte, rfP, rvP, rhP, frP, curB, bkd]; done)) rfl rfl ?_
    refine ⟨⟨_, rfl, ?_, ?_⟩, _, _, rfl, by assumption⟩
    · intro h; omega
    · intro h; exact hm _ h
  · refine fin_c rfl (by first | rfl | (simp (maxSteps := 1000000) (disch := first | omega | (simp only [LN, numOk, verOk, rfP, rvP, rhP, frP, curB, bkd] <;> omega) | exact Ck.mk rfl) only [VC, T, Nat.reduceMul, Nat.reduceAdd, Nat.reduceSub, Nat.reduceLT, Nat.reduceEqDiff, Nat.reduceLeDiff, Nat.reduceBEq, reduceCtorEq, Int.reduceToNat, ↓reduceIte, rfP, rvP, rhP, frP, curB, bkd]; done)) rfl rfl ?_
    refine ⟨⟨_, rfl, ?_, ?_⟩, _, _, rfl, by assumption⟩
    · intro h; omega
    · intro h; exact hm _ h
theorem l01Once (code : List Int) (hb : Bytes code) (n : Int) (hn : n ≤ 1000000000) (i h : Int) (hc : CurOk code i h) : FnE Try.prog 122 [.ref 0 0, .int .i64 n] [(0, curB code i h)] (CQ code isBool) := by
  refine fn_e tok (n := 9) (rs := [.tmp 4]) Try.func122 (by decide) rfl rfl rfl rfl (low_of rfl) ?_
  (try simp (maxSteps := 1000000) (disch := first | omega | (simp only [LN, numOk, verOk, rfP, rvP, rhP, frP, curB, bkd] <;> omega) | exact Ck.mk rfl) only [VC, T, Nat.reduceMul, Nat.reduceAdd, Nat.reduceSub, Nat.reduceLT, Nat.reduceEqDiff, Nat.reduceLeDiff, Nat.reduceBEq, reduceCtorEq, Int.reduceToNat, ↓reduceIte, rfP, rvP, rhP, frP, curB, bkd])
  repeat' (first
    | (refine br_go (fun e f => ?_) (fun e f => ?_) <;> (try simp only [BB] at f) <;> (try simp only [numOk, verOk] at f) <;> (try simp (maxSteps := 1000000) (disch := first | omega | (simp only [LN, numOk, verOk, rfP, rvP, rhP, frP, curB, bkd] <;> omega) | exact Ck.mk rfl) only [e, VC, T, Nat.reduceMul, Nat.reduceAdd, Nat.reduceSub, Nat.reduceLT, Nat.reduceEqDiff, Nat.reduceLeDiff, Nat.reduceBEq, reduceCtorEq, Int.reduceToNat, ↓reduceIte, rfP, rvP, rhP, frP, curB, bkd]) <;> (try clear e))
    | (refine pick_go (fun e f => ?_) (fun e f => ?_) <;> (try simp only [BB] at f) <;> (try simp only [numOk, verOk] at f) <;> (try simp (maxSteps := 1000000) (disch := first | omega | (simp only [LN, numOk, verOk, rfP, rvP, rhP, frP, curB, bkd] <;> omega) | exact Ck.mk rfl) only [e, VC, T, Nat.reduceMul, Nat.reduceAdd, Nat.reduceSub, Nat.reduceLT, Nat.reduceEqDiff, Nat.reduceLeDiff, Nat.reduceBEq, reduceCtorEq, Int.reduceToNat, ↓reduceIte, rfP, rvP, rhP, frP, curB, bkd]) <;> (try clear e))
    | ((first | (refine call_h [0] [] (l01Below code hb _ (by omega) _ _ (by assumption)) (by decide) rfl rfl ?_; rintro _ _ ⟨⟨x, rfl, hx1, hx2⟩, i', h', rfl, hc'⟩)); (try simp (maxSteps := 1000000) (disch := first | omega | (simp only [LN, numOk, verOk, rfP, rvP, rhP, frP, curB, bkd] <;> omega) | exact Ck.mk rfl) only [VC, T, Nat.reduceMul, Nat.reduceAdd, Nat.reduceSub, Nat.reduceLT, Nat.reduceEqDiff, Nat.reduceLeDiff, Nat.reduceBEq, reduceCtorEq, Int.reduceToNat, ↓reduceIte, rfP, rvP, rhP, frP, curB, bkd])))
  refine fin_c rfl (by first | rfl | (simp (maxSteps := 1000000) (disch := first | omega | (simp only [LN, numOk, verOk, rfP, rvP, rhP, frP, curB, bkd] <;> omega) | exact Ck.mk rfl) only [VC, T, Nat.reduceMul, Nat.reduceAdd, Nat.reduceSub, Nat.reduceLT, Nat.reduceEqDiff, Nat.reduceLeDiff, Nat.reduceBEq, reduceCtorEq, Int.reduceToNat, ↓reduceIte, rfP, rvP, rhP, frP, curB, bkd]; done)) rfl rfl ?_
  exact ⟨⟨_, rfl⟩, _, _, rfl, by assumption⟩
theorem l01PickInt (code : List Int) (hb : Bytes code) (xs : List Int) (h0 : xs ≠ []) (hl : xs.length ≤ 1000) (i h : Int) (hc : CurOk code i h) : FnE Try.prog 89 [.ref 0 0, .far (xs.map (.int .i64))] [(0, curB code i h)] (CQ code (isInt (Mem xs))) := by
  have hl0 : 0 < xs.length := List.length_pos_iff.2 h0
  refine fn_e tok (n := 12) (rs := [.tmp 4]) Try.func89 (by decide) rfl rfl rfl rfl (low_of rfl) ?_
  (try simp (maxSteps := 1000000) (disch := first | omega | (simp only [LN, numOk, verOk, rfP, rvP, rhP, frP, curB, bkd] <;> omega) | exact Ck.mk rfl) only [VC, T, Nat.reduceMul, Nat.reduceAdd, Nat.reduceSub, Nat.reduceLT, Nat.reduceEqDiff, Nat.reduceLeDiff, Nat.reduceBEq, reduceCtorEq, Int.reduceToNat, ↓reduceIte, rfP, rvP, rhP, frP, curB, bkd])
  repeat' (first
    | (refine br_go (fun e f => ?_) (fun e f => ?_) <;> (try simp only [BB] at f) <;> (try simp only [numOk, verOk] at f) <;> (try simp (maxSteps := 1000000) (disch := first | omega | (simp only [LN, numOk, verOk, rfP, rvP, rhP, frP, curB, bkd] <;> omega) | exact Ck.mk rfl) only [e, VC, T, Nat.reduceMul, Nat.reduceAdd, Nat.reduceSub, Nat.reduceLT, Nat.reduceEqDiff, Nat.reduceLeDiff, Nat.reduceBEq, reduceCtorEq, Int.reduceToNat, ↓reduceIte, rfP, rvP, rhP, frP, curB, bkd]) <;> (try clear e))
    | (refine pick_go (fun e f => ?_) (fun e f => ?_) <;> (try simp only [BB] at f) <;> (try simp only [numOk, verOk] at f) <;> (try simp (maxSteps := 1000000) (disch := first | omega | (simp only [LN, numOk, verOk, rfP, rvP, rhP, frP, curB, bkd] <;> omega) | exact Ck.mk rfl) only [e, VC, T, Nat.reduceMul, Nat.reduceAdd, Nat.reduceSub, Nat.reduceLT, Nat.reduceEqDiff, Nat.reduceLeDiff, Nat.reduceBEq, reduceCtorEq, Int.reduceToNat, ↓reduceIte, rfP, rvP, rhP, frP, curB, bkd]) <;> (try clear e))
    | ((first | (refine call_h [0] [] (l01Below code hb _ (by omega) _ _ (by assumption)) (by decide) rfl rfl ?_; rintro _ _ ⟨⟨x, rfl, hx1, hx2⟩, i', h', rfl, hc'⟩)); (try simp (maxSteps := 1000000) (disch := first | omega | (simp only [LN, numOk, verOk, rfP, rvP, rhP, frP, curB, bkd] <;> omega) | exact Ck.mk rfl) only [VC, T, Nat.reduceMul, Nat.reduceAdd, Nat.reduceSub, Nat.reduceLT, Nat.reduceEqDiff, Nat.reduceLeDiff, Nat.reduceBEq, reduceCtorEq, Int.reduceToNat, ↓reduceIte, rfP, rvP, rhP, frP, curB, bkd])))
  (try simp (maxSteps := 1000000) (disch := first | omega | (simp only [LN, numOk, verOk, rfP, rvP, rhP, frP, curB, bkd] <;> omega) | exact Ck.mk rfl) only [VC, T, Nat.reduceMul, Nat.reduceAdd, Nat.reduceSub, Nat.reduceLT, Nat.reduceEqDiff, Nat.reduceLeDiff, Nat.reduceBEq, reduceCtorEq, Int.reduceToNat, ↓reduceIte, rfP, rvP, rhP, frP, curB, bkd])
  repeat' (first
    | (refine br_go (fun e f => ?_) (fun e f => ?_) <;> (try simp only [BB] at f) <;> (try simp only [numOk, verOk] at f) <;> (try simp (maxSteps := 1000000) (disch := first | omega | (simp only [LN, numOk, verOk, rfP, rvP, rhP, frP, curB, bkd] <;> omega) | exact Ck.mk rfl) only [e, VC, T, Nat.reduceMul, Nat.reduceAdd, Nat.reduceSub, Nat.reduceLT, Nat.reduceEqDiff, Nat.reduceLeDiff, Nat.reduceBEq, reduceCtorEq, Int.reduceToNat, ↓reduceIte, rfP, rvP, rhP, frP, curB, bkd]) <;> (try clear e))
    | (refine pick_go (fun e f => ?_) (fun e f => ?_) <;> (try simp only [BB] at f) <;> (try simp only [numOk, verOk] at f) <;> (try simp (maxSteps := 1000000) (disch := first | omega | (simp only [LN, numOk, verOk, rfP, rvP, rhP, frP, curB, bkd] <;> omega) | exact Ck.mk rfl) only [e, VC, T, Nat.reduceMul, Nat.reduceAdd, Nat.reduceSub, Nat.reduceLT, Nat.reduceEqDiff, Nat.reduceLeDiff, Nat.reduceBEq, reduceCtorEq, Int.reduceToNat, ↓reduceIte, rfP, rvP, rhP, frP, curB, bkd]) <;> (try clear e))
    | ((first | (refine call_h [0] [] (l01Below code hb _ (by omega) _ _ (by assumption)) (by decide) rfl rfl ?_; rintro _ _ ⟨⟨x, rfl, hx1, hx2⟩, i', h', rfl, hc'⟩)); (try simp (maxSteps := 1000000) (disch := first | omega | (simp only [LN, numOk, verOk, rfP, rvP, rhP, frP, curB, bkd] <;> omega) | exact Ck.mk rfl) only [VC, T, Nat.reduceMul, Nat.reduceAdd, Nat.reduceSub, Nat.reduceLT, Nat.reduceEqDiff, Nat.reduceLeDiff, Nat.reduceBEq, reduceCtorEq, Int.reduceToNat, ↓reduceIte, rfP, rvP, rhP, frP, curB, bkd])))
  refine fin_c rfl (by first | rfl | (simp (maxSteps := 1000000) (disch := first | omega | (simp only [LN, numOk, verOk, rfP, rvP, rhP, frP, curB, bkd] <;> omega) | exact Ck.mk rfl) only [VC, T, Nat.reduceMul, Nat.reduceAdd, Nat.reduceSub, Nat.reduceLT, Nat.reduceEqDiff, Nat.reduceLeDiff, Nat.reduceBEq, reduceCtorEq, Int.reduceToNat, ↓reduceIte, rfP, rvP, rhP, frP, curB, bkd]; done)) rfl rfl ?_
  exact ⟨⟨_, rfl, getD_mem _ _ (by omega)⟩, _, _, rfl, by assumption⟩
def SzIn (n : Int) (x : ByteArray) : Prop := (x.size : Int) ≤ n
theorem l01Text (code : List Int) (hb : Bytes code) (n : Int) (hn : n ≤ 1000000) (i h : Int) (hc : CurOk code i h) : FnE Try.prog 80 [.ref 0 0, .int .i64 n] [(0, curB code i h)] (CQ code (isStr' (SzIn (max 0 n)))) := by
  refine fn_e tok (n := 23) (rs := [.tmp 4]) Try.func80 (by decide) rfl rfl rfl rfl (low_of rfl) ?_
  (try simp (maxSteps := 1000000) (disch := first | omega | (simp only [LN, numOk, verOk, rfP, rvP, rhP, frP, curB, bkd] <;> omega) | exact Ck.mk rfl) only [VC, T, Nat.reduceMul, Nat.reduceAdd, Nat.reduceSub, Nat.reduceLT, Nat.reduceEqDiff, Nat.reduceLeDiff, Nat.reduceBEq, reduceCtorEq, Int.reduceToNat, ↓reduceIte, rfP, rvP, rhP, frP, curB, bkd])
  repeat' (first
    | (refine br_go (fun e f => ?_) (fun e f => ?_) <;> (try simp only [BB] at f) <;> (try simp only [numOk, verOk] at f) <;> (try simp (maxSteps := 1000000) (disch := first | omega | (simp only [LN, numOk, verOk, rfP, rvP, rhP, frP, curB, bkd] <;> omega) | exact Ck.mk rfl) only [e, VC, T, Nat.reduceMul, Nat.reduceAdd, Nat.reduceSub, Nat.reduceLT, Nat.reduceEqDiff, Nat.reduceLeDiff, Nat.reduceBEq, reduceCtorEq, Int.reduceToNat, ↓reduceIte, rfP, rvP, rhP, frP, curB, bkd]) <;> (try clear e))
    | (refine pick_go (fun e f => ?_) (fun e f => ?_) <;> (try simp only [BB] at f) <;> (try simp only [numOk, verOk] at f) <;> (try simp (maxSteps := 1000000) (disch := first | omega | (simp only [LN, numOk, verOk, rfP, rvP, rhP, frP, curB, bkd] <;> omega) | exact Ck.mk rfl) only [e, VC, T, Nat.reduceMul, Nat.reduceAdd, Nat.reduceSub, Nat.reduceLT, Nat.reduceEqDiff, Nat.reduceLeDiff, Nat.reduceBEq, reduceCtorEq, Int.reduceToNat, ↓reduceIte, rfP, rvP, rhP, frP, curB, bkd]) <;> (try clear e)))
  · refine lp_go (fun x : List Int × Int × Int => ⟨23, [(0, .ref 0 0), (1, .int .i64 5000), (5, .row 640 x.1.length), (6, .int .i64 x.1.length)], [(640, .row ⟨1, 0⟩ (x.1.map (.int .u8))), (0, curB code x.2.1 x.2.2)]⟩) (fun x => ((x.1.length : Int) ≤ max 0 5000 ∧ ∀ z ∈ x.1, 0 ≤ z ∧ z ≤ 255) ∧ CurOk code x.2.1 x.2.2) (fun x => (5000 : Int).toNat - x.1.length) ([], i, h) ?_ ⟨⟨by simp only [List.length_nil]; omega, fun _ h => absurd h (by simp)⟩, hc⟩ ?_
    · (simp (disch := first | omega | (simp only [LN, numOk, verOk, curB] <;> omega) | exact Ck.mk rfl) only [SB, EQ, Nat.reduceMul, Nat.reduceAdd, Nat.reduceSub, Nat.reduceLT, Nat.reduceEqDiff, Nat.reduceLeDiff, Nat.reduceBEq, reduceCtorEq, Int.reduceToNat, ↓reduceIte, curB]; try omega)
    · rintro ⟨bs, i, h⟩ ⟨⟨h1, h2⟩, hc⟩ N hN
      simp only at h1 h2 hc
      (try simp (maxSteps := 1000000) (disch := first | omega | (simp only [LN, numOk, verOk, rfP, rvP, rhP, frP, curB, bkd] <;> omega) | exact Ck.mk rfl) only [VC, T, Nat.reduceMul, Nat.reduceAdd, Nat.reduceSub, Nat.reduceLT, Nat.reduceEqDiff, Nat.reduceLeDiff, Nat.reduceBEq, reduceCtorEq, Int.reduceToNat, ↓reduceIte, rfP, rvP, rhP, frP, curB, bkd])
      repeat' (first
        | (refine br_go (fun e f => ?_) (fun e f => ?_) <;> (try simp only [BB] at f) <;> (try simp only [numOk, verOk] at f) <;> (try simp (maxSteps := 1000000) (disch := first | omega | (simp only [LN, numOk, verOk, rfP, rvP, rhP, frP, curB, bkd] <;> omega) | exact Ck.mk rfl) only [e, VC, T, Nat.reduceMul, Nat.reduceAdd, Nat.reduceSub, Nat.reduceLT, Nat.reduceEqDiff, Nat.reduceLeDiff, Nat.reduceBEq, reduceCtorEq, Int.reduceToNat, ↓reduceIte, rfP, rvP, rhP, frP, curB, bkd]) <;> (try clear e))
        | (refine pick_go (fun e f => ?_) (fun e f => ?_) <;> (try simp only [BB] at f) <;> (try simp only [numOk, verOk] at f) <;> (try simp (maxSteps := 1000000) (disch := first | omega | (simp only [LN, numOk, verOk, rfP, rvP, rhP, frP, curB, bkd] <;> omega) | exact Ck.mk rfl) only [e, VC, T, Nat.reduceMul, Nat.reduceAdd, Nat.reduceSub, Nat.reduceLT, Nat.reduceEqDiff, Nat.reduceLeDiff, Nat.reduceBEq, reduceCtorEq, Int.reduceToNat, ↓reduceIte, rfP, rvP, rhP, frP, curB, bkd]) <;> (try clear e))
        | ((first | (refine call_h [0] [] (l01Byte code hb _ _ (by assumption)) (by decide) rfl rfl ?_; rintro _ _ ⟨⟨x, rfl, hx1, hx2⟩, i', h', rfl, hc'⟩)); (try simp (maxSteps := 1000000) (disch := first | omega | (simp only [LN, numOk, verOk, rfP, rvP, rhP, frP, curB, bkd] <;> omega) | exact Ck.mk rfl) only [VC, T, Nat.reduceMul, Nat.reduceAdd, Nat.reduceSub, Nat.reduceLT, Nat.reduceEqDiff, Nat.reduceLeDiff, Nat.reduceBEq, reduceCtorEq, Int.reduceToNat, ↓reduceIte, rfP, rvP, rhP, frP, curB, bkd])))
      · have hx := hx2 (by decide)
        refine hN (bs ++ [x % 256], i', h') _ ⟨⟨by simp only [List.length_append, List.length_singleton]; omega, fun z hz => ?_⟩, hc'⟩ (by simp only [List.length_append, List.length_singleton]; omega) ?_
        · rcases List.mem_append.1 hz with hz | hz
          · exact h2 z hz
          · rw [List.mem_singleton.1 hz]; omega
        · (simp (disch := first | omega | (simp only [LN, numOk, verOk, curB] <;> omega) | exact Ck.mk rfl) only [SB, EQ, Nat.reduceMul, Nat.reduceAdd, Nat.reduceSub, Nat.reduceLT, Nat.reduceEqDiff, Nat.reduceLeDiff, Nat.reduceBEq, reduceCtorEq, Int.reduceToNat, ↓reduceIte, curB]; try omega)
      · refine ⟨fun z hz => by have := h2 z hz; omega, ?_⟩
        refine fin_c rfl (by first | rfl | (simp (maxSteps := 1000000) (disch := first | omega | (simp only [LN, numOk, verOk, rfP, rvP, rhP, frP, curB, bkd] <;> omega) | exact Ck.mk rfl) only [VC, T, Nat.reduceMul, Nat.reduceAdd, Nat.reduceSub, Nat.reduceLT, Nat.reduceEqDiff, Nat.reduceLeDiff, Nat.reduceBEq, reduceCtorEq, Int.reduceToNat, ↓reduceIte, rfP, rvP, rhP, frP, curB, bkd]; done)) rfl rfl ?_
        exact ⟨⟨_, rfl, by unfold SzIn; rw [strOf_size]; omega⟩, _, _, rfl, hc⟩
  · refine lp_go (fun x : List Int × Int × Int => ⟨23, [(0, .ref 0 0), (1, .int .i64 n), (5, .row 640 x.1.length), (6, .int .i64 x.1.length)], [(640, .row ⟨1, 0⟩ (x.1.map (.int .u8))), (0, curB code x.2.1 x.2.2)]⟩) (fun x => ((x.1.length : Int) ≤ max 0 n ∧ ∀ z ∈ x.1, 0 ≤ z ∧ z ≤ 255) ∧ CurOk code x.2.1 x.2.2) (fun x => (n : Int).toNat - x.1.length) ([], i, h) ?_ ⟨⟨by simp only [List.length_nil]; omega, fun _ h => absurd h (by simp)⟩, hc⟩ ?_
    · (simp (disch := first | omega | (simp only [LN, numOk, verOk, curB] <;> omega) | exact Ck.mk rfl) only [SB, EQ, Nat.reduceMul, Nat.reduceAdd, Nat.reduceSub, Nat.reduceLT, Nat.reduceEqDiff, Nat.reduceLeDiff, Nat.reduceBEq, reduceCtorEq, Int.reduceToNat, ↓reduceIte, curB]; try omega)
    · rintro ⟨bs, i, h⟩ ⟨⟨h1, h2⟩, hc⟩ N hN
      simp only at h1 h2 hc
      (try simp (maxSteps := 1000000) (disch := first | omega | (simp only [LN, numOk, verOk, rfP, rvP, rhP, frP, curB, bkd] <;> omega) | exact Ck.mk rfl) only [VC, T, Nat.reduceMul, Nat.reduceAdd, Nat.reduceSub, Nat.reduceLT, Nat.reduceEqDiff, Nat.reduceLeDiff, Nat.reduceBEq, reduceCtorEq, Int.reduceToNat, ↓reduceIte, rfP, rvP, rhP, frP, curB, bkd])
      repeat' (first
        | (refine br_go (fun e f => ?_) (fun e f => ?_) <;> (try simp only [BB] at f) <;> (try simp only [numOk, verOk] at f) <;> (try simp (maxSteps := 1000000) (disch := first | omega | (simp only [LN, numOk, verOk, rfP, rvP, rhP, frP, curB, bkd] <;> omega) | exact Ck.mk rfl) only [e, VC, T, Nat.reduceMul, Nat.reduceAdd, Nat.reduceSub, Nat.reduceLT, Nat.reduceEqDiff, Nat.reduceLeDiff, Nat.reduceBEq, reduceCtorEq, Int.reduceToNat, ↓reduceIte, rfP, rvP, rhP, frP, curB, bkd]) <;> (try clear e))
        | (refine pick_go (fun e f => ?_) (fun e f => ?_) <;> (try simp only [BB] at f) <;> (try simp only [numOk, verOk] at f) <;> (try simp (maxSteps := 1000000) (disch := first | omega | (simp only [LN, numOk, verOk, rfP, rvP, rhP, frP, curB, bkd] <;> omega) | exact Ck.mk rfl) only [e, VC, T, Nat.reduceMul, Nat.reduceAdd, Nat.reduceSub, Nat.reduceLT, Nat.reduceEqDiff, Nat.reduceLeDiff, Nat.reduceBEq, reduceCtorEq, Int.reduceToNat, ↓reduceIte, rfP, rvP, rhP, frP, curB, bkd]) <;> (try clear e))
        | ((first | (refine call_h [0] [] (l01Byte code hb _ _ (by assumption)) (by decide) rfl rfl ?_; rintro _ _ ⟨⟨x, rfl, hx1, hx2⟩, i', h', rfl, hc'⟩)); (try simp (maxSteps := 1000000) (disch := first | omega | (simp only [LN, numOk, verOk, rfP, rvP, rhP, frP, curB, bkd] <;> omega) | exact Ck.mk rfl) only [VC, T, Nat.reduceMul, Nat.reduceAdd, Nat.reduceSub, Nat.reduceLT, Nat.reduceEqDiff, Nat.reduceLeDiff, Nat.reduceBEq, reduceCtorEq, Int.reduceToNat, ↓reduceIte, rfP, rvP, rhP, frP, curB, bkd])))
      · have hx := hx2 (by decide)
        refine hN (bs ++ [x % 256], i', h') _ ⟨⟨by simp only [List.length_append, List.length_singleton]; omega, fun z hz => ?_⟩, hc'⟩ (by simp only [List.length_append, List.length_singleton]; omega) ?_
        · rcases List.mem_append.1 hz with hz | hz
          · exact h2 z hz
          · rw [List.mem_singleton.1 hz]; omega
        · (simp (disch := first | omega | (simp only [LN, numOk, verOk, curB] <;> omega) | exact Ck.mk rfl) only [SB, EQ, Nat.reduceMul, Nat.reduceAdd, Nat.reduceSub, Nat.reduceLT, Nat.reduceEqDiff, Nat.reduceLeDiff, Nat.reduceBEq, reduceCtorEq, Int.reduceToNat, ↓reduceIte, curB]; try omega)
      · refine ⟨fun z hz => by have := h2 z hz; omega, ?_⟩
        refine fin_c rfl (by first | rfl | (simp (maxSteps := 1000000) (disch := first | omega | (simp only [LN, numOk, verOk, rfP, rvP, rhP, frP, curB, bkd] <;> omega) | exact Ck.mk rfl) only [VC, T, Nat.reduceMul, Nat.reduceAdd, Nat.reduceSub, Nat.reduceLT, Nat.reduceEqDiff, Nat.reduceLeDiff, Nat.reduceBEq, reduceCtorEq, Int.reduceToNat, ↓reduceIte, rfP, rvP, rhP, frP, curB, bkd]; done)) rfl rfl ?_
        exact ⟨⟨_, rfl, by unfold SzIn; rw [strOf_size]; omega⟩, _, _, rfl, hc⟩
def hdP (x : Int × Int × Int × Int) : PV := .agg [.int .i64 x.1, .int .i64 x.2.1, .int .i64 x.2.2.1, .int .i64 x.2.2.2]
def isHd (A : Int × Int × Int × Int → Prop) (r : PV) : Prop := ∃ v s b l, r = .agg [.int .i64 v, .int .i64 s, .int .i64 b, .int .i64 l] ∧ A (v, s, b, l)
def Hd8 (x : Int × Int × Int × Int) : Prop := (1 ≤ x.1 ∧ x.1 ≤ 2) ∧ (1 ≤ x.2.1 ∧ x.2.1 ≤ 4) ∧ (0 ≤ x.2.2.1 ∧ x.2.2.1 ≤ 8) ∧ (0 ≤ x.2.2.2 ∧ x.2.2.2 ≤ 999999)
def HdA (x : Int × Int × Int × Int) : Prop := i64 x.1 ∧ i64 x.2.1 ∧ i64 x.2.2.1 ∧ i64 x.2.2.2
theorem l08Head (code : List Int) (hb : Bytes code) (i h : Int) (hc : CurOk code i h) : FnE Try.prog 125 [.ref 0 0] [(0, curB code i h)] (CQ code (isHd Hd8)) := by
  refine fn_e tok (n := 14) (rs := [.cell 2 27]) Try.func125 (by decide) rfl rfl rfl rfl (low_of rfl) ?_
  (try simp (maxSteps := 1000000) (disch := first | omega | (simp only [LN, numOk, verOk, rfP, rvP, rhP, frP, curB, bkd] <;> omega) | exact Ck.mk rfl) only [VC, T, Nat.reduceMul, Nat.reduceAdd, Nat.reduceSub, Nat.reduceLT, Nat.reduceEqDiff, Nat.reduceLeDiff, Nat.reduceBEq, reduceCtorEq, Int.reduceToNat, ↓reduceIte, rfP, rvP, rhP, frP, curB, bkd])
  repeat' (first
    | (refine br_go (fun e f => ?_) (fun e f => ?_) <;> (try simp only [BB] at f) <;> (try simp only [numOk, verOk] at f) <;> (try simp (maxSteps := 1000000) (disch := first | omega | (simp only [LN, numOk, verOk, rfP, rvP, rhP, frP, curB, bkd] <;> omega) | exact Ck.mk rfl) only [e, VC, T, Nat.reduceMul, Nat.reduceAdd, Nat.reduceSub, Nat.reduceLT, Nat.reduceEqDiff, Nat.reduceLeDiff, Nat.reduceBEq, reduceCtorEq, Int.reduceToNat, ↓reduceIte, rfP, rvP, rhP, frP, curB, bkd]) <;> (try clear e))
    | (refine pick_go (fun e f => ?_) (fun e f => ?_) <;> (try simp only [BB] at f) <;> (try simp only [numOk, verOk] at f) <;> (try simp (maxSteps := 1000000) (disch := first | omega | (simp only [LN, numOk, verOk, rfP, rvP, rhP, frP, curB, bkd] <;> omega) | exact Ck.mk rfl) only [e, VC, T, Nat.reduceMul, Nat.reduceAdd, Nat.reduceSub, Nat.reduceLT, Nat.reduceEqDiff, Nat.reduceLeDiff, Nat.reduceBEq, reduceCtorEq, Int.reduceToNat, ↓reduceIte, rfP, rvP, rhP, frP, curB, bkd]) <;> (try clear e))
    | ((first | (refine call_h [0] [] (l01Below code hb _ (by omega) _ _ (by assumption)) (by decide) rfl rfl ?_; rintro _ _ ⟨⟨x, rfl, hx1, hx2⟩, i', h', rfl, hc'⟩)); (try simp (maxSteps := 1000000) (disch := first | omega | (simp only [LN, numOk, verOk, rfP, rvP, rhP, frP, curB, bkd] <;> omega) | exact Ck.mk rfl) only [VC, T, Nat.reduceMul, Nat.reduceAdd, Nat.reduceSub, Nat.reduceLT, Nat.reduceEqDiff, Nat.reduceLeDiff, Nat.reduceBEq, reduceCtorEq, Int.reduceToNat, ↓reduceIte, rfP, rvP, rhP, frP, curB, bkd])))
  refine fin_c rfl (by first | rfl | (simp (maxSteps := 1000000) (disch := first | omega | (simp only [LN, numOk, verOk, rfP, rvP, rhP, frP, curB, bkd] <;> omega) | exact Ck.mk rfl) only [VC, T, Nat.reduceMul, Nat.reduceAdd, Nat.reduceSub, Nat.reduceLT, Nat.reduceEqDiff, Nat.reduceLeDiff, Nat.reduceBEq, reduceCtorEq, Int.reduceToNat, ↓reduceIte, rfP, rvP, rhP, frP, curB, bkd]; done)) rfl rfl ?_
  exact ⟨⟨_, _, _, _, rfl, by unfold Hd8; simp only; omega⟩, _, _, rfl, by assumption⟩
theorem l08Any (code : List Int) (hb : Bytes code) (i h : Int) (hc : CurOk code i h) : FnE Try.prog 87 [.ref 0 0] [(0, curB code i h)] (CQ code (isHd HdA)) := by
  refine fn_e tok (n := 33) (rs := [.cell 2 27]) Try.func87 (by decide) rfl rfl rfl rfl (low_of rfl) ?_
  (try simp (maxSteps := 1000000) (disch := first | omega | (simp only [LN, numOk, verOk, rfP, rvP, rhP, frP, curB, bkd] <;> omega) | exact Ck.mk rfl) only [VC, T, Nat.reduceMul, Nat.reduceAdd, Nat.reduceSub, Nat.reduceLT, Nat.reduceEqDiff, Nat.reduceLeDiff, Nat.reduceBEq, reduceCtorEq, Int.reduceToNat, ↓reduceIte, rfP, rvP, rhP, frP, curB, bkd])
  repeat' (first
    | (refine br_go (fun e f => ?_) (fun e f => ?_) <;> (try simp only [BB] at f) <;> (try simp only [numOk, verOk] at f) <;> (try simp (maxSteps := 1000000) (disch := first | omega | (simp only [LN, numOk, verOk, rfP, rvP, rhP, frP, curB, bkd] <;> omega) | exact Ck.mk rfl) only [e, VC, T, Nat.reduceMul, Nat.reduceAdd, Nat.reduceSub, Nat.reduceLT, Nat.reduceEqDiff, Nat.reduceLeDiff, Nat.reduceBEq, reduceCtorEq, Int.reduceToNat, ↓reduceIte, rfP, rvP, rhP, frP, curB, bkd]) <;> (try clear e))
    | (refine pick_go (fun e f => ?_) (fun e f => ?_) <;> (try simp only [BB] at f) <;> (try simp only [numOk, verOk] at f) <;> (try simp (maxSteps := 1000000) (disch := first | omega | (simp only [LN, numOk, verOk, rfP, rvP, rhP, frP, curB, bkd] <;> omega) | exact Ck.mk rfl) only [e, VC, T, Nat.reduceMul, Nat.reduceAdd, Nat.reduceSub, Nat.reduceLT, Nat.reduceEqDiff, Nat.reduceLeDiff, Nat.reduceBEq, reduceCtorEq, Int.reduceToNat, ↓reduceIte, rfP, rvP, rhP, frP, curB, bkd]) <;> (try clear e))
    | ((first | (refine call_h [0] [] (l08Head code hb _ _ (by assumption)) (by decide) rfl rfl ?_; rintro _ _ ⟨⟨v, s, b, l, rfl, hx⟩, i', h', rfl, hc'⟩) | (refine call_h [0] [] (l01Below code hb _ (by omega) _ _ (by assumption)) (by decide) rfl rfl ?_; rintro _ _ ⟨⟨x, rfl, hx1, hx2⟩, i', h', rfl, hc'⟩) | (refine call_hd [0] [768] (l01PickInt code hb [0, 3, 1, -1] (by simp) (by simp) _ _ (by assumption)) (by decide) ?_ rfl ?_; (focus (first | rfl | (simp (maxSteps := 1000000) (disch := first | omega | (simp only [LN, numOk, verOk, rfP, rvP, rhP, frP, curB, bkd] <;> omega) | exact Ck.mk rfl) only [VC, T, Nat.reduceMul, Nat.reduceAdd, Nat.reduceSub, Nat.reduceLT, Nat.reduceEqDiff, Nat.reduceLeDiff, Nat.reduceBEq, reduceCtorEq, Int.reduceToNat, ↓reduceIte, rfP, rvP, rhP, frP, curB, bkd]; done))); rintro _ _ ⟨⟨y, rfl, hy⟩, i', h', rfl, hc'⟩) | (refine call_hd [0] [1152] (l01PickInt code hb [0, 20, 21, -1] (by simp) (by simp) _ _ (by assumption)) (by decide) ?_ rfl ?_; (focus (first | rfl | (simp (maxSteps := 1000000) (disch := first | omega | (simp only [LN, numOk, verOk, rfP, rvP, rhP, frP, curB, bkd] <;> omega) | exact Ck.mk rfl) only [VC, T, Nat.reduceMul, Nat.reduceAdd, Nat.reduceSub, Nat.reduceLT, Nat.reduceEqDiff, Nat.reduceLeDiff, Nat.reduceBEq, reduceCtorEq, Int.reduceToNat, ↓reduceIte, rfP, rvP, rhP, frP, curB, bkd]; done))); rintro _ _ ⟨⟨y, rfl, hy⟩, i', h', rfl, hc'⟩) | (refine call_hd [0] [1536] (l01PickInt code hb [-1, 1000000000, 1000000001] (by simp) (by simp) _ _ (by assumption)) (by decide) ?_ rfl ?_; (focus (first | rfl | (simp (maxSteps := 1000000) (disch := first | omega | (simp only [LN, numOk, verOk, rfP, rvP, rhP, frP, curB, bkd] <;> omega) | exact Ck.mk rfl) only [VC, T, Nat.reduceMul, Nat.reduceAdd, Nat.reduceSub, Nat.reduceLT, Nat.reduceEqDiff, Nat.reduceLeDiff, Nat.reduceBEq, reduceCtorEq, Int.reduceToNat, ↓reduceIte, rfP, rvP, rhP, frP, curB, bkd]; done))); rintro _ _ ⟨⟨y, rfl, hy⟩, i', h', rfl, hc'⟩) | (refine call_hd [0] [1920] (l01PickInt code hb [-1, 4294967295, 4294967296] (by simp) (by simp) _ _ (by assumption)) (by decide) ?_ rfl ?_; (focus (first | rfl | (simp (maxSteps := 1000000) (disch := first | omega | (simp only [LN, numOk, verOk, rfP, rvP, rhP, frP, curB, bkd] <;> omega) | exact Ck.mk rfl) only [VC, T, Nat.reduceMul, Nat.reduceAdd, Nat.reduceSub, Nat.reduceLT, Nat.reduceEqDiff, Nat.reduceLeDiff, Nat.reduceBEq, reduceCtorEq, Int.reduceToNat, ↓reduceIte, rfP, rvP, rhP, frP, curB, bkd]; done))); rintro _ _ ⟨⟨y, rfl, hy⟩, i', h', rfl, hc'⟩)); (try simp (maxSteps := 1000000) (disch := first | omega | (simp only [LN, numOk, verOk, rfP, rvP, rhP, frP, curB, bkd] <;> omega) | exact Ck.mk rfl) only [VC, T, Nat.reduceMul, Nat.reduceAdd, Nat.reduceSub, Nat.reduceLT, Nat.reduceEqDiff, Nat.reduceLeDiff, Nat.reduceBEq, reduceCtorEq, Int.reduceToNat, ↓reduceIte, rfP, rvP, rhP, frP, curB, bkd])))
  all_goals
    refine fin_c rfl (by first | rfl | (simp (maxSteps := 1000000) (disch := first | omega | (simp only [LN, numOk, verOk, rfP, rvP, rhP, frP, curB, bkd] <;> omega) | exact Ck.mk rfl) only [VC, T, Nat.reduceMul, Nat.reduceAdd, Nat.reduceSub, Nat.reduceLT, Nat.reduceEqDiff, Nat.reduceLeDiff, Nat.reduceBEq, reduceCtorEq, Int.reduceToNat, ↓reduceIte, rfP, rvP, rhP, frP, curB, bkd]; done)) rfl rfl ?_
    unfold Hd8 at hx
    simp only at hx
    refine ⟨⟨_, _, _, _, rfl, ?_⟩, _, _, rfl, by assumption⟩
    try simp only [Mem, List.mem_cons, List.not_mem_nil, or_false] at hy
    unfold HdA i64
    simp only
    omega
def Rec (x : ByteArray) : Prop := x.size ≤ 60
theorem l08Record (code : List Int) (hb : Bytes code) (i h : Int) (hc : CurOk code i h) : FnE Try.prog 139 [.ref 0 0] [(0, curB code i h)] (CQ code (isStr' Rec)) := by
  refine fn_e tok (n := 18) (rs := [.tmp 2]) Try.func139 (by decide) rfl rfl rfl rfl (low_of rfl) ?_
  (try simp (maxSteps := 1000000) (disch := first | omega | (simp only [LN, numOk, verOk, rfP, rvP, rhP, frP, curB, bkd] <;> omega) | exact Ck.mk rfl) only [VC, T, Nat.reduceMul, Nat.reduceAdd, Nat.reduceSub, Nat.reduceLT, Nat.reduceEqDiff, Nat.reduceLeDiff, Nat.reduceBEq, reduceCtorEq, Int.reduceToNat, ↓reduceIte, rfP, rvP, rhP, frP, curB, bkd])
  repeat' (first
    | (refine br_go (fun e f => ?_) (fun e f => ?_) <;> (try simp only [BB] at f) <;> (try simp only [numOk, verOk] at f) <;> (try simp (maxSteps := 1000000) (disch := first | omega | (simp only [LN, numOk, verOk, rfP, rvP, rhP, frP, curB, bkd] <;> omega) | exact Ck.mk rfl) only [e, VC, T, Nat.reduceMul, Nat.reduceAdd, Nat.reduceSub, Nat.reduceLT, Nat.reduceEqDiff, Nat.reduceLeDiff, Nat.reduceBEq, reduceCtorEq, Int.reduceToNat, ↓reduceIte, rfP, rvP, rhP, frP, curB, bkd]) <;> (try clear e))
    | (refine pick_go (fun e f => ?_) (fun e f => ?_) <;> (try simp only [BB] at f) <;> (try simp only [numOk, verOk] at f) <;> (try simp (maxSteps := 1000000) (disch := first | omega | (simp only [LN, numOk, verOk, rfP, rvP, rhP, frP, curB, bkd] <;> omega) | exact Ck.mk rfl) only [e, VC, T, Nat.reduceMul, Nat.reduceAdd, Nat.reduceSub, Nat.reduceLT, Nat.reduceEqDiff, Nat.reduceLeDiff, Nat.reduceBEq, reduceCtorEq, Int.reduceToNat, ↓reduceIte, rfP, rvP, rhP, frP, curB, bkd]) <;> (try clear e))
    | ((first | (refine call_h [0] [] (l01Below code hb _ (by omega) _ _ (by assumption)) (by decide) rfl rfl ?_; rintro _ _ ⟨⟨x, rfl, hx1, hx2⟩, i', h', rfl, hc'⟩) | (refine call_h [0] [] (l01Text code hb _ (by omega) _ _ (by assumption)) (by decide) rfl rfl ?_; rintro _ _ ⟨⟨t, rfl, ht⟩, i', h', rfl, hc'⟩)); (try simp (maxSteps := 1000000) (disch := first | omega | (simp only [LN, numOk, verOk, rfP, rvP, rhP, frP, curB, bkd] <;> omega) | exact Ck.mk rfl) only [VC, T, Nat.reduceMul, Nat.reduceAdd, Nat.reduceSub, Nat.reduceLT, Nat.reduceEqDiff, Nat.reduceLeDiff, Nat.reduceBEq, reduceCtorEq, Int.reduceToNat, ↓reduceIte, rfP, rvP, rhP, frP, curB, bkd])))
  all_goals
    refine fin_c rfl (by first | rfl | (simp (maxSteps := 1000000) (disch := first | omega | (simp only [LN, numOk, verOk, rfP, rvP, rhP, frP, curB, bkd] <;> omega) | exact Ck.mk rfl) only [VC, T, Nat.reduceMul, Nat.reduceAdd, Nat.reduceSub, Nat.reduceLT, Nat.reduceEqDiff, Nat.reduceLeDiff, Nat.reduceBEq, reduceCtorEq, Int.reduceToNat, ↓reduceIte, rfP, rvP, rhP, frP, curB, bkd]; done)) rfl rfl ?_
    refine ⟨⟨_, rfl, ?_⟩, _, _, rfl, by assumption⟩
    first
      | exact Nat.zero_le _
      | (unfold SzIn at ht; unfold Rec; omega)
def isTexts (A : List ByteArray → Prop) (r : PV) : Prop := ∃ x, r = .far (x.map .str) ∧ A x
def Recs (n : Int) (x : List ByteArray) : Prop := (x.length : Int) ≤ n ∧ ∀ r ∈ x, r.size ≤ 60
theorem l08Records (code : List Int) (hb : Bytes code) (n : Int) (hn : 0 ≤ n ∧ n ≤ 1000) (i h : Int) (hc : CurOk code i h) : FnE Try.prog 133 [.ref 0 0, .int .i64 n] [(0, curB code i h)] (CQ code (isTexts (Recs n))) := by
  refine fn_e tok (n := 22) (rs := [.tmp 4]) Try.func133 (by decide) rfl rfl rfl rfl (low_of rfl) ?_
  (try simp (maxSteps := 1000000) (disch := first | omega | (simp only [LN, numOk, verOk, rfP, rvP, rhP, frP, curB, bkd] <;> omega) | exact Ck.mk rfl) only [VC, T, Nat.reduceMul, Nat.reduceAdd, Nat.reduceSub, Nat.reduceLT, Nat.reduceEqDiff, Nat.reduceLeDiff, Nat.reduceBEq, reduceCtorEq, Int.reduceToNat, ↓reduceIte, rfP, rvP, rhP, frP, curB, bkd])
  repeat' (first
    | (refine br_go (fun e f => ?_) (fun e f => ?_) <;> (try simp only [BB] at f) <;> (try simp only [numOk, verOk] at f) <;> (try simp (maxSteps := 1000000) (disch := first | omega | (simp only [LN, numOk, verOk, rfP, rvP, rhP, frP, curB, bkd] <;> omega) | exact Ck.mk rfl) only [e, VC, T, Nat.reduceMul, Nat.reduceAdd, Nat.reduceSub, Nat.reduceLT, Nat.reduceEqDiff, Nat.reduceLeDiff, Nat.reduceBEq, reduceCtorEq, Int.reduceToNat, ↓reduceIte, rfP, rvP, rhP, frP, curB, bkd]) <;> (try clear e))
    | (refine pick_go (fun e f => ?_) (fun e f => ?_) <;> (try simp only [BB] at f) <;> (try simp only [numOk, verOk] at f) <;> (try simp (maxSteps := 1000000) (disch := first | omega | (simp only [LN, numOk, verOk, rfP, rvP, rhP, frP, curB, bkd] <;> omega) | exact Ck.mk rfl) only [e, VC, T, Nat.reduceMul, Nat.reduceAdd, Nat.reduceSub, Nat.reduceLT, Nat.reduceEqDiff, Nat.reduceLeDiff, Nat.reduceBEq, reduceCtorEq, Int.reduceToNat, ↓reduceIte, rfP, rvP, rhP, frP, curB, bkd]) <;> (try clear e)))
  refine lp_go (fun x : List ByteArray × Int × Int => ⟨22, [(0, .ref 0 0), (1, .int .i64 n), (5, .row 512 x.1.length), (6, .int .i64 x.1.length)], [(512, .row ⟨1, 0⟩ (x.1.map .str)), (0, curB code x.2.1 x.2.2)]⟩) (fun x => Recs n x.1 ∧ CurOk code x.2.1 x.2.2) (fun x => n.toNat - x.1.length) ([], i, h) ?_ ⟨⟨by simp only [List.length_nil]; omega, fun _ h => absurd h (by simp)⟩, hc⟩ ?_
  · (simp (disch := first | omega | (simp only [LN, numOk, verOk, curB] <;> omega) | exact Ck.mk rfl) only [SB, EQ, Nat.reduceMul, Nat.reduceAdd, Nat.reduceSub, Nat.reduceLT, Nat.reduceEqDiff, Nat.reduceLeDiff, Nat.reduceBEq, reduceCtorEq, Int.reduceToNat, ↓reduceIte, curB]; try omega)
  · rintro ⟨rs, i, h⟩ ⟨⟨h1, h2⟩, hc⟩ N hN
    simp only at h1 h2 hc
    (try simp (maxSteps := 1000000) (disch := first | omega | (simp only [LN, numOk, verOk, rfP, rvP, rhP, frP, curB, bkd] <;> omega) | exact Ck.mk rfl) only [VC, T, Nat.reduceMul, Nat.reduceAdd, Nat.reduceSub, Nat.reduceLT, Nat.reduceEqDiff, Nat.reduceLeDiff, Nat.reduceBEq, reduceCtorEq, Int.reduceToNat, ↓reduceIte, rfP, rvP, rhP, frP, curB, bkd])
    repeat' (first
      | (refine br_go (fun e f => ?_) (fun e f => ?_) <;> (try simp only [BB] at f) <;> (try simp only [numOk, verOk] at f) <;> (try simp (maxSteps := 1000000) (disch := first | omega | (simp only [LN, numOk, verOk, rfP, rvP, rhP, frP, curB, bkd] <;> omega) | exact Ck.mk rfl) only [e, VC, T, Nat.reduceMul, Nat.reduceAdd, Nat.reduceSub, Nat.reduceLT, Nat.reduceEqDiff, Nat.reduceLeDiff, Nat.reduceBEq, reduceCtorEq, Int.reduceToNat, ↓reduceIte, rfP, rvP, rhP, frP, curB, bkd]) <;> (try clear e))
      | (refine pick_go (fun e f => ?_) (fun e f => ?_) <;> (try simp only [BB] at f) <;> (try simp only [numOk, verOk] at f) <;> (try simp (maxSteps := 1000000) (disch := first | omega | (simp only [LN, numOk, verOk, rfP, rvP, rhP, frP, curB, bkd] <;> omega) | exact Ck.mk rfl) only [e, VC, T, Nat.reduceMul, Nat.reduceAdd, Nat.reduceSub, Nat.reduceLT, Nat.reduceEqDiff, Nat.reduceLeDiff, Nat.reduceBEq, reduceCtorEq, Int.reduceToNat, ↓reduceIte, rfP, rvP, rhP, frP, curB, bkd]) <;> (try clear e))
      | ((first | (refine call_h [0] [] (l01Below code hb _ (by omega) _ _ (by assumption)) (by decide) rfl rfl ?_; rintro _ _ ⟨⟨x, rfl, hx1, hx2⟩, i', h', rfl, hc'⟩) | (refine call_h [0] [] (l08Record code hb _ _ (by assumption)) (by decide) rfl rfl ?_; rintro _ _ ⟨⟨t, rfl, ht⟩, i', h', rfl, hc'⟩)); (try simp (maxSteps := 1000000) (disch := first | omega | (simp only [LN, numOk, verOk, rfP, rvP, rhP, frP, curB, bkd] <;> omega) | exact Ck.mk rfl) only [VC, T, Nat.reduceMul, Nat.reduceAdd, Nat.reduceSub, Nat.reduceLT, Nat.reduceEqDiff, Nat.reduceLeDiff, Nat.reduceBEq, reduceCtorEq, Int.reduceToNat, ↓reduceIte, rfP, rvP, rhP, frP, curB, bkd])))
    · refine hN (rs ++ [t], _, _) _ ⟨⟨by simp only [List.length_append, List.length_singleton]; omega, fun z hz => ?_⟩, by assumption⟩ (by simp only [List.length_append, List.length_singleton]; omega) ?_
      · rcases List.mem_append.1 hz with hz | hz
        · exact h2 z hz
        · rw [List.mem_singleton.1 hz]; exact ht
      · (simp (disch := first | omega | (simp only [LN, numOk, verOk, curB] <;> omega) | exact Ck.mk rfl) only [SB, EQ, Nat.reduceMul, Nat.reduceAdd, Nat.reduceSub, Nat.reduceLT, Nat.reduceEqDiff, Nat.reduceLeDiff, Nat.reduceBEq, reduceCtorEq, Int.reduceToNat, ↓reduceIte, curB]; try omega)
    · refine fin_c (y := .far (rs.map .str)) rfl (by first | rfl | (simp (maxSteps := 1000000) (disch := first | omega | (simp only [LN, numOk, verOk, rfP, rvP, rhP, frP, curB, bkd] <;> omega) | exact Ck.mk rfl) only [VC, T, Nat.reduceMul, Nat.reduceAdd, Nat.reduceSub, Nat.reduceLT, Nat.reduceEqDiff, Nat.reduceLeDiff, Nat.reduceBEq, reduceCtorEq, Int.reduceToNat, ↓reduceIte, rfP, rvP, rhP, frP, curB, bkd]; done)) rfl rfl ?_
      exact ⟨⟨_, rfl, h1, h2⟩, _, _, rfl, by assumption⟩
theorem bits_u8 (op : BinOp) (a b : Int) : isByte (.int .u8 (Go.bits op .u8 a b)) := by
  unfold Go.bits
  show 0 ≤ IntKind.u8.wrap _ ∧ IntKind.u8.wrap _ < 256
  rw [IntKind.wrap_u8]
  omega
theorem l08Bent (code : List Int) (hb : Bytes code) (t : ByteArray) (ht : t.size ≤ 1000000) (i h : Int) (hc : CurOk code i h) : FnE Try.prog 79 [.ref 0 0, .str t] [(0, curB code i h)] (CQ code (isStr' (SzIn (t.size + 4)))) := by
  refine fn_e tok (n := 62) (rs := [.tmp 4]) Try.func79 (by decide) rfl rfl rfl rfl (low_of rfl) ?_
  (try simp (maxSteps := 1000000) (disch := first | omega | (simp only [LN, numOk, verOk, rfP, rvP, rhP, frP, curB, bkd, ByteArray.size_extract, ByteArray.size_append] <;> omega) | exact Ck.mk rfl) only [VC, T, Nat.reduceMul, Nat.reduceAdd, Nat.reduceSub, Nat.reduceLT, Nat.reduceEqDiff, Nat.reduceLeDiff, Nat.reduceBEq, reduceCtorEq, Int.reduceToNat, ↓reduceIte, rfP, rvP, rhP, frP, curB, bkd, ByteArray.size_extract, ByteArray.size_append])
  repeat' (first
    | (refine br_go (fun e f => ?_) (fun e f => ?_) <;> (try simp only [BB] at f) <;> (try simp only [numOk, verOk] at f) <;> (try simp (maxSteps := 1000000) (disch := first | omega | (simp only [LN, numOk, verOk, rfP, rvP, rhP, frP, curB, bkd, ByteArray.size_extract, ByteArray.size_append] <;> omega) | exact Ck.mk rfl) only [e, VC, T, Nat.reduceMul, Nat.reduceAdd, Nat.reduceSub, Nat.reduceLT, Nat.reduceEqDiff, Nat.reduceLeDiff, Nat.reduceBEq, reduceCtorEq, Int.reduceToNat, ↓reduceIte, rfP, rvP, rhP, frP, curB, bkd, ByteArray.size_extract, ByteArray.size_append]) <;> (try clear e))
    | (refine pick_go (fun e f => ?_) (fun e f => ?_) <;> (try simp only [BB] at f) <;> (try simp only [numOk, verOk] at f) <;> (try simp (maxSteps := 1000000) (disch := first | omega | (simp only [LN, numOk, verOk, rfP, rvP, rhP, frP, curB, bkd, ByteArray.size_extract, ByteArray.size_append] <;> omega) | exact Ck.mk rfl) only [e, VC, T, Nat.reduceMul, Nat.reduceAdd, Nat.reduceSub, Nat.reduceLT, Nat.reduceEqDiff, Nat.reduceLeDiff, Nat.reduceBEq, reduceCtorEq, Int.reduceToNat, ↓reduceIte, rfP, rvP, rhP, frP, curB, bkd, ByteArray.size_extract, ByteArray.size_append]) <;> (try clear e))
    | ((first | refine dr_go mixed (id := 8) [([], [1], []), ([], [5], []), ([0, 1], [26, 27], []), ([], [1], []), ([], [5], []), ([4], [30], []), ([3, 4, 5], [29, 31], []), ([0, 1, 2, 3, 4, 5, 6], [28, 32], []), ([0, 1, 2, 3, 4, 5, 6, 7], [33], [])] rfl rfl rfl ?_ | refine dr_go mixed (id := 11) [([], [1], []), ([], [5], []), ([0, 1], [43, 44], [0]), ([], [1], []), ([], [5], []), ([3, 4], [46, 47], [0]), ([], [0], []), ([6], [49], []), ([6, 7], [50], []), ([6, 7, 8], [51], []), ([3, 4, 5, 6, 7, 8, 9], [48, 52], []), ([3, 4, 5, 6, 7, 8, 9, 10], [53], []), ([3, 4, 5, 6, 7, 8, 9, 10, 11], [54], []), ([0, 1, 2, 3, 4, 5, 6, 7, 8, 9, 10, 11, 12], [45, 55], []), ([], [1], []), ([], [5], []), ([15], [58], [0]), ([14, 15, 16], [57, 59], [0]), ([0, 1, 2, 3, 4, 5, 6, 7, 8, 9, 10, 11, 12, 13, 14, 15, 16, 17], [56, 60], []), ([0, 1, 2, 3, 4, 5, 6, 7, 8, 9, 10, 11, 12, 13, 14, 15, 16, 17, 18], [61], [])] rfl rfl rfl ?_ | (refine call_h [0] [] (l01Once code hb _ (by omega) _ _ (by assumption)) (by decide) rfl rfl ?_; rintro _ _ ⟨⟨x, rfl⟩, i', h', rfl, hc'⟩) | (refine call_h [0] [] (l01Below code hb _ (by omega) _ _ (by assumption)) (by decide) rfl rfl ?_; rintro _ _ ⟨⟨x, rfl, hx1, hx2⟩, i', h', rfl, hc'⟩) | (refine call_h [0] [] (l01Text code hb _ (by omega) _ _ (by assumption)) (by decide) rfl rfl ?_; rintro _ _ ⟨⟨u, rfl, hu⟩, i', h', rfl, hc'⟩)); (try simp (maxSteps := 1000000) (disch := first | omega | (simp only [LN, numOk, verOk, rfP, rvP, rhP, frP, curB, bkd, ByteArray.size_extract, ByteArray.size_append] <;> omega) | exact Ck.mk rfl) only [VC, T, Nat.reduceMul, Nat.reduceAdd, Nat.reduceSub, Nat.reduceLT, Nat.reduceEqDiff, Nat.reduceLeDiff, Nat.reduceBEq, reduceCtorEq, Int.reduceToNat, ↓reduceIte, rfP, rvP, rhP, frP, curB, bkd, ByteArray.size_extract, ByteArray.size_append])))
  · refine fin_c rfl (by first | rfl | (simp (maxSteps := 1000000) (disch := first | omega | (simp only [LN, numOk, verOk, rfP, rvP, rhP, frP, curB, bkd] <;> omega) | exact Ck.mk rfl) only [VC, T, Nat.reduceMul, Nat.reduceAdd, Nat.reduceSub, Nat.reduceLT, Nat.reduceEqDiff, Nat.reduceLeDiff, Nat.reduceBEq, reduceCtorEq, Int.reduceToNat, ↓reduceIte, rfP, rvP, rhP, frP, curB, bkd]; done)) rfl rfl ?_
    exact ⟨⟨_, rfl, by unfold SzIn; omega⟩, _, _, rfl, by assumption⟩
  · refine fin_c rfl (by first | rfl | (simp (maxSteps := 1000000) (disch := first | omega | (simp only [LN, numOk, verOk, rfP, rvP, rhP, frP, curB, bkd] <;> omega) | exact Ck.mk rfl) only [VC, T, Nat.reduceMul, Nat.reduceAdd, Nat.reduceSub, Nat.reduceLT, Nat.reduceEqDiff, Nat.reduceLeDiff, Nat.reduceBEq, reduceCtorEq, Int.reduceToNat, ↓reduceIte, rfP, rvP, rhP, frP, curB, bkd]; done)) rfl rfl ?_
    exact ⟨⟨_, rfl, by unfold SzIn; omega⟩, _, _, rfl, by assumption⟩
  · refine fin_c rfl (by first | rfl | (simp (maxSteps := 1000000) (disch := first | omega | (simp only [LN, numOk, verOk, rfP, rvP, rhP, frP, curB, bkd] <;> omega) | exact Ck.mk rfl) only [VC, T, Nat.reduceMul, Nat.reduceAdd, Nat.reduceSub, Nat.reduceLT, Nat.reduceEqDiff, Nat.reduceLeDiff, Nat.reduceBEq, reduceCtorEq, Int.reduceToNat, ↓reduceIte, rfP, rvP, rhP, frP, curB, bkd]; done)) rfl rfl ?_
    exact ⟨⟨_, rfl, by unfold SzIn; (try simp only [ByteArray.size_extract]); omega⟩, _, _, rfl, by assumption⟩
  · refine fin_c rfl (by first | rfl | (simp (maxSteps := 1000000) (disch := first | omega | (simp only [LN, numOk, verOk, rfP, rvP, rhP, frP, curB, bkd] <;> omega) | exact Ck.mk rfl) only [VC, T, Nat.reduceMul, Nat.reduceAdd, Nat.reduceSub, Nat.reduceLT, Nat.reduceEqDiff, Nat.reduceLeDiff, Nat.reduceBEq, reduceCtorEq, Int.reduceToNat, ↓reduceIte, rfP, rvP, rhP, frP, curB, bkd]; done)) rfl rfl ?_
    exact ⟨⟨_, rfl, by unfold SzIn; (try simp only [ByteArray.size_append, ByteArray.size_extract]); omega⟩, _, _, rfl, by assumption⟩
  · unfold SzIn at hu
    refine ⟨by omega, ?_⟩
    refine fin_c rfl (by first | rfl | (simp (maxSteps := 1000000) (disch := first | omega | (simp only [LN, numOk, verOk, rfP, rvP, rhP, frP, curB, bkd] <;> omega) | exact Ck.mk rfl) only [VC, T, Nat.reduceMul, Nat.reduceAdd, Nat.reduceSub, Nat.reduceLT, Nat.reduceEqDiff, Nat.reduceLeDiff, Nat.reduceBEq, reduceCtorEq, Int.reduceToNat, ↓reduceIte, rfP, rvP, rhP, frP, curB, bkd]; done)) rfl rfl ?_
    exact ⟨⟨_, rfl, by unfold SzIn; simp only [ByteArray.size_append]; omega⟩, _, _, rfl, by assumption⟩
  · have e1 : ∀ z : Int, (strP [.int .u8 z]).size = 1 := fun z => rfl
    refine ⟨fun z hz => ?_, by rw [e1]; omega, by rw [e1]; omega, ?_⟩
    · rw [List.mem_singleton.1 hz]
      exact bits_u8 _ _ _
    · refine fin_c rfl (by first | rfl | (simp (maxSteps := 1000000) (disch := first | omega | (simp only [LN, numOk, verOk, rfP, rvP, rhP, frP, curB, bkd] <;> omega) | exact Ck.mk rfl) only [VC, T, Nat.reduceMul, Nat.reduceAdd, Nat.reduceSub, Nat.reduceLT, Nat.reduceEqDiff, Nat.reduceLeDiff, Nat.reduceBEq, reduceCtorEq, Int.reduceToNat, ↓reduceIte, rfP, rvP, rhP, frP, curB, bkd]; done)) rfl rfl ?_
      exact ⟨⟨_, rfl, by unfold SzIn; simp only [ByteArray.size_append, ByteArray.size_extract, e1]; omega⟩, _, _, rfl, by assumption⟩
theorem l10Frames (v s b l : Int) (rs : List ByteArray) (hb : 0 ≤ b ∧ b ≤ 1000) (hr : Recs 1000 rs) : FnV Try.prog 134 [.agg [.int .i64 v, .int .i64 s, .int .i64 b, .int .i64 l], .far (rs.map .str)] (isStr' (SzIn (46 + 84 * rs.length))) := by
  obtain ⟨hr1, hr2⟩ := hr
  have ht := headT_le v s b l
  refine fn_v tok (n := 29) (rs := [.tmp 4]) Try.func134 (by decide) rfl rfl rfl rfl ?_
  (try simp (maxSteps := 1000000) (disch := first | omega | (simp only [LN, numOk, verOk, rfP, rvP, rhP, frP, curB, bkd] <;> omega) | exact Ck.mk rfl) only [VC, T, Nat.reduceMul, Nat.reduceAdd, Nat.reduceSub, Nat.reduceLT, Nat.reduceEqDiff, Nat.reduceLeDiff, Nat.reduceBEq, reduceCtorEq, Int.reduceToNat, ↓reduceIte, rfP, rvP, rhP, frP, curB, bkd])
  repeat' (first
    | (refine br_go (fun e f => ?_) (fun e f => ?_) <;> (try simp only [BB] at f) <;> (try simp only [numOk, verOk] at f) <;> (try simp (maxSteps := 1000000) (disch := first | omega | (simp only [LN, numOk, verOk, rfP, rvP, rhP, frP, curB, bkd] <;> omega) | exact Ck.mk rfl) only [e, VC, T, Nat.reduceMul, Nat.reduceAdd, Nat.reduceSub, Nat.reduceLT, Nat.reduceEqDiff, Nat.reduceLeDiff, Nat.reduceBEq, reduceCtorEq, Int.reduceToNat, ↓reduceIte, rfP, rvP, rhP, frP, curB, bkd]) <;> (try clear e))
    | (refine pick_go (fun e f => ?_) (fun e f => ?_) <;> (try simp only [BB] at f) <;> (try simp only [numOk, verOk] at f) <;> (try simp (maxSteps := 1000000) (disch := first | omega | (simp only [LN, numOk, verOk, rfP, rvP, rhP, frP, curB, bkd] <;> omega) | exact Ck.mk rfl) only [e, VC, T, Nat.reduceMul, Nat.reduceAdd, Nat.reduceSub, Nat.reduceLT, Nat.reduceEqDiff, Nat.reduceLeDiff, Nat.reduceBEq, reduceCtorEq, Int.reduceToNat, ↓reduceIte, rfP, rvP, rhP, frP, curB, bkd]) <;> (try clear e))
    | ((first | refine call_x (spec_HeadText _ _ _ _) rfl ⟨rfl⟩ ?_); (try simp (maxSteps := 1000000) (disch := first | omega | (simp only [LN, numOk, verOk, rfP, rvP, rhP, frP, curB, bkd] <;> omega) | exact Ck.mk rfl) only [VC, T, Nat.reduceMul, Nat.reduceAdd, Nat.reduceSub, Nat.reduceLT, Nat.reduceEqDiff, Nat.reduceLeDiff, Nat.reduceBEq, reduceCtorEq, Int.reduceToNat, ↓reduceIte, rfP, rvP, rhP, frP, curB, bkd])))
  refine lp_go (fun x : Nat × ByteArray => ⟨29, [(1, .far (rs.map .str)), (2, .ref 192 0), (5, .str x.2), (6, .int .i64 x.1)], [(192, .box 27 [.int .i64 v, .int .i64 s, .int .i64 b, .int .i64 l])]⟩) (fun x => x.1 ≤ rs.length ∧ x.2.size ≤ 46 + 84 * x.1) (fun x => rs.length - x.1) (0, headT v s b l) ?_ ⟨Nat.zero_le _, ht⟩ ?_
  · (simp (disch := first | omega | (simp only [LN, numOk, verOk] <;> omega) | exact Ck.mk rfl) only [SB, EQ, Nat.reduceMul, Nat.reduceAdd, Nat.reduceSub, Nat.reduceLT, Nat.reduceEqDiff, Nat.reduceLeDiff, Nat.reduceBEq, reduceCtorEq, Int.reduceToNat, ↓reduceIte]; try omega)
  · rintro ⟨i, t⟩ ⟨h1, h2⟩ N hN
    simp only at h1 h2
    have hf := frameT_le v (b + i) (rs.getD i default)
    have hrs : i < rs.length → (rs.getD i default).size ≤ 60 := fun h => hr2 _ (getD_mem _ _ h)
    (try simp (maxSteps := 1000000) (disch := first | omega | (simp only [LN, numOk, verOk, rfP, rvP, rhP, frP, curB, bkd] <;> omega) | exact Ck.mk rfl) only [VC, T, Nat.reduceMul, Nat.reduceAdd, Nat.reduceSub, Nat.reduceLT, Nat.reduceEqDiff, Nat.reduceLeDiff, Nat.reduceBEq, reduceCtorEq, Int.reduceToNat, ↓reduceIte, rfP, rvP, rhP, frP, curB, bkd])
    repeat' (first
      | (refine br_go (fun e f => ?_) (fun e f => ?_) <;> (try simp only [BB] at f) <;> (try simp only [numOk, verOk] at f) <;> (try simp (maxSteps := 1000000) (disch := first | omega | (simp only [LN, numOk, verOk, rfP, rvP, rhP, frP, curB, bkd] <;> omega) | exact Ck.mk rfl) only [e, VC, T, Nat.reduceMul, Nat.reduceAdd, Nat.reduceSub, Nat.reduceLT, Nat.reduceEqDiff, Nat.reduceLeDiff, Nat.reduceBEq, reduceCtorEq, Int.reduceToNat, ↓reduceIte, rfP, rvP, rhP, frP, curB, bkd]) <;> (try clear e))
      | (refine pick_go (fun e f => ?_) (fun e f => ?_) <;> (try simp only [BB] at f) <;> (try simp only [numOk, verOk] at f) <;> (try simp (maxSteps := 1000000) (disch := first | omega | (simp only [LN, numOk, verOk, rfP, rvP, rhP, frP, curB, bkd] <;> omega) | exact Ck.mk rfl) only [e, VC, T, Nat.reduceMul, Nat.reduceAdd, Nat.reduceSub, Nat.reduceLT, Nat.reduceEqDiff, Nat.reduceLeDiff, Nat.reduceBEq, reduceCtorEq, Int.reduceToNat, ↓reduceIte, rfP, rvP, rhP, frP, curB, bkd]) <;> (try clear e))
      | ((first | refine dr_go mixed (id := 5) [([], [5], []), ([], [2], []), ([1], [16], []), ([], [2], []), ([3], [18], []), ([], [6], []), ([3, 4, 5], [19, 20], []), ([], [1], []), ([], [6], []), ([7, 8], [22, 23], []), ([7, 8, 9], [24], []), ([1, 2, 3, 4, 5, 6, 7, 8, 9, 10], [17, 21, 25], []), ([0, 1, 2, 3, 4, 5, 6, 7, 8, 9, 10, 11], [15, 26], []), ([0, 1, 2, 3, 4, 5, 6, 7, 8, 9, 10, 11, 12], [27], [])] rfl rfl rfl ?_ | refine call_x (spec_FrameText _ _ _ (by have := hrs (by omega); omega)) rfl ⟨rfl⟩ ?_); (try simp (maxSteps := 1000000) (disch := first | omega | (simp only [LN, numOk, verOk, rfP, rvP, rhP, frP, curB, bkd] <;> omega) | exact Ck.mk rfl) only [VC, T, Nat.reduceMul, Nat.reduceAdd, Nat.reduceSub, Nat.reduceLT, Nat.reduceEqDiff, Nat.reduceLeDiff, Nat.reduceBEq, reduceCtorEq, Int.reduceToNat, ↓reduceIte, rfP, rvP, rhP, frP, curB, bkd])))
    · refine hN (i + 1, t ++ frameT v (b + i) (rs.getD i default)) _ ⟨by simp only; omega, by simp only [ByteArray.size_append]; omega⟩ (by simp only; omega) ?_
      (simp (disch := first | omega | (simp only [LN, numOk, verOk] <;> omega) | exact Ck.mk rfl) only [SB, EQ, Nat.reduceMul, Nat.reduceAdd, Nat.reduceSub, Nat.reduceLT, Nat.reduceEqDiff, Nat.reduceLeDiff, Nat.reduceBEq, reduceCtorEq, Int.reduceToNat, ↓reduceIte]; try omega)
    · exact ⟨_, rfl, by unfold SzIn; omega⟩
theorem l10File (code : List Int) (hb : Bytes code) (i h : Int) (hc : CurOk code i h) : FnE Try.prog 107 [.ref 0 0] [(0, curB code i h)] (CQ code (isStr' (SzIn 200000))) := by
  refine fn_e tok (n := 21) (rs := [.tmp 2]) Try.func107 (by decide) rfl rfl rfl rfl (low_of rfl) ?_
  (try simp (maxSteps := 1000000) (disch := first | omega | (simp only [LN, numOk, verOk, rfP, rvP, rhP, frP, curB, bkd] <;> omega) | exact Ck.mk rfl) only [VC, T, Nat.reduceMul, Nat.reduceAdd, Nat.reduceSub, Nat.reduceLT, Nat.reduceEqDiff, Nat.reduceLeDiff, Nat.reduceBEq, reduceCtorEq, Int.reduceToNat, ↓reduceIte, rfP, rvP, rhP, frP, curB, bkd])
  repeat' (first
    | (refine br_go (fun e f => ?_) (fun e f => ?_) <;> (try simp only [BB] at f) <;> (try simp only [numOk, verOk] at f) <;> (try simp (maxSteps := 1000000) (disch := first | omega | (simp only [LN, numOk, verOk, rfP, rvP, rhP, frP, curB, bkd] <;> omega) | exact Ck.mk rfl) only [e, VC, T, Nat.reduceMul, Nat.reduceAdd, Nat.reduceSub, Nat.reduceLT, Nat.reduceEqDiff, Nat.reduceLeDiff, Nat.reduceBEq, reduceCtorEq, Int.reduceToNat, ↓reduceIte, rfP, rvP, rhP, frP, curB, bkd]) <;> (try clear e))
    | (refine pick_go (fun e f => ?_) (fun e f => ?_) <;> (try simp only [BB] at f) <;> (try simp only [numOk, verOk] at f) <;> (try simp (maxSteps := 1000000) (disch := first | omega | (simp only [LN, numOk, verOk, rfP, rvP, rhP, frP, curB, bkd] <;> omega) | exact Ck.mk rfl) only [e, VC, T, Nat.reduceMul, Nat.reduceAdd, Nat.reduceSub, Nat.reduceLT, Nat.reduceEqDiff, Nat.reduceLeDiff, Nat.reduceBEq, reduceCtorEq, Int.reduceToNat, ↓reduceIte, rfP, rvP, rhP, frP, curB, bkd]) <;> (try clear e))
    | ((first | (refine call_h [0] [] (l08Head code hb _ _ (by assumption)) (by decide) rfl rfl ?_; rintro _ _ ⟨⟨v, s, b, l, rfl, hx⟩, i', h', rfl, hc'⟩) | (refine call_h [0] [] (l08Records code hb _ (by omega) _ _ (by assumption)) (by decide) rfl rfl ?_; rintro _ _ ⟨⟨rs, rfl, hr1, hr2⟩, i', h', rfl, hc'⟩) | (refine call_h [0] [] (l01Once code hb _ (by omega) _ _ (by assumption)) (by decide) rfl rfl ?_; rintro _ _ ⟨⟨x, rfl⟩, i', h', rfl, hc'⟩) | refine call_x (spec_SealText _ _ _ _ _ (by omega) (fun r hr => by have := hr2 r hr; omega)) rfl ⟨rfl⟩ ?_ | (refine call_v (l10Frames v s b l rs (by unfold Hd8 at hx; simp only at hx; omega) ⟨by omega, hr2⟩) rfl ?_; rintro _ ⟨u, rfl, hu⟩; refine ⟨⟨rfl⟩, ?_⟩) | (refine call_h [0] [] (l08Bent code hb _ (by have := sealT_le v s b l rs; omega) _ _ (by assumption)) (by decide) rfl rfl ?_; rintro _ _ ⟨⟨w, rfl, hw⟩, i', h', rfl, hc'⟩) | (refine call_h [0] [] (l08Bent code hb _ (by unfold SzIn at hu; omega) _ _ (by assumption)) (by decide) rfl rfl ?_; rintro _ _ ⟨⟨w, rfl, hw⟩, i', h', rfl, hc'⟩)); (try simp (maxSteps := 1000000) (disch := first | omega | (simp only [LN, numOk, verOk, rfP, rvP, rhP, frP, curB, bkd] <;> omega) | exact Ck.mk rfl) only [VC, T, Nat.reduceMul, Nat.reduceAdd, Nat.reduceSub, Nat.reduceLT, Nat.reduceEqDiff, Nat.reduceLeDiff, Nat.reduceBEq, reduceCtorEq, Int.reduceToNat, ↓reduceIte, rfP, rvP, rhP, frP, curB, bkd])))
  · refine fin_c rfl (by first | rfl | (simp (maxSteps := 1000000) (disch := first | omega | (simp only [LN, numOk, verOk, rfP, rvP, rhP, frP, curB, bkd] <;> omega) | exact Ck.mk rfl) only [VC, T, Nat.reduceMul, Nat.reduceAdd, Nat.reduceSub, Nat.reduceLT, Nat.reduceEqDiff, Nat.reduceLeDiff, Nat.reduceBEq, reduceCtorEq, Int.reduceToNat, ↓reduceIte, rfP, rvP, rhP, frP, curB, bkd]; done)) rfl rfl ?_
    have := sealT_le v s b l rs
    exact ⟨⟨_, rfl, by unfold SzIn at *; omega⟩, _, _, rfl, by assumption⟩
  · refine fin_c rfl (by first | rfl | (simp (maxSteps := 1000000) (disch := first | omega | (simp only [LN, numOk, verOk, rfP, rvP, rhP, frP, curB, bkd] <;> omega) | exact Ck.mk rfl) only [VC, T, Nat.reduceMul, Nat.reduceAdd, Nat.reduceSub, Nat.reduceLT, Nat.reduceEqDiff, Nat.reduceLeDiff, Nat.reduceBEq, reduceCtorEq, Int.reduceToNat, ↓reduceIte, rfP, rvP, rhP, frP, curB, bkd]; done)) rfl rfl ?_
    exact ⟨⟨_, rfl, by unfold SzIn at *; omega⟩, _, _, rfl, by assumption⟩
theorem DrawTailOf (code : List Int) (hb : Bytes code) : FnV Try.prog 41 [.far (code.map (.int .u8))] (isStr' (SzIn 200000)) := by
  refine fn_v tok (n := 6) (rs := [.tmp 2]) Try.func41 (by decide) rfl rfl rfl rfl ?_
  (try simp (maxSteps := 1000000) (disch := first | omega | (simp only [LN, numOk, verOk, rfP, rvP, rhP, frP, curB, bkd] <;> omega) | exact Ck.mk rfl) only [VC, T, Nat.reduceMul, Nat.reduceAdd, Nat.reduceSub, Nat.reduceLT, Nat.reduceEqDiff, Nat.reduceLeDiff, Nat.reduceBEq, reduceCtorEq, Int.reduceToNat, ↓reduceIte, rfP, rvP, rhP, frP, curB, bkd])
  repeat' (first
    | (refine br_go (fun e f => ?_) (fun e f => ?_) <;> (try simp only [BB] at f) <;> (try simp only [numOk, verOk] at f) <;> (try simp (maxSteps := 1000000) (disch := first | omega | (simp only [LN, numOk, verOk, rfP, rvP, rhP, frP, curB, bkd] <;> omega) | exact Ck.mk rfl) only [e, VC, T, Nat.reduceMul, Nat.reduceAdd, Nat.reduceSub, Nat.reduceLT, Nat.reduceEqDiff, Nat.reduceLeDiff, Nat.reduceBEq, reduceCtorEq, Int.reduceToNat, ↓reduceIte, rfP, rvP, rhP, frP, curB, bkd]) <;> (try clear e))
    | (refine pick_go (fun e f => ?_) (fun e f => ?_) <;> (try simp only [BB] at f) <;> (try simp only [numOk, verOk] at f) <;> (try simp (maxSteps := 1000000) (disch := first | omega | (simp only [LN, numOk, verOk, rfP, rvP, rhP, frP, curB, bkd] <;> omega) | exact Ck.mk rfl) only [e, VC, T, Nat.reduceMul, Nat.reduceAdd, Nat.reduceSub, Nat.reduceLT, Nat.reduceEqDiff, Nat.reduceLeDiff, Nat.reduceBEq, reduceCtorEq, Int.reduceToNat, ↓reduceIte, rfP, rvP, rhP, frP, curB, bkd]) <;> (try clear e))
    | ((first | (refine call_h [] [] (l01New code hb) (by decide) rfl rfl ?_; rintro _ _ ⟨rfl, h, rfl, hc⟩) | (refine call_h [320] [] (l10File code hb _ _ (by assumption)) (by decide) rfl rfl ?_; rintro _ _ ⟨⟨u, rfl, hu⟩, i', h', rfl, hc'⟩)); (try simp (maxSteps := 1000000) (disch := first | omega | (simp only [LN, numOk, verOk, rfP, rvP, rhP, frP, curB, bkd] <;> omega) | exact Ck.mk rfl) only [VC, T, Nat.reduceMul, Nat.reduceAdd, Nat.reduceSub, Nat.reduceLT, Nat.reduceEqDiff, Nat.reduceLeDiff, Nat.reduceBEq, reduceCtorEq, Int.reduceToNat, ↓reduceIte, rfP, rvP, rhP, frP, curB, bkd])))
  exact ⟨_, rfl, hu⟩
theorem DrawScanText (code : List Int) (hb : Bytes code) : FnV Try.prog 54 [.far (code.map (.int .u8))] (isStr' (SzIn 200000)) := by
  refine fn_v tok (n := 6) (rs := [.tmp 2]) Try.func54 (by decide) rfl rfl rfl rfl ?_
  (try simp (maxSteps := 1000000) (disch := first | omega | (simp only [LN, numOk, verOk, rfP, rvP, rhP, frP, curB, bkd] <;> omega) | exact Ck.mk rfl) only [VC, T, Nat.reduceMul, Nat.reduceAdd, Nat.reduceSub, Nat.reduceLT, Nat.reduceEqDiff, Nat.reduceLeDiff, Nat.reduceBEq, reduceCtorEq, Int.reduceToNat, ↓reduceIte, rfP, rvP, rhP, frP, curB, bkd])
  repeat' (first
    | (refine br_go (fun e f => ?_) (fun e f => ?_) <;> (try simp only [BB] at f) <;> (try simp only [numOk, verOk] at f) <;> (try simp (maxSteps := 1000000) (disch := first | omega | (simp only [LN, numOk, verOk, rfP, rvP, rhP, frP, curB, bkd] <;> omega) | exact Ck.mk rfl) only [e, VC, T, Nat.reduceMul, Nat.reduceAdd, Nat.reduceSub, Nat.reduceLT, Nat.reduceEqDiff, Nat.reduceLeDiff, Nat.reduceBEq, reduceCtorEq, Int.reduceToNat, ↓reduceIte, rfP, rvP, rhP, frP, curB, bkd]) <;> (try clear e))
    | (refine pick_go (fun e f => ?_) (fun e f => ?_) <;> (try simp only [BB] at f) <;> (try simp only [numOk, verOk] at f) <;> (try simp (maxSteps := 1000000) (disch := first | omega | (simp only [LN, numOk, verOk, rfP, rvP, rhP, frP, curB, bkd] <;> omega) | exact Ck.mk rfl) only [e, VC, T, Nat.reduceMul, Nat.reduceAdd, Nat.reduceSub, Nat.reduceLT, Nat.reduceEqDiff, Nat.reduceLeDiff, Nat.reduceBEq, reduceCtorEq, Int.reduceToNat, ↓reduceIte, rfP, rvP, rhP, frP, curB, bkd]) <;> (try clear e))
    | ((first | (refine call_h [] [] (l01New code hb) (by decide) rfl rfl ?_; rintro _ _ ⟨rfl, h, rfl, hc⟩) | (refine call_h [320] [] (l10File code hb _ _ (by assumption)) (by decide) rfl rfl ?_; rintro _ _ ⟨⟨u, rfl, hu⟩, i', h', rfl, hc'⟩)); (try simp (maxSteps := 1000000) (disch := first | omega | (simp only [LN, numOk, verOk, rfP, rvP, rhP, frP, curB, bkd] <;> omega) | exact Ck.mk rfl) only [VC, T, Nat.reduceMul, Nat.reduceAdd, Nat.reduceSub, Nat.reduceLT, Nat.reduceEqDiff, Nat.reduceLeDiff, Nat.reduceBEq, reduceCtorEq, Int.reduceToNat, ↓reduceIte, rfP, rvP, rhP, frP, curB, bkd])))
  exact ⟨_, rfl, hu⟩
theorem DrawReadTrailer (code : List Int) (hb : Bytes code) : FnV Try.prog 28 [.far (code.map (.int .u8))] (isStr' (SzIn 200000)) := by
  have ht := fun a b c d => trailT_le a b c d
  refine fn_v tok (n := 22) (rs := [.tmp 2]) Try.func28 (by decide) rfl rfl rfl rfl ?_
  (try simp (maxSteps := 1000000) (disch := first | omega | (simp only [LN, numOk, verOk, rfP, rvP, rhP, frP, curB, bkd] <;> omega) | exact Ck.mk rfl) only [VC, T, Nat.reduceMul, Nat.reduceAdd, Nat.reduceSub, Nat.reduceLT, Nat.reduceEqDiff, Nat.reduceLeDiff, Nat.reduceBEq, reduceCtorEq, Int.reduceToNat, ↓reduceIte, rfP, rvP, rhP, frP, curB, bkd])
  repeat' (first
    | (refine br_go (fun e f => ?_) (fun e f => ?_) <;> (try simp only [BB] at f) <;> (try simp only [numOk, verOk] at f) <;> (try simp (maxSteps := 1000000) (disch := first | omega | (simp only [LN, numOk, verOk, rfP, rvP, rhP, frP, curB, bkd] <;> omega) | exact Ck.mk rfl) only [e, VC, T, Nat.reduceMul, Nat.reduceAdd, Nat.reduceSub, Nat.reduceLT, Nat.reduceEqDiff, Nat.reduceLeDiff, Nat.reduceBEq, reduceCtorEq, Int.reduceToNat, ↓reduceIte, rfP, rvP, rhP, frP, curB, bkd]) <;> (try clear e))
    | (refine pick_go (fun e f => ?_) (fun e f => ?_) <;> (try simp only [BB] at f) <;> (try simp only [numOk, verOk] at f) <;> (try simp (maxSteps := 1000000) (disch := first | omega | (simp only [LN, numOk, verOk, rfP, rvP, rhP, frP, curB, bkd] <;> omega) | exact Ck.mk rfl) only [e, VC, T, Nat.reduceMul, Nat.reduceAdd, Nat.reduceSub, Nat.reduceLT, Nat.reduceEqDiff, Nat.reduceLeDiff, Nat.reduceBEq, reduceCtorEq, Int.reduceToNat, ↓reduceIte, rfP, rvP, rhP, frP, curB, bkd]) <;> (try clear e))
    | ((first | (refine call_h [] [] (l01New code hb) (by decide) rfl rfl ?_; rintro _ _ ⟨rfl, h, rfl, hc⟩) | (refine call_h [384] [] (l01Below code hb _ (by omega) _ _ (by assumption)) (by decide) rfl rfl ?_; rintro _ _ ⟨⟨x, rfl, hx1, hx2⟩, i', h', rfl, hc'⟩) | (refine call_h [384] [] (l01Text code hb _ (by omega) _ _ (by assumption)) (by decide) rfl rfl ?_; rintro _ _ ⟨⟨u, rfl, hu⟩, i', h', rfl, hc'⟩) | refine call_x (spec_TrailerText _ _ _ _ (fun z hz => by simp only [List.mem_cons, List.not_mem_nil, or_false] at hz; omega)) rfl ⟨rfl⟩ ?_ | (refine call_h [384] [] (l08Bent code hb _ (by rw [ByteArray.size_append]; exact Nat.le_trans (Nat.add_le_add_left (trailT_le _ _ _ _) _) (by unfold SzIn at hu; omega)) _ _ (by assumption)) (by decide) rfl rfl ?_; rintro _ _ ⟨⟨w, rfl, hw⟩, i', h', rfl, hc'⟩) | refine And.intro (Nat.le_trans (Nat.add_le_add_left (trailT_le _ _ _ _) _) (by unfold SzIn at hu; omega)) ?_); (try simp (maxSteps := 1000000) (disch := first | omega | (simp only [LN, numOk, verOk, rfP, rvP, rhP, frP, curB, bkd] <;> omega) | exact Ck.mk rfl) only [VC, T, Nat.reduceMul, Nat.reduceAdd, Nat.reduceSub, Nat.reduceLT, Nat.reduceEqDiff, Nat.reduceLeDiff, Nat.reduceBEq, reduceCtorEq, Int.reduceToNat, ↓reduceIte, rfP, rvP, rhP, frP, curB, bkd])))
  refine ⟨_, rfl, ?_⟩
  unfold SzIn at *
  rw [ByteArray.size_append] at hw
  have h1 : ∀ a b c d : Int, ((trailT a b c d).size : Int) ≤ 36 := fun a b c d => by have := trailT_le a b c d; omega
  refine Int.le_trans hw ?_
  have h2 := fun a b c d => Int.add_le_add_left (h1 a b c d) u.size
  rw [Int.natCast_add]
  refine Int.le_trans (Int.add_le_add_right (h2 _ _ _ _) 4) ?_
  omega
def isInts (A : List Int → Prop) (r : PV) : Prop := ∃ x, r = .far (x.map (.int .i64)) ∧ A x
def Offs (x : List Int) : Prop := x.length ≤ 10 ∧ ∀ o ∈ x, i64 o
theorem l11Offsets (code : List Int) (hb : Bytes code) (i h : Int) (hc : CurOk code i h) : FnE Try.prog 88 [.ref 0 0] [(0, curB code i h)] (CQ code (isInts Offs)) := by
  refine fn_e tok (n := 31) (rs := [.tmp 2]) Try.func88 (by decide) rfl rfl rfl rfl (low_of rfl) ?_
  (try simp (maxSteps := 1000000) (disch := first | omega | (simp only [LN, numOk, verOk, rfP, rvP, rhP, frP, curB, bkd] <;> omega) | exact Ck.mk rfl) only [VC, T, Nat.reduceMul, Nat.reduceAdd, Nat.reduceSub, Nat.reduceLT, Nat.reduceEqDiff, Nat.reduceLeDiff, Nat.reduceBEq, reduceCtorEq, Int.reduceToNat, ↓reduceIte, rfP, rvP, rhP, frP, curB, bkd])
  repeat' (first
    | (refine br_go (fun e f => ?_) (fun e f => ?_) <;> (try simp only [BB] at f) <;> (try simp only [numOk, verOk] at f) <;> (try simp (maxSteps := 1000000) (disch := first | omega | (simp only [LN, numOk, verOk, rfP, rvP, rhP, frP, curB, bkd] <;> omega) | exact Ck.mk rfl) only [e, VC, T, Nat.reduceMul, Nat.reduceAdd, Nat.reduceSub, Nat.reduceLT, Nat.reduceEqDiff, Nat.reduceLeDiff, Nat.reduceBEq, reduceCtorEq, Int.reduceToNat, ↓reduceIte, rfP, rvP, rhP, frP, curB, bkd]) <;> (try clear e))
    | (refine pick_go (fun e f => ?_) (fun e f => ?_) <;> (try simp only [BB] at f) <;> (try simp only [numOk, verOk] at f) <;> (try simp (maxSteps := 1000000) (disch := first | omega | (simp only [LN, numOk, verOk, rfP, rvP, rhP, frP, curB, bkd] <;> omega) | exact Ck.mk rfl) only [e, VC, T, Nat.reduceMul, Nat.reduceAdd, Nat.reduceSub, Nat.reduceLT, Nat.reduceEqDiff, Nat.reduceLeDiff, Nat.reduceBEq, reduceCtorEq, Int.reduceToNat, ↓reduceIte, rfP, rvP, rhP, frP, curB, bkd]) <;> (try clear e)))
  refine lp_go (fun x : List Int × Int × Int × Int => ⟨31, [(0, .ref 0 0), (3, .row 448 x.1.length), (4, .int .i64 x.2.1), (5, .int .i64 x.1.length)], [(448, .row ⟨1, 0⟩ (x.1.map (.int .i64))), (0, curB code x.2.2.1 x.2.2.2)]⟩) (fun x => (x.1.length ≤ 8 ∧ (∀ o ∈ x.1, 0 ≤ o ∧ o ≤ 100000) ∧ 0 ≤ x.2.1 ∧ x.2.1 ≤ 24 + 44 * x.1.length) ∧ CurOk code x.2.2.1 x.2.2.2) (fun x => 9 - x.1.length) ([], 24, i, h) ?_ ⟨⟨Nat.zero_le _, fun _ h => absurd h (by simp), by simp only; omega, by simp⟩, hc⟩ ?_
  · (simp (disch := first | omega | (simp only [LN, numOk, verOk, curB] <;> omega) | exact Ck.mk rfl) only [SB, EQ, Nat.reduceMul, Nat.reduceAdd, Nat.reduceSub, Nat.reduceLT, Nat.reduceEqDiff, Nat.reduceLeDiff, Nat.reduceBEq, reduceCtorEq, Int.reduceToNat, ↓reduceIte, curB]; try omega)
  · rintro ⟨os, a, i, h⟩ ⟨⟨h1, h2, h3, h4⟩, hc⟩ N hN
    simp only at h1 h2 h3 h4 hc
    (try simp (maxSteps := 1000000) (disch := first | omega | (simp only [LN, numOk, verOk, rfP, rvP, rhP, frP, curB, bkd] <;> omega) | exact Ck.mk rfl) only [VC, T, Nat.reduceMul, Nat.reduceAdd, Nat.reduceSub, Nat.reduceLT, Nat.reduceEqDiff, Nat.reduceLeDiff, Nat.reduceBEq, reduceCtorEq, Int.reduceToNat, ↓reduceIte, rfP, rvP, rhP, frP, curB, bkd])
    repeat' (first
      | (refine br_go (fun e f => ?_) (fun e f => ?_) <;> (try simp only [BB] at f) <;> (try simp only [numOk, verOk] at f) <;> (try simp (maxSteps := 1000000) (disch := first | omega | (simp only [LN, numOk, verOk, rfP, rvP, rhP, frP, curB, bkd] <;> omega) | exact Ck.mk rfl) only [e, VC, T, Nat.reduceMul, Nat.reduceAdd, Nat.reduceSub, Nat.reduceLT, Nat.reduceEqDiff, Nat.reduceLeDiff, Nat.reduceBEq, reduceCtorEq, Int.reduceToNat, ↓reduceIte, rfP, rvP, rhP, frP, curB, bkd]) <;> (try clear e))
      | (refine pick_go (fun e f => ?_) (fun e f => ?_) <;> (try simp only [BB] at f) <;> (try simp only [numOk, verOk] at f) <;> (try simp (maxSteps := 1000000) (disch := first | omega | (simp only [LN, numOk, verOk, rfP, rvP, rhP, frP, curB, bkd] <;> omega) | exact Ck.mk rfl) only [e, VC, T, Nat.reduceMul, Nat.reduceAdd, Nat.reduceSub, Nat.reduceLT, Nat.reduceEqDiff, Nat.reduceLeDiff, Nat.reduceBEq, reduceCtorEq, Int.reduceToNat, ↓reduceIte, rfP, rvP, rhP, frP, curB, bkd]) <;> (try clear e))
      | ((first | (refine call_h [0] [] (l01Below code hb _ (by omega) _ _ (by assumption)) (by decide) rfl rfl ?_; rintro _ _ ⟨⟨x, rfl, hx1, hx2⟩, i', h', rfl, hc'⟩) | (refine call_h [0] [] (l01Once code hb _ (by omega) _ _ (by assumption)) (by decide) rfl rfl ?_; rintro _ _ ⟨⟨x, rfl⟩, i', h', rfl, hc'⟩) | (refine call_hd [0] [1728] (l01PickInt code hb [0, -1, 9223372036854775807, 1000000500] (by simp) (by simp) _ _ (by assumption)) (by decide) ?_ rfl ?_; (focus (first | rfl | (simp (maxSteps := 1000000) (disch := first | omega | (simp only [LN, numOk, verOk, rfP, rvP, rhP, frP, curB, bkd] <;> omega) | exact Ck.mk rfl) only [VC, T, Nat.reduceMul, Nat.reduceAdd, Nat.reduceSub, Nat.reduceLT, Nat.reduceEqDiff, Nat.reduceLeDiff, Nat.reduceBEq, reduceCtorEq, Int.reduceToNat, ↓reduceIte, rfP, rvP, rhP, frP, curB, bkd]; done))); rintro _ _ ⟨⟨y, rfl, hy⟩, i', h', rfl, hc'⟩)); (try simp (maxSteps := 1000000) (disch := first | omega | (simp only [LN, numOk, verOk, rfP, rvP, rhP, frP, curB, bkd] <;> omega) | exact Ck.mk rfl) only [VC, T, Nat.reduceMul, Nat.reduceAdd, Nat.reduceSub, Nat.reduceLT, Nat.reduceEqDiff, Nat.reduceLeDiff, Nat.reduceBEq, reduceCtorEq, Int.reduceToNat, ↓reduceIte, rfP, rvP, rhP, frP, curB, bkd])))
    · refine hN (os ++ [a], a + 5 + x, _, _) _ ⟨⟨by simp only [List.length_append, List.length_singleton]; omega, fun z hz => ?_, by simp only; omega, by simp only [List.length_append, List.length_singleton]; omega⟩, by assumption⟩ (by simp only [List.length_append, List.length_singleton]; omega) ?_
      · rcases List.mem_append.1 hz with hz | hz
        · exact h2 z hz
        · rw [List.mem_singleton.1 hz]; omega
      · (simp (disch := first | omega | (simp only [LN, numOk, verOk, curB] <;> omega) | exact Ck.mk rfl) only [SB, EQ, Nat.reduceMul, Nat.reduceAdd, Nat.reduceSub, Nat.reduceLT, Nat.reduceEqDiff, Nat.reduceLeDiff, Nat.reduceBEq, reduceCtorEq, Int.reduceToNat, ↓reduceIte, curB]; try omega)
    · refine fin_c (y := .far ((os ++ [y]).map (.int .i64))) rfl (by first | rfl | (simp (maxSteps := 1000000) (disch := first | omega | (simp only [LN, numOk, verOk, rfP, rvP, rhP, frP, curB, bkd] <;> omega) | exact Ck.mk rfl) only [VC, T, Nat.reduceMul, Nat.reduceAdd, Nat.reduceSub, Nat.reduceLT, Nat.reduceEqDiff, Nat.reduceLeDiff, Nat.reduceBEq, reduceCtorEq, Int.reduceToNat, ↓reduceIte, rfP, rvP, rhP, frP, curB, bkd]; done)) rfl rfl ?_
      refine ⟨⟨_, rfl, by rw [List.length_append, List.length_singleton]; omega, fun z hz => ?_⟩, _, _, rfl, by assumption⟩
      rcases List.mem_append.1 hz with hz | hz
      · have := h2 z hz; unfold i64; omega
      · rw [List.mem_singleton.1 hz]
        simp only [Mem, List.mem_cons, List.not_mem_nil, or_false] at hy
        unfold i64; omega
    · refine fin_c (y := .far (os.map (.int .i64))) rfl (by first | rfl | (simp (maxSteps := 1000000) (disch := first | omega | (simp only [LN, numOk, verOk, rfP, rvP, rhP, frP, curB, bkd] <;> omega) | exact Ck.mk rfl) only [VC, T, Nat.reduceMul, Nat.reduceAdd, Nat.reduceSub, Nat.reduceLT, Nat.reduceEqDiff, Nat.reduceLeDiff, Nat.reduceBEq, reduceCtorEq, Int.reduceToNat, ↓reduceIte, rfP, rvP, rhP, frP, curB, bkd]; done)) rfl rfl ?_
      exact ⟨⟨_, rfl, by omega, fun z hz => by have := h2 z hz; unfold i64; omega⟩, _, _, rfl, by assumption⟩
def isFootArg (r : PV) : Prop := ∃ (v s b l : Int) (os : List Int) (e : Int), r = .tup [.agg [.int .i64 v, .int .i64 s, .int .i64 b, .int .i64 l], .far (os.map (.int .i64)), .int .i64 e] ∧ HdA (v, s, b, l) ∧ Offs os ∧ i64 e
theorem DrawFootText (code : List Int) (hb : Bytes code) : FnV Try.prog 32 [.far (code.map (.int .u8))] isFootArg := by
  refine fn_v tok (n := 15) (rs := [.cell 2 27, .tmp 3, .tmp 4]) Try.func32 (by decide) rfl rfl rfl rfl ?_
  (try simp (maxSteps := 1000000) (disch := first | omega | (simp only [LN, numOk, verOk, rfP, rvP, rhP, frP, curB, bkd] <;> omega) | exact Ck.mk rfl) only [VC, T, Nat.reduceMul, Nat.reduceAdd, Nat.reduceSub, Nat.reduceLT, Nat.reduceEqDiff, Nat.reduceLeDiff, Nat.reduceBEq, reduceCtorEq, Int.reduceToNat, ↓reduceIte, rfP, rvP, rhP, frP, curB, bkd])
  repeat' (first
    | (refine br_go (fun e f => ?_) (fun e f => ?_) <;> (try simp only [BB] at f) <;> (try simp only [numOk, verOk] at f) <;> (try simp (maxSteps := 1000000) (disch := first | omega | (simp only [LN, numOk, verOk, rfP, rvP, rhP, frP, curB, bkd] <;> omega) | exact Ck.mk rfl) only [e, VC, T, Nat.reduceMul, Nat.reduceAdd, Nat.reduceSub, Nat.reduceLT, Nat.reduceEqDiff, Nat.reduceLeDiff, Nat.reduceBEq, reduceCtorEq, Int.reduceToNat, ↓reduceIte, rfP, rvP, rhP, frP, curB, bkd]) <;> (try clear e))
    | (refine pick_go (fun e f => ?_) (fun e f => ?_) <;> (try simp only [BB] at f) <;> (try simp only [numOk, verOk] at f) <;> (try simp (maxSteps := 1000000) (disch := first | omega | (simp only [LN, numOk, verOk, rfP, rvP, rhP, frP, curB, bkd] <;> omega) | exact Ck.mk rfl) only [e, VC, T, Nat.reduceMul, Nat.reduceAdd, Nat.reduceSub, Nat.reduceLT, Nat.reduceEqDiff, Nat.reduceLeDiff, Nat.reduceBEq, reduceCtorEq, Int.reduceToNat, ↓reduceIte, rfP, rvP, rhP, frP, curB, bkd]) <;> (try clear e))
    | ((first | (refine call_h [] [] (l01New code hb) (by decide) rfl rfl ?_; rintro _ _ ⟨rfl, h, rfl, hc⟩) | (refine call_h [512] [] (l08Any code hb _ _ (by assumption)) (by decide) rfl rfl ?_; rintro _ _ ⟨⟨v, s, b, l, rfl, hx⟩, i', h', rfl, hc'⟩) | (refine call_h [512] [] (l11Offsets code hb _ _ (by assumption)) (by decide) rfl rfl ?_; rintro _ _ ⟨⟨os, rfl, ho⟩, i', h', rfl, hc'⟩) | (refine call_hd [512] [896] (l01PickInt code hb [24, 100, 4294967295, 4294967296, -1] (by simp) (by simp) _ _ (by assumption)) (by decide) ?_ rfl ?_; (focus (first | rfl | (simp (maxSteps := 1000000) (disch := first | omega | (simp only [LN, numOk, verOk, rfP, rvP, rhP, frP, curB, bkd] <;> omega) | exact Ck.mk rfl) only [VC, T, Nat.reduceMul, Nat.reduceAdd, Nat.reduceSub, Nat.reduceLT, Nat.reduceEqDiff, Nat.reduceLeDiff, Nat.reduceBEq, reduceCtorEq, Int.reduceToNat, ↓reduceIte, rfP, rvP, rhP, frP, curB, bkd]; done))); rintro _ _ ⟨⟨y, rfl, hy⟩, i', h', rfl, hc'⟩)); (try simp (maxSteps := 1000000) (disch := first | omega | (simp only [LN, numOk, verOk, rfP, rvP, rhP, frP, curB, bkd] <;> omega) | exact Ck.mk rfl) only [VC, T, Nat.reduceMul, Nat.reduceAdd, Nat.reduceSub, Nat.reduceLT, Nat.reduceEqDiff, Nat.reduceLeDiff, Nat.reduceBEq, reduceCtorEq, Int.reduceToNat, ↓reduceIte, rfP, rvP, rhP, frP, curB, bkd])))
  refine ⟨_, _, _, _, _, _, rfl, hx, ho, ?_⟩
  simp only [Mem, List.mem_cons, List.not_mem_nil, or_false] at hy
  unfold i64; omega
end Go.Pv

/- What functions of the program and of the reference do, in plain values. -/
namespace Go.Pv
open Go.Proofs Go.Mth
set_option linter.unusedSimpArgs false
set_option linter.unusedVariables false
set_option maxHeartbeats 4000000

/-! ### lists of places of sealed files, reads -/
theorem impl_PlacesOf_R (s : Int) (os : List Int) (hs : s ≤ 9223372036854775807) (hl : os.length ≤ 1073741824) : FnE Try.prog 92 [.int .i64 s, .far (os.map (.int .i64))] [] (fun r m => r = .row 64 (placesP s os).length ∧ m = [(64, .row ⟨2, 0⟩ ((placesP s os).map plP))]) := by
  refine fn_e tok (n := 34) (rs := [.tmp 4]) Try.func92 (by decide) rfl rfl rfl rfl (low_of rfl) ?_
  (try simp (maxSteps := 1000000) (disch := first | omega | (simp only [LN, numOk, verOk, rfP, rvP, rhP, frP, scanR, scanH, scanP, rsP, skP, pfP] <;> omega) | exact Ck.mk rfl) only [VC, T, Nat.reduceMul, Nat.reduceAdd, Nat.reduceSub, Nat.reduceLT, Nat.reduceEqDiff, Nat.reduceLeDiff, Nat.reduceBEq, reduceCtorEq, Int.reduceToNat, ↓reduceIte, rfP, rvP, rhP, frP, scanR, scanH, scanP, rsP, skP, pfP])
  repeat' (first
    | (refine br_go (fun e f => ?_) (fun e f => ?_) <;> (try simp only [BB] at f) <;> (try simp only [numOk, verOk] at f) <;> (try simp (maxSteps := 1000000) (disch := first | omega | (simp only [LN, numOk, verOk, rfP, rvP, rhP, frP, scanR, scanH, scanP, rsP, skP, pfP] <;> omega) | exact Ck.mk rfl) only [e, VC, T, Nat.reduceMul, Nat.reduceAdd, Nat.reduceSub, Nat.reduceLT, Nat.reduceEqDiff, Nat.reduceLeDiff, Nat.reduceBEq, reduceCtorEq, Int.reduceToNat, ↓reduceIte, rfP, rvP, rhP, frP, scanR, scanH, scanP, rsP, skP, pfP]) <;> (try clear e))
    | (refine pick_go (fun e f => ?_) (fun e f => ?_) <;> (try simp only [BB] at f) <;> (try simp only [numOk, verOk] at f) <;> (try simp (maxSteps := 1000000) (disch := first | omega | (simp only [LN, numOk, verOk, rfP, rvP, rhP, frP, scanR, scanH, scanP, rsP, skP, pfP] <;> omega) | exact Ck.mk rfl) only [e, VC, T, Nat.reduceMul, Nat.reduceAdd, Nat.reduceSub, Nat.reduceLT, Nat.reduceEqDiff, Nat.reduceLeDiff, Nat.reduceBEq, reduceCtorEq, Int.reduceToNat, ↓reduceIte, rfP, rvP, rhP, frP, scanR, scanH, scanP, rsP, skP, pfP]) <;> (try clear e)))
  · have hq : placesP s os = [] := by unfold placesP placesOf; rw [if_pos f]
    rw [hq]
    exact fin_t [some 512] (⟨rfl, rfl⟩) rfl (by simp [RV, RV2, RVl, RV1, tau, tget, hget, data1, oneOf]) (by simp [RH, RVl, RV1, tau, hget, data1]) (by simp [Taus, hget])
  · refine lp_go (fun x : Nat × List (Int × Int) => ⟨34, [(0, .int .i64 s), (1, .far (os.map (.int .i64))), (5, .row 512 x.2.length), (6, .int .i64 x.1)], [(512, .row ⟨2, 0⟩ (x.2.map plP))]⟩) (fun x => x.1 ≤ os.length ∧ x.2.length ≤ x.1 ∧ placesP s os = x.2 ++ plc (fun a b => (a, b)) s (os.drop x.1) x.1 ∧ (x.1 : Int) % s = 0) (fun x => os.length - x.1) (0, []) ?_ ?_ ?_
    · (simp (disch := first | omega | (simp only [LN, numOk, verOk] <;> omega) | exact Ck.mk rfl) only [SB, EQ, Nat.reduceMul, Nat.reduceAdd, Nat.reduceSub, Nat.reduceLT, Nat.reduceEqDiff, Nat.reduceLeDiff, Nat.reduceBEq, reduceCtorEq, Int.reduceToNat, ↓reduceIte]; try omega)
    · refine ⟨Nat.zero_le _, Nat.le_refl _, ?_, by simp⟩
      unfold placesP placesOf; rw [if_neg (by omega)]; rfl
    · rintro ⟨i, l⟩ ⟨h1, h2, h3, h4⟩ N hN
      simp only at h1 h2 h3 h4
      have hst := plc_step s os i
      have hsk := fun m h => plc_skip (fun a b : Int => (a, b)) s os m (i + 1) h
      have hmod : ∀ t : Nat, i + 1 ≤ t → (t : Int) < i + s → (t : Int) % s ≠ 0 := fun t q1 q2 q3 => by
        have e1 := Int.emod_add_mul_ediv (i : Int) s
        have e2 := Int.emod_add_mul_ediv (t : Int) s
        rw [h4] at e1
        rw [q3] at e2
        have : s * ((t : Int) / s - (i : Int) / s) = t - i := by rw [Int.mul_sub]; omega
        have k1 : 0 < (t : Int) / s - (i : Int) / s := by
          apply Int.pos_of_mul_pos_right (a := s) (by omega) (by omega)
        have k2 : s * 1 ≤ s * ((t : Int) / s - (i : Int) / s) := Int.mul_le_mul_of_nonneg_left (by omega) (by omega)
        omega
      have hmap : (l ++ [((i : Int), os.getD i default)]).map plP = l.map plP ++ [.agg [.int .i64 i, .int .i64 (os.getD i default)]] := by rw [List.map_append]; rfl
      (try simp (maxSteps := 1000000) (disch := first | omega | (simp only [LN, numOk, verOk, rfP, rvP, rhP, frP, scanR, scanH, scanP, rsP, skP, pfP] <;> omega) | exact Ck.mk rfl) only [VC, T, Nat.reduceMul, Nat.reduceAdd, Nat.reduceSub, Nat.reduceLT, Nat.reduceEqDiff, Nat.reduceLeDiff, Nat.reduceBEq, reduceCtorEq, Int.reduceToNat, ↓reduceIte, rfP, rvP, rhP, frP, scanR, scanH, scanP, rsP, skP, pfP])
      repeat' (first
        | (refine br_go (fun e f => ?_) (fun e f => ?_) <;> (try simp only [BB] at f) <;> (try simp only [numOk, verOk] at f) <;> (try simp (maxSteps := 1000000) (disch := first | omega | (simp only [LN, numOk, verOk, rfP, rvP, rhP, frP, scanR, scanH, scanP, rsP, skP, pfP] <;> omega) | exact Ck.mk rfl) only [e, VC, T, Nat.reduceMul, Nat.reduceAdd, Nat.reduceSub, Nat.reduceLT, Nat.reduceEqDiff, Nat.reduceLeDiff, Nat.reduceBEq, reduceCtorEq, Int.reduceToNat, ↓reduceIte, rfP, rvP, rhP, frP, scanR, scanH, scanP, rsP, skP, pfP]) <;> (try clear e))
        | (refine pick_go (fun e f => ?_) (fun e f => ?_) <;> (try simp only [BB] at f) <;> (try simp only [numOk, verOk] at f) <;> (try simp (maxSteps := 1000000) (disch := first | omega | (simp only [LN, numOk, verOk, rfP, rvP, rhP, frP, scanR, scanH, scanP, rsP, skP, pfP] <;> omega) | exact Ck.mk rfl) only [e, VC, T, Nat.reduceMul, Nat.reduceAdd, Nat.reduceSub, Nat.reduceLT, Nat.reduceEqDiff, Nat.reduceLeDiff, Nat.reduceBEq, reduceCtorEq, Int.reduceToNat, ↓reduceIte, rfP, rvP, rhP, frP, scanR, scanH, scanP, rsP, skP, pfP]) <;> (try clear e)))
      · have hq : placesP s os = l ++ [((i : Int), os.getD i default)] := by rw [h3, hst (by omega), if_pos h4, hsk (os.length - (i + 1)) fun t q1 q2 => hmod t q1 (by omega), List.drop_eq_nil_of_le (by omega)]; rfl
        rw [hq, hmap]
        exact fin_t [some 512] (⟨rfl, rfl⟩) rfl (by simp [RV, RV2, RVl, RV1, tau, tget, hget, data1, oneOf]) (by simp [RH, RVl, RV1, tau, hget, data1]) (by simp [Taus, hget])
      · refine hN (i + s.toNat, l ++ [((i : Int), os.getD i default)]) _ ⟨by simp only; omega, by simp only [List.length_append, List.length_singleton]; omega, ?_, ?_⟩ (by simp only; omega) ?_
        · rw [h3, hst (by omega), if_pos h4, hsk (s.toNat - 1) fun t q1 q2 => hmod t q1 (by omega), show i + 1 + (s.toNat - 1) = i + s.toNat by omega]
          simp
        · simp only [Int.natCast_add]
          rw [show ((s.toNat : Nat) : Int) = s by omega, Int.add_emod_right]
          exact h4
        · (simp (disch := first | omega | (simp only [LN, numOk, verOk] <;> omega) | exact Ck.mk rfl) only [SB, EQ, Nat.reduceMul, Nat.reduceAdd, Nat.reduceSub, Nat.reduceLT, Nat.reduceEqDiff, Nat.reduceLeDiff, Nat.reduceBEq, reduceCtorEq, Int.reduceToNat, ↓reduceIte]; try omega)
          try omega
          exact ⟨by omega, hmap.symm⟩
      · have hq : placesP s os = l := by rw [h3, List.drop_eq_nil_of_le (by omega)]; unfold plc; rw [List.append_nil]
        rw [hq]
        exact fin_t [some 512] (⟨rfl, rfl⟩) rfl (by simp [RV, RV2, RVl, RV1, tau, tget, hget, data1, oneOf]) (by simp [RH, RVl, RV1, tau, hget, data1]) (by simp [Taus, hget])
def offT (b : ByteArray) (i : Int) : Int := if (scan b).2.2.2.1 ≤ i ∧ i < (scan b).2.2.2.1 + (scan b).2.2.2.2.2.2.1.length then (scan b).2.2.2.2.2.2.1.getD (i - (scan b).2.2.2.1).toNat default else -1
def listT (b : ByteArray) : List (Int × Int) × Bool := if sealedB b = true then (placesP (scan b).2.2.1 (scan b).2.2.2.2.2.2.1, true) else ([], false)
def liP (x : List (Int × Int) × Bool) : PV := .tup [.far (x.1.map plP), .bool x.2]
def liR (x : List (Int × Int) × Bool) : PV := .tup [.row 64 x.1.length, .bool x.2]
def liH (x : List (Int × Int) × Bool) : Hp := [(64, .row ⟨2, 0⟩ (x.1.map plP))]
theorem sok (b : ByteArray) : (rSealed b).2.2 = sealedB b := by
  unfold rSealed
  cases sealedB b <;> rfl
theorem pfor_first (k : Int) (p : Int × Int) (l : List (Int × Int)) (h : p.1 ≤ k) : (pfor k (p :: l)).2 = true := by
  unfold pfor
  split
  · assumption
  · first | rfl | rw [if_pos h]
theorem placesP_first (s : Int) (o : Int) (os : List Int) (hs : 1 ≤ s) : ∃ l, placesP s (o :: os) = (0, o) :: l := by
  unfold placesP placesOf
  rw [if_neg (by omega)]
  unfold plc
  rw [if_pos (by simp)]
  exact ⟨_, rfl⟩
theorem pfor_in (k : Int) : ∀ (l : List (Int × Int)), (pfor k l).2 = true → (pfor k l).1 ∈ l ∧ (pfor k l).1.1 ≤ k
  | [], h => by cases h
  | p :: l, h => by
    unfold pfor at h ⊢
    split at h
    · rename_i h1
      rw [if_pos h1]
      obtain ⟨a, b⟩ := pfor_in k l h1
      exact ⟨List.mem_cons_of_mem _ a, b⟩
    · rename_i h1
      rw [if_neg h1]
      split at h
      · rename_i h2
        rw [if_pos h2]; exact ⟨List.mem_cons_self, h2⟩
      · cases h
/-- How many frames are read for a record. -/
def readsT (b : ByteArray) (i : Int) : Int := if sealedB b = true ∧ (scan b).2.2.2.1 ≤ i ∧ i < (scan b).2.2.2.1 + (scan b).2.2.2.2.2.1.length then i - (scan b).2.2.2.1 - (pfor (i - (scan b).2.2.2.1) (placesP (scan b).2.2.1 (scan b).2.2.2.2.2.2.1)).1.1 + 1 else 0
end Go.Pv

/- What functions of the program and of the reference do, in plain values. -/
namespace Go.Pv
open Go.Proofs Go.Mth
set_option linter.unusedSimpArgs false
set_option linter.unusedVariables false
set_option maxHeartbeats 4000000

/-! ### laws with draws -/
theorem u8_wf {n : Int} (h : (Lit.int .u8 n).wf = true) : 0 ≤ n ∧ n ≤ 255 := by
  simp only [Lit.wf, Bool.and_eq_true, decide_eq_true_eq] at h
  exact h
def Code (code : List Int) : Prop := code.length ≤ 9223372036854775807 ∧ ∀ a ∈ code, (Lit.int .u8 a).wf = true
theorem code_bytes {code : List Int} (h : Code code) (hl : (code.length : Int) ≤ 1048576) : Bytes code := ⟨by omega, fun x hx => u8_wf (h.2 x hx)⟩
theorem laws_big (code : List Int) (h : code.length ≤ 9223372036854775807) : Fn Try.prog 27 [.far (code.map (.int .u8))] [] (.bool (decide (1048576 < (code.length : Int)))) [] := by
  refine fn_x tok (n := 6) (rs := [.tmp 2]) Try.func27 (by decide) rfl rfl rfl rfl ?_
  (try simp (maxSteps := 1000000) (disch := first | omega | (simp only [LN, numOk, verOk, rtP, beq_self_eq_true, rsP, liP, scanP, rhP, frP] <;> omega) | exact Ck.mk rfl) only [VC, T, Nat.reduceMul, Nat.reduceAdd, Nat.reduceSub, Nat.reduceLT, Nat.reduceEqDiff, Nat.reduceLeDiff, Nat.reduceBEq, reduceCtorEq, Int.reduceToNat, ↓reduceIte, rtP, beq_self_eq_true, rsP, liP, scanP, rhP, frP])
  repeat' (first
    | (refine br_go (fun e f => ?_) (fun e f => ?_) <;> (try simp only [BB] at f) <;> (try simp only [numOk, verOk] at f) <;> (try simp (maxSteps := 1000000) (disch := first | omega | (simp only [LN, numOk, verOk, rtP, beq_self_eq_true, rsP, liP, scanP, rhP, frP] <;> omega) | exact Ck.mk rfl) only [e, VC, T, Nat.reduceMul, Nat.reduceAdd, Nat.reduceSub, Nat.reduceLT, Nat.reduceEqDiff, Nat.reduceLeDiff, Nat.reduceBEq, reduceCtorEq, Int.reduceToNat, ↓reduceIte, rtP, beq_self_eq_true, rsP, liP, scanP, rhP, frP]) <;> (try clear e))
    | (refine pick_go (fun e f => ?_) (fun e f => ?_) <;> (try simp only [BB] at f) <;> (try simp only [numOk, verOk] at f) <;> (try simp (maxSteps := 1000000) (disch := first | omega | (simp only [LN, numOk, verOk, rtP, beq_self_eq_true, rsP, liP, scanP, rhP, frP] <;> omega) | exact Ck.mk rfl) only [e, VC, T, Nat.reduceMul, Nat.reduceAdd, Nat.reduceSub, Nat.reduceLT, Nat.reduceEqDiff, Nat.reduceLeDiff, Nat.reduceBEq, reduceCtorEq, Int.reduceToNat, ↓reduceIte, rtP, beq_self_eq_true, rsP, liP, scanP, rhP, frP]) <;> (try clear e)))
theorem law_FnTails (code : List Int) (hc : code.length ≤ 9223372036854775807 ∧ ∀ a ∈ code, (Lit.int .u8 a).wf = true) : Fn Try.prog 8 [.far (code.map (.int .u8))] [] (.bool true) [] := by
  have hk : headOk 1 1 0 0 := by decide
  have hz := headT_size 1 1 0 0 hk
  have hs0 := scan_bare 1 1 0 0 hk ⟨#[]⟩ (by decide)
  have hs1 := scan_bare 1 1 0 0 hk ⟨#[120]⟩ (by decide)
  have he : headT 1 1 0 0 ++ ⟨#[]⟩ = headT 1 1 0 0 := ByteArray.append_empty
  rw [he] at hs0
  have e1 : scEnd (headT 1 1 0 0 ++ ⟨#[120]⟩) = 24 := by unfold scEnd; rw [hs1]
  have e2 : (headT 1 1 0 0 ++ ⟨#[120]⟩).extract 24 25 = ⟨#[120]⟩ := by
    apply bytesOf_inj
    have h1 : (⟨#[120]⟩ : ByteArray).size = 1 := rfl
    rw [bytesOf_extract, bytesOf_append, List.take_of_length_le (by rw [List.length_append, bytesOf_length, bytesOf_length, hz, h1]; decide), List.drop_left' (by rw [bytesOf_length, hz])]
  refine fn_x tok (n := 57) (rs := [.tmp 2]) Try.func8 (by decide) rfl rfl rfl rfl ?_
  (try simp (maxSteps := 1000000) (disch := first | omega | (simp only [LN, numOk, verOk, rtP, beq_self_eq_true, rsP, liP, scanP, rhP, frP] <;> omega) | exact Ck.mk rfl) only [VC, T, Nat.reduceMul, Nat.reduceAdd, Nat.reduceSub, Nat.reduceLT, Nat.reduceEqDiff, Nat.reduceLeDiff, Nat.reduceBEq, reduceCtorEq, Int.reduceToNat, ↓reduceIte, rtP, beq_self_eq_true, rsP, liP, scanP, rhP, frP])
  repeat' (first
    | (refine br_go (fun e f => ?_) (fun e f => ?_) <;> (try simp only [BB] at f) <;> (try simp only [numOk, verOk] at f) <;> (try simp (maxSteps := 1000000) (disch := first | omega | (simp only [LN, numOk, verOk, rtP, beq_self_eq_true, rsP, liP, scanP, rhP, frP] <;> omega) | exact Ck.mk rfl) only [e, VC, T, Nat.reduceMul, Nat.reduceAdd, Nat.reduceSub, Nat.reduceLT, Nat.reduceEqDiff, Nat.reduceLeDiff, Nat.reduceBEq, reduceCtorEq, Int.reduceToNat, ↓reduceIte, rtP, beq_self_eq_true, rsP, liP, scanP, rhP, frP]) <;> (try clear e))
    | (refine pick_go (fun e f => ?_) (fun e f => ?_) <;> (try simp only [BB] at f) <;> (try simp only [numOk, verOk] at f) <;> (try simp (maxSteps := 1000000) (disch := first | omega | (simp only [LN, numOk, verOk, rtP, beq_self_eq_true, rsP, liP, scanP, rhP, frP] <;> omega) | exact Ck.mk rfl) only [e, VC, T, Nat.reduceMul, Nat.reduceAdd, Nat.reduceSub, Nat.reduceLT, Nat.reduceEqDiff, Nat.reduceLeDiff, Nat.reduceBEq, reduceCtorEq, Int.reduceToNat, ↓reduceIte, rtP, beq_self_eq_true, rsP, liP, scanP, rhP, frP]) <;> (try clear e))
    | ((first | refine call_x (laws_big _ hc.1) rfl ⟨rfl⟩ ?_); (try simp (maxSteps := 1000000) (disch := first | omega | (simp only [LN, numOk, verOk, rtP, beq_self_eq_true, rsP, liP, scanP, rhP, frP] <;> omega) | exact Ck.mk rfl) only [VC, T, Nat.reduceMul, Nat.reduceAdd, Nat.reduceSub, Nat.reduceLT, Nat.reduceEqDiff, Nat.reduceLeDiff, Nat.reduceBEq, reduceCtorEq, Int.reduceToNat, ↓reduceIte, rtP, beq_self_eq_true, rsP, liP, scanP, rhP, frP])))
  refine call_v (DrawTailOf code (code_bytes hc f)) rfl ?_
  rintro _ ⟨b, rfl, hb⟩
  refine ⟨⟨rfl⟩, ?_⟩
  unfold SzIn at hb
  have hE := scEnd_ok b
  have hx : (b.extract (scEnd b).toNat b.size).size = b.size - (scEnd b).toNat := by rw [ByteArray.size_extract]; omega
  have hwr : IntKind.i64.wrap (scEnd b + ((b.extract (scEnd b).toNat b.size).size : Int)) = b.size := by rw [wsmall _ (by omega) (by omega)]; omega
  have hz2 : (b.extract (scEnd b).toNat b.size).size = 0 ↔ (scan b).2.2.2.2.2.2.2.1 = b.size := by
    have : scEnd b = (scan b).2.2.2.2.2.2.2.1 := rfl
    rw [← this]; omega
  clear hx
  (try simp (maxSteps := 1000000) (disch := first | omega | (simp only [LN, numOk, verOk, rtP, beq_self_eq_true, rsP, liP, scanP, rhP, frP, hz, hs0, e1] <;> omega) | exact Ck.mk rfl) only [VC, T, Nat.reduceMul, Nat.reduceAdd, Nat.reduceSub, Nat.reduceLT, Nat.reduceEqDiff, Nat.reduceLeDiff, Nat.reduceBEq, reduceCtorEq, Int.reduceToNat, ↓reduceIte, rtP, beq_self_eq_true, rsP, liP, scanP, rhP, frP, hz, hs0, e1])
  repeat' (first
    | (refine br_go (fun e f => ?_) (fun e f => ?_) <;> (try simp only [BB] at f) <;> (try simp only [numOk, verOk] at f) <;> (try simp (maxSteps := 1000000) (disch := first | omega | (simp only [LN, numOk, verOk, rtP, beq_self_eq_true, rsP, liP, scanP, rhP, frP, hz, hs0, e1] <;> omega) | exact Ck.mk rfl) only [e, VC, T, Nat.reduceMul, Nat.reduceAdd, Nat.reduceSub, Nat.reduceLT, Nat.reduceEqDiff, Nat.reduceLeDiff, Nat.reduceBEq, reduceCtorEq, Int.reduceToNat, ↓reduceIte, rtP, beq_self_eq_true, rsP, liP, scanP, rhP, frP, hz, hs0, e1]) <;> (try clear e))
    | (refine pick_go (fun e f => ?_) (fun e f => ?_) <;> (try simp only [BB] at f) <;> (try simp only [numOk, verOk] at f) <;> (try simp (maxSteps := 1000000) (disch := first | omega | (simp only [LN, numOk, verOk, rtP, beq_self_eq_true, rsP, liP, scanP, rhP, frP, hz, hs0, e1] <;> omega) | exact Ck.mk rfl) only [e, VC, T, Nat.reduceMul, Nat.reduceAdd, Nat.reduceSub, Nat.reduceLT, Nat.reduceEqDiff, Nat.reduceLeDiff, Nat.reduceBEq, reduceCtorEq, Int.reduceToNat, ↓reduceIte, rtP, beq_self_eq_true, rsP, liP, scanP, rhP, frP, hz, hs0, e1]) <;> (try clear e))
    | ((first | refine call_x (impl_TailOf _ (by omega)) rfl ⟨rfl⟩ ?_ | refine call_x (spec_TailOf _ (by omega)) rfl ⟨rfl⟩ ?_ | refine call_x (spec_HeadText _ _ _ _) rfl ⟨rfl⟩ ?_ | refine call_x (spec_SizeScanned _ (by omega)) rfl ⟨rfl⟩ ?_ | refine call_x (impl_OpenOk _ (by omega)) rfl ⟨rfl⟩ ?_ | refine call_x (spec_OpenOk _ (by omega)) rfl ⟨rfl⟩ ?_ | refine call_x (spec_Scan _ (by omega)) rfl ⟨rfl⟩ ?_ | refine call_x (impl_OpenOk _ (by omega)) rfl ⟨rfl⟩ ?_ | refine call_x (impl_TailOf _ (by rw [ByteArray.size_append, hz]; decide)) rfl ⟨rfl⟩ ?_); (try simp (maxSteps := 1000000) (disch := first | omega | (simp only [LN, numOk, verOk, rtP, beq_self_eq_true, rsP, liP, scanP, rhP, frP, hz, hs0, e1] <;> omega) | exact Ck.mk rfl) only [VC, T, Nat.reduceMul, Nat.reduceAdd, Nat.reduceSub, Nat.reduceLT, Nat.reduceEqDiff, Nat.reduceLeDiff, Nat.reduceBEq, reduceCtorEq, Int.reduceToNat, ↓reduceIte, rtP, beq_self_eq_true, rsP, liP, scanP, rhP, frP, hz, hs0, e1])))
  · simp [e2]
  · have := hz2.1 (by assumption)
    rw [this] at f; simp at f
  · simp [e2]
  · have := mt hz2.2 (by assumption)
    rw [decide_eq_false this] at f; simp at f
theorem laws_sameScan (t : Sc) (h1 : t.2.2.2.2.2.1.length ≤ 1073741824) (h2 : t.2.2.2.2.2.2.1.length ≤ 1073741824) : Fn Try.prog 55 [scanP t, scanP t] [] (.bool true) [] := by
  obtain ⟨ok, v, s, base, l, rs, os, e, m⟩ := t
  simp only at h1 h2
  unfold scanP
  refine fn_x tok (n := 45) (rs := [.tmp 4]) Try.func55 (by decide) rfl rfl rfl rfl ?_
  (try simp (maxSteps := 1000000) (disch := first | omega | (simp only [LN, numOk, verOk, rtP, beq_self_eq_true, rsP, liP, scanP, rhP, frP] <;> omega) | exact Ck.mk rfl) only [VC, T, Nat.reduceMul, Nat.reduceAdd, Nat.reduceSub, Nat.reduceLT, Nat.reduceEqDiff, Nat.reduceLeDiff, Nat.reduceBEq, reduceCtorEq, Int.reduceToNat, ↓reduceIte, rtP, beq_self_eq_true, rsP, liP, scanP, rhP, frP])
  repeat' (first
    | (refine br_go (fun e f => ?_) (fun e f => ?_) <;> (try simp only [BB] at f) <;> (try simp only [numOk, verOk] at f) <;> (try simp (maxSteps := 1000000) (disch := first | omega | (simp only [LN, numOk, verOk, rtP, beq_self_eq_true, rsP, liP, scanP, rhP, frP] <;> omega) | exact Ck.mk rfl) only [e, VC, T, Nat.reduceMul, Nat.reduceAdd, Nat.reduceSub, Nat.reduceLT, Nat.reduceEqDiff, Nat.reduceLeDiff, Nat.reduceBEq, reduceCtorEq, Int.reduceToNat, ↓reduceIte, rtP, beq_self_eq_true, rsP, liP, scanP, rhP, frP]) <;> (try clear e))
    | (refine pick_go (fun e f => ?_) (fun e f => ?_) <;> (try simp only [BB] at f) <;> (try simp only [numOk, verOk] at f) <;> (try simp (maxSteps := 1000000) (disch := first | omega | (simp only [LN, numOk, verOk, rtP, beq_self_eq_true, rsP, liP, scanP, rhP, frP] <;> omega) | exact Ck.mk rfl) only [e, VC, T, Nat.reduceMul, Nat.reduceAdd, Nat.reduceSub, Nat.reduceLT, Nat.reduceEqDiff, Nat.reduceLeDiff, Nat.reduceBEq, reduceCtorEq, Int.reduceToNat, ↓reduceIte, rtP, beq_self_eq_true, rsP, liP, scanP, rhP, frP]) <;> (try clear e))
    | ((first | refine call_x (laws_sameStr _ _ (by omega)) rfl ⟨rfl⟩ ?_ | refine call_x (laws_sameInt _ _ (by omega)) rfl ⟨rfl⟩ ?_); (try simp (maxSteps := 1000000) (disch := first | omega | (simp only [LN, numOk, verOk, rtP, beq_self_eq_true, rsP, liP, scanP, rhP, frP] <;> omega) | exact Ck.mk rfl) only [VC, T, Nat.reduceMul, Nat.reduceAdd, Nat.reduceSub, Nat.reduceLT, Nat.reduceEqDiff, Nat.reduceLeDiff, Nat.reduceBEq, reduceCtorEq, Int.reduceToNat, ↓reduceIte, rtP, beq_self_eq_true, rsP, liP, scanP, rhP, frP])))
  simp at f
theorem law_FnScans (code : List Int) (hc : code.length ≤ 9223372036854775807 ∧ ∀ a ∈ code, (Lit.int .u8 a).wf = true) : Fn Try.prog 12 [.far (code.map (.int .u8))] [] (.bool true) [] := by
  have hk1 : headOk 1 1 0 0 := by decide
  have hz1 := headT_size 1 1 0 0 hk1
  have hr1 := rHead_mk 1 1 0 0 hk1 ⟨#[]⟩
  rw [show headT 1 1 0 0 ++ ⟨#[]⟩ = headT 1 1 0 0 from ByteArray.append_empty] at hr1
  refine fn_x tok (n := 131) (rs := [.tmp 2]) Try.func12 (by decide) rfl rfl rfl rfl ?_
  (try simp (maxSteps := 1000000) (disch := first | omega | (simp only [LN, numOk, verOk, rtP, beq_self_eq_true, rsP, liP, scanP, rhP, frP] <;> omega) | exact Ck.mk rfl) only [VC, T, Nat.reduceMul, Nat.reduceAdd, Nat.reduceSub, Nat.reduceLT, Nat.reduceEqDiff, Nat.reduceLeDiff, Nat.reduceBEq, reduceCtorEq, Int.reduceToNat, ↓reduceIte, rtP, beq_self_eq_true, rsP, liP, scanP, rhP, frP])
  repeat' (first
    | (refine br_go (fun e f => ?_) (fun e f => ?_) <;> (try simp only [BB] at f) <;> (try simp only [numOk, verOk] at f) <;> (try simp (maxSteps := 1000000) (disch := first | omega | (simp only [LN, numOk, verOk, rtP, beq_self_eq_true, rsP, liP, scanP, rhP, frP] <;> omega) | exact Ck.mk rfl) only [e, VC, T, Nat.reduceMul, Nat.reduceAdd, Nat.reduceSub, Nat.reduceLT, Nat.reduceEqDiff, Nat.reduceLeDiff, Nat.reduceBEq, reduceCtorEq, Int.reduceToNat, ↓reduceIte, rtP, beq_self_eq_true, rsP, liP, scanP, rhP, frP]) <;> (try clear e))
    | (refine pick_go (fun e f => ?_) (fun e f => ?_) <;> (try simp only [BB] at f) <;> (try simp only [numOk, verOk] at f) <;> (try simp (maxSteps := 1000000) (disch := first | omega | (simp only [LN, numOk, verOk, rtP, beq_self_eq_true, rsP, liP, scanP, rhP, frP] <;> omega) | exact Ck.mk rfl) only [e, VC, T, Nat.reduceMul, Nat.reduceAdd, Nat.reduceSub, Nat.reduceLT, Nat.reduceEqDiff, Nat.reduceLeDiff, Nat.reduceBEq, reduceCtorEq, Int.reduceToNat, ↓reduceIte, rtP, beq_self_eq_true, rsP, liP, scanP, rhP, frP]) <;> (try clear e))
    | ((first | refine call_x (laws_big _ hc.1) rfl ⟨rfl⟩ ?_); (try simp (maxSteps := 1000000) (disch := first | omega | (simp only [LN, numOk, verOk, rtP, beq_self_eq_true, rsP, liP, scanP, rhP, frP] <;> omega) | exact Ck.mk rfl) only [VC, T, Nat.reduceMul, Nat.reduceAdd, Nat.reduceSub, Nat.reduceLT, Nat.reduceEqDiff, Nat.reduceLeDiff, Nat.reduceBEq, reduceCtorEq, Int.reduceToNat, ↓reduceIte, rtP, beq_self_eq_true, rsP, liP, scanP, rhP, frP])))
  refine call_v (DrawScanText code (code_bytes hc f)) rfl ?_
  rintro _ ⟨b, rfl, hb⟩
  refine ⟨⟨rfl⟩, ?_⟩
  unfold SzIn at hb
  have hS := impl_Scan b (by omega)
  have hS2 := spec_Scan b (by omega)
  have hR := impl_RecordsIn b (by omega)
  have hR2 := spec_RecordsIn b (by omega)
  have hL := impl_LinkAfter b (by omega)
  have hZ := impl_SizeScanned b (by omega)
  have hG := fun p l => impl_GoesOn b p l (by omega)
  have hG1 := fun p l => impl_GoesOn (headT 1 1 0 0) p l (by omega)
  have hF := scan_f b
  have hT := scan_text b
  have hH := scan_head b
  unfold scEnd at hZ
  generalize scan b = t at *
  obtain ⟨ok, v, s, base, l, rs, os, e, m⟩ := t
  obtain ⟨f1, f2, f3, f4, f5, f6, f7, f8, f9⟩ := hF
  simp only at f1 f2 f3 f4 f5 f6 f7 f8 f9 hS hS2 hR hR2 hL hZ hT hH
  have hQ := laws_sameScan (ok, v, s, base, l, rs, os, e, m) (by simp only; omega) (by simp only; omega)
  have hW := laws_sameStr rs rs (by omega)
  simp only [decide_true] at hW
  cases ok
  · have := f2 rfl
    simp only [Prod.mk.injEq] at this
    obtain ⟨_, rfl, rfl, rfl, rfl, rfl, rfl, rfl, rfl⟩ := this
    (try simp (maxSteps := 1000000) (disch := first | omega | (simp only [LN, numOk, verOk, rtP, beq_self_eq_true, rsP, liP, scanP, rhP, frP, hr1] <;> omega) | exact Ck.mk rfl) only [VC, T, Nat.reduceMul, Nat.reduceAdd, Nat.reduceSub, Nat.reduceLT, Nat.reduceEqDiff, Nat.reduceLeDiff, Nat.reduceBEq, reduceCtorEq, Int.reduceToNat, ↓reduceIte, rtP, beq_self_eq_true, rsP, liP, scanP, rhP, frP, hr1])
    repeat' (first
      | (refine br_go (fun e f => ?_) (fun e f => ?_) <;> (try simp only [BB] at f) <;> (try simp only [numOk, verOk] at f) <;> (try simp (maxSteps := 1000000) (disch := first | omega | (simp only [LN, numOk, verOk, rtP, beq_self_eq_true, rsP, liP, scanP, rhP, frP, hr1] <;> omega) | exact Ck.mk rfl) only [e, VC, T, Nat.reduceMul, Nat.reduceAdd, Nat.reduceSub, Nat.reduceLT, Nat.reduceEqDiff, Nat.reduceLeDiff, Nat.reduceBEq, reduceCtorEq, Int.reduceToNat, ↓reduceIte, rtP, beq_self_eq_true, rsP, liP, scanP, rhP, frP, hr1]) <;> (try clear e))
      | (refine pick_go (fun e f => ?_) (fun e f => ?_) <;> (try simp only [BB] at f) <;> (try simp only [numOk, verOk] at f) <;> (try simp (maxSteps := 1000000) (disch := first | omega | (simp only [LN, numOk, verOk, rtP, beq_self_eq_true, rsP, liP, scanP, rhP, frP, hr1] <;> omega) | exact Ck.mk rfl) only [e, VC, T, Nat.reduceMul, Nat.reduceAdd, Nat.reduceSub, Nat.reduceLT, Nat.reduceEqDiff, Nat.reduceLeDiff, Nat.reduceBEq, reduceCtorEq, Int.reduceToNat, ↓reduceIte, rtP, beq_self_eq_true, rsP, liP, scanP, rhP, frP, hr1]) <;> (try clear e))
      | ((first | refine dr_go mixed (id := 5) [([], [4], []), ([], [3], []), ([1], [15], []), ([0, 1, 2], [14, 16], []), ([0, 1, 2, 3], [17], []), ([0, 1, 2, 3, 4], [18], []), ([0, 1, 2, 3, 4, 5], [3, 19], []), ([0, 1, 2, 3, 4, 5, 6], [19, 20], []), ([0, 1, 2, 3, 4, 5], [3, 19], []), ([0, 1, 2, 3, 4, 5, 6, 7, 8], [19, 22], []), ([0, 1, 2, 3, 4, 5, 6, 7, 8, 9], [19, 21, 23], []), ([0, 1, 2, 3, 4, 5, 6, 7, 8, 9, 10], [19, 24], []), ([0, 1, 2, 3, 4, 5, 6, 7, 8, 9, 10, 11], [19, 25], [])] rfl rfl rfl ?_ | refine call_x (hS) rfl ⟨rfl⟩ ?_ | refine call_x (hS2) rfl ⟨rfl⟩ ?_ | refine call_x (hQ) rfl ⟨rfl⟩ ?_ | refine call_x (hR) rfl ⟨rfl⟩ ?_ | refine call_x (hR2) rfl ⟨rfl⟩ ?_ | refine call_x (hW) rfl ⟨rfl⟩ ?_ | refine call_x (spec_HeadText _ _ _ _) rfl ⟨rfl⟩ ?_ | refine call_x (hG1 _ _) rfl ⟨rfl⟩ ?_); (try simp (maxSteps := 1000000) (disch := first | omega | (simp only [LN, numOk, verOk, rtP, beq_self_eq_true, rsP, liP, scanP, rhP, frP, hr1] <;> omega) | exact Ck.mk rfl) only [VC, T, Nat.reduceMul, Nat.reduceAdd, Nat.reduceSub, Nat.reduceLT, Nat.reduceEqDiff, Nat.reduceLeDiff, Nat.reduceBEq, reduceCtorEq, Int.reduceToNat, ↓reduceIte, rtP, beq_self_eq_true, rsP, liP, scanP, rhP, frP, hr1])))
    simp
  · have hT := hT rfl
    obtain ⟨g1, g2, g3, g4, g5⟩ := hH rfl
    have hk := (f1 rfl).1
    have ht24 := headT_size v s base l hk
    have hG2 : ∀ p q, Fn Try.prog 57 [.str b, .int .i64 p, .int .i64 q] [] (.bool (decide (base = p) && decide (l = q))) [] := fun p q => by
      have := hG p q
      rw [g1, ← g4, ← g5] at this
      simpa using this
    have hse : (b.extract 0 e.toNat).size = e.toNat := by rw [ByteArray.size_extract]; omega
    (try simp (maxSteps := 1000000) (disch := first | omega | (simp only [LN, numOk, verOk, rtP, beq_self_eq_true, rsP, liP, scanP, rhP, frP] <;> omega) | exact Ck.mk rfl) only [VC, T, Nat.reduceMul, Nat.reduceAdd, Nat.reduceSub, Nat.reduceLT, Nat.reduceEqDiff, Nat.reduceLeDiff, Nat.reduceBEq, reduceCtorEq, Int.reduceToNat, ↓reduceIte, rtP, beq_self_eq_true, rsP, liP, scanP, rhP, frP])
    repeat' (first
      | (refine br_go (fun e f => ?_) (fun e f => ?_) <;> (try simp only [BB] at f) <;> (try simp only [numOk, verOk] at f) <;> (try simp (maxSteps := 1000000) (disch := first | omega | (simp only [LN, numOk, verOk, rtP, beq_self_eq_true, rsP, liP, scanP, rhP, frP] <;> omega) | exact Ck.mk rfl) only [e, VC, T, Nat.reduceMul, Nat.reduceAdd, Nat.reduceSub, Nat.reduceLT, Nat.reduceEqDiff, Nat.reduceLeDiff, Nat.reduceBEq, reduceCtorEq, Int.reduceToNat, ↓reduceIte, rtP, beq_self_eq_true, rsP, liP, scanP, rhP, frP]) <;> (try clear e))
      | (refine pick_go (fun e f => ?_) (fun e f => ?_) <;> (try simp only [BB] at f) <;> (try simp only [numOk, verOk] at f) <;> (try simp (maxSteps := 1000000) (disch := first | omega | (simp only [LN, numOk, verOk, rtP, beq_self_eq_true, rsP, liP, scanP, rhP, frP] <;> omega) | exact Ck.mk rfl) only [e, VC, T, Nat.reduceMul, Nat.reduceAdd, Nat.reduceSub, Nat.reduceLT, Nat.reduceEqDiff, Nat.reduceLeDiff, Nat.reduceBEq, reduceCtorEq, Int.reduceToNat, ↓reduceIte, rtP, beq_self_eq_true, rsP, liP, scanP, rhP, frP]) <;> (try clear e))
      | ((first | refine dr_go mixed (id := 5) [([], [4], []), ([], [3], []), ([1], [15], []), ([0, 1, 2], [14, 16], []), ([0, 1, 2, 3], [17], []), ([0, 1, 2, 3, 4], [18], []), ([0, 1, 2, 3, 4, 5], [3, 19], []), ([0, 1, 2, 3, 4, 5, 6], [19, 20], []), ([0, 1, 2, 3, 4, 5], [3, 19], []), ([0, 1, 2, 3, 4, 5, 6, 7, 8], [19, 22], []), ([0, 1, 2, 3, 4, 5, 6, 7, 8, 9], [19, 21, 23], []), ([0, 1, 2, 3, 4, 5, 6, 7, 8, 9, 10], [19, 24], []), ([0, 1, 2, 3, 4, 5, 6, 7, 8, 9, 10, 11], [19, 25], [])] rfl rfl rfl ?_ | refine call_x (hS) rfl ⟨rfl⟩ ?_ | refine call_x (hS2) rfl ⟨rfl⟩ ?_ | refine call_x (hQ) rfl ⟨rfl⟩ ?_ | refine call_x (hR) rfl ⟨rfl⟩ ?_ | refine call_x (hR2) rfl ⟨rfl⟩ ?_ | refine call_x (hW) rfl ⟨rfl⟩ ?_ | refine call_x (spec_HeadText _ _ _ _) rfl ⟨rfl⟩ ?_); (try simp (maxSteps := 1000000) (disch := first | omega | (simp only [LN, numOk, verOk, rtP, beq_self_eq_true, rsP, liP, scanP, rhP, frP] <;> omega) | exact Ck.mk rfl) only [VC, T, Nat.reduceMul, Nat.reduceAdd, Nat.reduceSub, Nat.reduceLT, Nat.reduceEqDiff, Nat.reduceLeDiff, Nat.reduceBEq, reduceCtorEq, Int.reduceToNat, ↓reduceIte, rtP, beq_self_eq_true, rsP, liP, scanP, rhP, frP])))
    refine lp_go (fun x : Nat × ByteArray => ⟨131, [(3, .str b), (4, .ref 320 0), (5, .str x.2), (6, .int .i64 (linkAll l (rs.take x.1))), (7, .int .i64 x.1)], [(320, .box 47 [.bool true, .int .i64 v, .int .i64 s, .int .i64 base, .int .i64 l, .far (rs.map .str), .far (os.map (.int .i64)), .int .i64 e, .bool m])]⟩) (fun x => x.1 ≤ rs.length ∧ frGo v base x.2 (os.take x.1) (rs.drop x.1) = (b.extract 0 e.toNat, os)) (fun x => rs.length - x.1) (0, headT v s base l) ?_ ⟨Nat.zero_le _, hT⟩ ?_
    · (simp (disch := first | omega | (simp only [LN, numOk, verOk] <;> omega) | exact Ck.mk rfl) only [SB, EQ, Nat.reduceMul, Nat.reduceAdd, Nat.reduceSub, Nat.reduceLT, Nat.reduceEqDiff, Nat.reduceLeDiff, Nat.reduceBEq, reduceCtorEq, Int.reduceToNat, ↓reduceIte]; try omega)
      rfl
    · rintro ⟨i, t⟩ ⟨h1, h2⟩ N hN
      simp only at h1 h2
      have hst : i < rs.length → os.getD i default = t.size ∧ os.take i ++ [(t.size : Int)] = os.take (i + 1) ∧ frGo v base (t ++ frameT v (base + i) (rs.getD i default)) (os.take (i + 1)) (rs.drop (i + 1)) = (b.extract 0 e.toNat, os) := fun h => by
        rw [List.drop_eq_getElem_cons h] at h2
        have h3 : frGo v base (t ++ frameT v (base + (os.take i).length) rs[i]) (os.take i ++ [(t.size : Int)]) (rs.drop (i + 1)) = (b.extract 0 e.toNat, os) := h2
        have hl : (os.take i).length = i := by rw [List.length_take]; omega
        obtain ⟨z, o, h4, h5⟩ := frGo_pre v base (rs.drop (i + 1)) (t ++ frameT v (base + (os.take i).length) rs[i]) (os.take i ++ [(t.size : Int)])
        rw [h3] at h5
        simp only at h5
        have h6 : os[i]? = some (t.size : Int) := by rw [h5, List.append_assoc, List.getElem?_append_right (by omega), hl, Nat.sub_self]; rfl
        have h7 : os.take i ++ [(t.size : Int)] = os.take (i + 1) := by
          have := List.take_add_one (l := os) (i := i)
          rw [this, h6]; rfl
        refine ⟨by rw [List.getD_eq_getElem?_getD, h6]; rfl, h7, ?_⟩
        rw [h7, hl] at h3
        rw [List.getD_eq_getElem?_getD, List.getElem?_eq_getElem h]
        exact h3
      have hso : i < rs.length → os.getD i default = t.size := fun h => (hst h).1
      have hts : t.size ≤ b.size := by
        obtain ⟨z, o, h4, h5⟩ := frGo_pre v base (rs.drop i) t (os.take i)
        rw [h2] at h4
        have := congrArg ByteArray.size h4
        rw [ByteArray.size_append] at this
        simp only at this
        omega
      have hf := frameT_le v (base + i) (rs.getD i default)
      have hrs : i < rs.length → (rs.getD i default).size ≤ 60 := fun h => f6 _ (getD_mem _ _ h)
      have hla := linkAll_snoc l rs i
      have hend : rs.length ≤ i → t = b.extract 0 e.toNat ∧ os.take i = os := fun h => by
        rw [List.drop_eq_nil_of_le h] at h2
        exact ⟨congrArg Prod.fst h2, congrArg Prod.snd h2⟩
      by_cases hi : i < rs.length
      · (try simp (maxSteps := 1000000) (disch := first | omega | (simp only [LN, numOk, verOk, rtP, beq_self_eq_true, rsP, liP, scanP, rhP, frP, hso, hla] <;> omega) | exact Ck.mk rfl) only [VC, T, Nat.reduceMul, Nat.reduceAdd, Nat.reduceSub, Nat.reduceLT, Nat.reduceEqDiff, Nat.reduceLeDiff, Nat.reduceBEq, reduceCtorEq, Int.reduceToNat, ↓reduceIte, rtP, beq_self_eq_true, rsP, liP, scanP, rhP, frP, hso, hla])
        repeat' (first
          | (refine br_go (fun e f => ?_) (fun e f => ?_) <;> (try simp only [BB] at f) <;> (try simp only [numOk, verOk] at f) <;> (try simp (maxSteps := 1000000) (disch := first | omega | (simp only [LN, numOk, verOk, rtP, beq_self_eq_true, rsP, liP, scanP, rhP, frP, hso, hla] <;> omega) | exact Ck.mk rfl) only [e, VC, T, Nat.reduceMul, Nat.reduceAdd, Nat.reduceSub, Nat.reduceLT, Nat.reduceEqDiff, Nat.reduceLeDiff, Nat.reduceBEq, reduceCtorEq, Int.reduceToNat, ↓reduceIte, rtP, beq_self_eq_true, rsP, liP, scanP, rhP, frP, hso, hla]) <;> (try clear e))
          | (refine pick_go (fun e f => ?_) (fun e f => ?_) <;> (try simp only [BB] at f) <;> (try simp only [numOk, verOk] at f) <;> (try simp (maxSteps := 1000000) (disch := first | omega | (simp only [LN, numOk, verOk, rtP, beq_self_eq_true, rsP, liP, scanP, rhP, frP, hso, hla] <;> omega) | exact Ck.mk rfl) only [e, VC, T, Nat.reduceMul, Nat.reduceAdd, Nat.reduceSub, Nat.reduceLT, Nat.reduceEqDiff, Nat.reduceLeDiff, Nat.reduceBEq, reduceCtorEq, Int.reduceToNat, ↓reduceIte, rtP, beq_self_eq_true, rsP, liP, scanP, rhP, frP, hso, hla]) <;> (try clear e))
          | ((first | refine dr_go mixed (id := 16) [([], [5], []), ([], [4], []), ([1], [61], []), ([1, 2], [62], []), ([], [4], []), ([4], [64], []), ([4, 5], [65], []), ([], [7], []), ([4, 5, 6, 7], [66, 67], []), ([], [4], []), ([9], [69], []), ([], [7], []), ([9, 10, 11], [70, 71], []), ([9, 10, 11, 12], [72], []), ([1, 2, 3, 4, 5, 6, 7, 8, 9, 10, 11, 12, 13], [63, 68, 73], []), ([0, 1, 2, 3, 4, 5, 6, 7, 8, 9, 10, 11, 12, 13, 14], [60, 74], []), ([0, 1, 2, 3, 4, 5, 6, 7, 8, 9, 10, 11, 12, 13, 14, 15], [75], [])] rfl rfl rfl ?_ | refine call_x (spec_FrameText _ _ _ (by have := hrs (by omega); omega)) rfl ⟨rfl⟩ ?_ | refine call_x (spec_LinkMore _ _ (by have := hrs (by omega); omega)) rfl ⟨rfl⟩ ?_); (try simp (maxSteps := 1000000) (disch := first | omega | (simp only [LN, numOk, verOk, rtP, beq_self_eq_true, rsP, liP, scanP, rhP, frP, hso, hla] <;> omega) | exact Ck.mk rfl) only [VC, T, Nat.reduceMul, Nat.reduceAdd, Nat.reduceSub, Nat.reduceLT, Nat.reduceEqDiff, Nat.reduceLeDiff, Nat.reduceBEq, reduceCtorEq, Int.reduceToNat, ↓reduceIte, rtP, beq_self_eq_true, rsP, liP, scanP, rhP, frP, hso, hla])))
        · refine hN (i + 1, t ++ frameT v (base + i) (rs.getD i default)) _ ⟨by simp only; omega, (hst hi).2.2⟩ (by simp only; omega) ?_
          (simp (disch := first | omega | (simp only [LN, numOk, verOk] <;> omega) | exact Ck.mk rfl) only [SB, EQ, Nat.reduceMul, Nat.reduceAdd, Nat.reduceSub, Nat.reduceLT, Nat.reduceEqDiff, Nat.reduceLeDiff, Nat.reduceBEq, reduceCtorEq, Int.reduceToNat, ↓reduceIte]; try omega)
        all_goals simp only [hso hi, not_true, decide_true, decide_false, Bool.not_true, Bool.false_eq_true] at f
      · obtain rfl : i = rs.length := by omega
        obtain ⟨rfl, -⟩ := hend (Nat.le_refl _)
        rw [List.take_length]
        (try simp (maxSteps := 1000000) (disch := first | omega | (simp only [LN, numOk, verOk, rtP, beq_self_eq_true, rsP, liP, scanP, rhP, frP, hse] <;> omega) | exact Ck.mk rfl) only [VC, T, Nat.reduceMul, Nat.reduceAdd, Nat.reduceSub, Nat.reduceLT, Nat.reduceEqDiff, Nat.reduceLeDiff, Nat.reduceBEq, reduceCtorEq, Int.reduceToNat, ↓reduceIte, rtP, beq_self_eq_true, rsP, liP, scanP, rhP, frP, hse])
        repeat' (first
          | (refine br_go (fun e f => ?_) (fun e f => ?_) <;> (try simp only [BB] at f) <;> (try simp only [numOk, verOk] at f) <;> (try simp (maxSteps := 1000000) (disch := first | omega | (simp only [LN, numOk, verOk, rtP, beq_self_eq_true, rsP, liP, scanP, rhP, frP, hse] <;> omega) | exact Ck.mk rfl) only [e, VC, T, Nat.reduceMul, Nat.reduceAdd, Nat.reduceSub, Nat.reduceLT, Nat.reduceEqDiff, Nat.reduceLeDiff, Nat.reduceBEq, reduceCtorEq, Int.reduceToNat, ↓reduceIte, rtP, beq_self_eq_true, rsP, liP, scanP, rhP, frP, hse]) <;> (try clear e))
          | (refine pick_go (fun e f => ?_) (fun e f => ?_) <;> (try simp only [BB] at f) <;> (try simp only [numOk, verOk] at f) <;> (try simp (maxSteps := 1000000) (disch := first | omega | (simp only [LN, numOk, verOk, rtP, beq_self_eq_true, rsP, liP, scanP, rhP, frP, hse] <;> omega) | exact Ck.mk rfl) only [e, VC, T, Nat.reduceMul, Nat.reduceAdd, Nat.reduceSub, Nat.reduceLT, Nat.reduceEqDiff, Nat.reduceLeDiff, Nat.reduceBEq, reduceCtorEq, Int.reduceToNat, ↓reduceIte, rtP, beq_self_eq_true, rsP, liP, scanP, rhP, frP, hse]) <;> (try clear e))
          | ((first | refine call_x (hL) rfl ⟨rfl⟩ ?_ | refine call_x (hZ) rfl ⟨rfl⟩ ?_ | refine call_x (hG2 _ _) rfl ⟨rfl⟩ ?_); (try simp (maxSteps := 1000000) (disch := first | omega | (simp only [LN, numOk, verOk, rtP, beq_self_eq_true, rsP, liP, scanP, rhP, frP, hse] <;> omega) | exact Ck.mk rfl) only [VC, T, Nat.reduceMul, Nat.reduceAdd, Nat.reduceSub, Nat.reduceLT, Nat.reduceEqDiff, Nat.reduceLeDiff, Nat.reduceBEq, reduceCtorEq, Int.reduceToNat, ↓reduceIte, rtP, beq_self_eq_true, rsP, liP, scanP, rhP, frP, hse])))
        · have : ¬ base = base + 1 := by omega
          simp [this]
        all_goals simp at f
end Go.Pv

/- What functions of the program and of the reference do, in plain values. -/
namespace Go.Pv
open Go.Proofs Go.Mth
set_option linter.unusedSimpArgs false
set_option linter.unusedVariables false
set_option maxHeartbeats 4000000

/-! ### the law of what stands at the end -/
theorem fixL_le : ∀ (l : List Int), (∀ x ∈ l, 0 ≤ x ∧ x ≤ 255) → fixL l.length (le l) = l
  | [], _ => rfl
  | x :: l, h => by
    have h1 := h x List.mem_cons_self
    have ih := fixL_le l fun y hy => h y (List.mem_cons_of_mem _ hy)
    rw [List.length_cons]
    simp only [fixL, le]
    rw [show (x + 256 * le l) % 256 = x by omega, show (x + 256 * le l) / 256 = le l by omega, ih]
theorem rfix_back (b : ByteArray) (a : Nat) (h : a + 4 ≤ b.size) : fixT (rfix b a 4).1 4 = b.extract a (a + 4) ∧ 0 ≤ (rfix b a 4).1 ∧ (rfix b a 4).1 < 4294967296 := by
  have hl := seg_length b a 4 h
  have hr := le_range (seg b a 4) (seg_range _ _ _)
  rw [hl] at hr
  have hr' : le (seg b a 4) < 4294967296 := hr.2
  have e : (rfix b a 4).1 = le (seg b a 4) := by
    unfold rfix
    rw [if_pos (by omega)]
    simp only [Int.toNat_natCast, Int.reduceToNat]
    rw [if_pos (by omega)]
  rw [e]
  refine ⟨?_, hr.1, hr'⟩
  apply bytesOf_inj
  rw [bytesOf_fixT _ 4 hr.1 (by decide) (by decide) hr.2, extract_seg]
  have := fixL_le (seg b a 4) (seg_range _ _ _)
  rw [hl] at this
  exact this
theorem extract_cat (b : ByteArray) (i j k : Nat) (h : i ≤ j) (h2 : j ≤ k) : b.extract i j ++ b.extract j k = b.extract i k := by
  apply bytesOf_inj
  rw [bytesOf_append, bytesOf_extract, bytesOf_extract, bytesOf_extract]
  have h3 : (bytesOf b).take k = (bytesOf b).take j ++ ((bytesOf b).take k).drop j := by
    have := (List.take_append_drop j ((bytesOf b).take k)).symm
    rw [List.take_take, Nat.min_eq_left h2] at this
    exact this
  conv => rhs; rw [h3]
  by_cases h4 : i ≤ (bytesOf b).length
  · rw [List.drop_append_of_le_length (by rw [List.length_take]; omega)]
  · rw [List.drop_eq_nil_of_le (by rw [List.length_take]; omega), List.drop_eq_nil_of_le (i := i) (by rw [List.length_append, List.length_take, List.length_drop, List.length_take]; omega), List.drop_eq_nil_of_le (by rw [List.length_take]; omega)]
    rfl
def tTrail (t : Int × Int × Int × Int × Bool) : ByteArray := trailT t.1 t.2.1 t.2.2.1 t.2.2.2.1
theorem trailer_back (b : ByteArray) (h : (rTrailer b).2.2.2.2 = true) : 20 ≤ b.size ∧ tTrail (rTrailer b) = b.extract (b.size - 20) b.size := by
  unfold rTrailer at h ⊢
  split at h
  · rename_i hc
    rw [if_pos hc]
    obtain ⟨h1, h2⟩ := hc
    have p1 := rfix_back b (b.size - 20) (by omega)
    have p2 := rfix_back b (b.size - 16) (by omega)
    have p3 := rfix_back b (b.size - 12) (by omega)
    have p4 := rfix_back b (b.size - 8) (by omega)
    rw [show ((b.size - 20 : Nat) : Int) = (b.size : Int) - 20 by omega, show b.size - 20 + 4 = b.size - 16 by omega] at p1
    rw [show ((b.size - 16 : Nat) : Int) = (b.size : Int) - 16 by omega, show b.size - 16 + 4 = b.size - 12 by omega] at p2
    rw [show ((b.size - 12 : Nat) : Int) = (b.size : Int) - 12 by omega, show b.size - 12 + 4 = b.size - 8 by omega] at p3
    rw [show ((b.size - 8 : Nat) : Int) = (b.size : Int) - 8 by omega, show b.size - 8 + 4 = b.size - 4 by omega] at p4
    refine ⟨h1, ?_⟩
    unfold tTrail
    simp only
    rw [(trailT_pos _ _ _ _ p1.2 p2.2 p3.2 p4.2).1, p1.1, p2.1, p3.1, p4.1, ← h2]
    rw [extract_cat _ _ _ _ (by omega) (by omega), extract_cat _ _ _ _ (by omega) (by omega), extract_cat _ _ _ _ (by omega) (by omega), extract_cat _ _ _ _ (by omega) (by omega)]
  · cases h
theorem rTrailer_lt (b : ByteArray) : ∀ x ∈ [(rTrailer b).1, (rTrailer b).2.1, (rTrailer b).2.2.1, (rTrailer b).2.2.2.1], 0 ≤ x ∧ x < 9223372036854775808 := by
  unfold rTrailer
  split
  · intro x hx
    simp only [List.mem_cons, List.not_mem_nil, or_false] at hx
    rcases hx with rfl | rfl | rfl | rfl <;> exact rfix_range _ _ _
  · simp
theorem trailer_mk (x : ByteArray) (a b c d : Int) (ha : 0 ≤ a ∧ a < 4294967296) (hb : 0 ≤ b ∧ b < 4294967296) (hc : 0 ≤ c ∧ c < 4294967296) (hd : 0 ≤ d ∧ d < 4294967296) : rTrailer (x ++ trailT a b c d) = (a, b, c, d, true) := by
  obtain ⟨e, hz⟩ := trailT_pos a b c d ha hb hc hd
  have s1 := fixT4_size a ha.1 ha.2
  have s2 := fixT4_size b hb.1 hb.2
  have s3 := fixT4_size c hc.1 hc.2
  have s4 := fixT4_size d hd.1 hd.2
  have hs : (x ++ trailT a b c d).size = x.size + 20 := by rw [ByteArray.size_append, hz]
  have m (y t z : ByteArray) (n : Int) (h : 0 ≤ n ∧ n < 4294967296) (ht : t = fixT n 4) (k : Int) (hk : k = y.size) (hw : x ++ trailT a b c d = y ++ t ++ z) : (rfix (x ++ trailT a b c d) k 4).1 = n := by
    rw [hw, hk, rfix_mid y t z n 4 h.1 (by decide) (by decide) (by show n < 4294967296; omega) (by omega) ht]
  have e1 := m x (fixT a 4) (fixT b 4 ++ fixT c 4 ++ fixT d 4 ++ ⟨#[73, 68, 88, 33]⟩) a ha rfl (((x ++ trailT a b c d).size : Int) - 20) (by omega) (by rw [e]; simp only [ByteArray.append_assoc])
  have e2 := m (x ++ fixT a 4) (fixT b 4) (fixT c 4 ++ fixT d 4 ++ ⟨#[73, 68, 88, 33]⟩) b hb rfl (((x ++ trailT a b c d).size : Int) - 16) (by simp only [ByteArray.size_append] at *; omega) (by rw [e]; simp only [ByteArray.append_assoc])
  have e3 := m (x ++ fixT a 4 ++ fixT b 4) (fixT c 4) (fixT d 4 ++ ⟨#[73, 68, 88, 33]⟩) c hc rfl (((x ++ trailT a b c d).size : Int) - 12) (by simp only [ByteArray.size_append] at *; omega) (by rw [e]; simp only [ByteArray.append_assoc])
  have e4 := m (x ++ fixT a 4 ++ fixT b 4 ++ fixT c 4) (fixT d 4) ⟨#[73, 68, 88, 33]⟩ d hd rfl (((x ++ trailT a b c d).size : Int) - 8) (by simp only [ByteArray.size_append] at *; omega) (by rw [e]; simp only [ByteArray.append_assoc])
  have hk : (x ++ trailT a b c d).extract ((x ++ trailT a b c d).size - 4) (x ++ trailT a b c d).size = ⟨#[73, 68, 88, 33]⟩ := by
    have e5 : x ++ trailT a b c d = (x ++ fixT a 4 ++ fixT b 4 ++ fixT c 4 ++ fixT d 4) ++ ⟨#[73, 68, 88, 33]⟩ := by rw [e]; simp only [ByteArray.append_assoc]
    apply bytesOf_inj
    rw [bytesOf_extract, hs]
    conv => lhs; rw [e5]
    rw [bytesOf_append, List.take_of_length_le (by rw [← bytesOf_append, ← e5, bytesOf_length, hs]; omega), List.drop_left' (by rw [bytesOf_length]; simp only [ByteArray.size_append]; omega)]
  unfold rTrailer
  rw [if_pos ⟨by omega, hk⟩, e1, e2, e3, e4]
theorem foot_back (v s b l : Int) (os : List Int) (e : Int) (h : ¬ (footT v s b l os e).size = 0) : 20 ≤ (footT v s b l os e).size ∧ rTrailer (footT v s b l os e) = (e, (os.length : Int), s, sumOf ((footT v s b l os e).extract 0 ((footT v s b l os e).size - 8)), true) := by
  unfold footT at h ⊢
  split at h
  · rename_i hk
    rw [if_pos hk]
    split at h
    · exact absurd rfl h
    · rename_i hn
      rw [if_neg hn]
      have hn3 : (trailT e os.length s 0).size ≠ 0 := fun h => hn (Or.inr (Or.inr h))
      obtain ⟨h1, h2, h3, h4, h5⟩ := trailT_size e os.length s 0 hn3
      have k1 := fixT4_full e h1
      have k2 := fixT4_full (os.length : Int) h2
      have k3 := fixT4_full s h3
      generalize endMark v (b + os.length) ++ placesT (placesP s os) = x
      have hx : (trailT e os.length s 0).extract 0 12 = fixT e 4 ++ fixT os.length 4 ++ fixT s 4 := by
        apply bytesOf_inj
        have hl : (bytesOf (fixT e 4 ++ fixT os.length 4 ++ fixT s 4)).length = 12 := by rw [bytesOf_length]; simp only [ByteArray.size_append]; omega
        rw [h5, bytesOf_extract, bytesOf_append, bytesOf_append, List.append_assoc, List.take_left' hl]
        rfl
      rw [hx]
      generalize hq : sumOf (x ++ (fixT e 4 ++ fixT os.length 4 ++ fixT s 4)) = q
      have hq2 : 0 ≤ q ∧ q < 4294967296 := by rw [← hq]; exact sumMore_range 0 _
      obtain ⟨t1, t2⟩ := trailT_pos e os.length s q k1.2 k2.2 k3.2 hq2
      have hs : (x ++ trailT e os.length s q).size = x.size + 20 := by rw [ByteArray.size_append, t2]
      refine ⟨by omega, ?_⟩
      have hc : (x ++ trailT e os.length s q).extract 0 ((x ++ trailT e os.length s q).size - 8) = x ++ (fixT e 4 ++ fixT os.length 4 ++ fixT s 4) := by
        have e5 : x ++ trailT e os.length s q = (x ++ (fixT e 4 ++ fixT os.length 4 ++ fixT s 4)) ++ (fixT q 4 ++ ⟨#[73, 68, 88, 33]⟩) := by rw [t1]; simp only [ByteArray.append_assoc]
        have hl : (bytesOf (x ++ (fixT e 4 ++ fixT os.length 4 ++ fixT s 4))).length = x.size + 20 - 8 := by rw [bytesOf_length]; simp only [ByteArray.size_append]; omega
        apply bytesOf_inj
        rw [hs, e5, bytesOf_extract, bytesOf_append, List.take_left' hl]
        rfl
      rw [hc, hq]
      exact trailer_mk x e os.length s q k1.2 k2.2 k3.2 hq2
  · exact absurd rfl h
set_option maxRecDepth 20000 in
theorem law_FnTrailers (code : List Int) (hc : code.length ≤ 9223372036854775807 ∧ ∀ a ∈ code, (Lit.int .u8 a).wf = true) : Fn Try.prog 6 [.far (code.map (.int .u8))] [] (.bool true) [] := by
  have ht := (trailT_pos 1 2 3 4 (by decide) (by decide) (by decide) (by decide)).2
  refine fn_x tok (n := 144) (rs := [.tmp 2]) Try.func6 (by decide) rfl rfl rfl rfl ?_
  (try simp (maxSteps := 1000000) (disch := first | omega | (simp only [LN, numOk, verOk, rtP, beq_self_eq_true] <;> omega) | exact Ck.mk rfl) only [VC, T, Nat.reduceMul, Nat.reduceAdd, Nat.reduceSub, Nat.reduceLT, Nat.reduceEqDiff, Nat.reduceLeDiff, Nat.reduceBEq, reduceCtorEq, Int.reduceToNat, ↓reduceIte, rtP, beq_self_eq_true])
  repeat' (first
    | (refine br_go (fun e f => ?_) (fun e f => ?_) <;> (try simp only [BB] at f) <;> (try simp only [numOk, verOk] at f) <;> (try simp (maxSteps := 1000000) (disch := first | omega | (simp only [LN, numOk, verOk, rtP, beq_self_eq_true] <;> omega) | exact Ck.mk rfl) only [e, VC, T, Nat.reduceMul, Nat.reduceAdd, Nat.reduceSub, Nat.reduceLT, Nat.reduceEqDiff, Nat.reduceLeDiff, Nat.reduceBEq, reduceCtorEq, Int.reduceToNat, ↓reduceIte, rtP, beq_self_eq_true]) <;> (try clear e))
    | (refine pick_go (fun e f => ?_) (fun e f => ?_) <;> (try simp only [BB] at f) <;> (try simp only [numOk, verOk] at f) <;> (try simp (maxSteps := 1000000) (disch := first | omega | (simp only [LN, numOk, verOk, rtP, beq_self_eq_true] <;> omega) | exact Ck.mk rfl) only [e, VC, T, Nat.reduceMul, Nat.reduceAdd, Nat.reduceSub, Nat.reduceLT, Nat.reduceEqDiff, Nat.reduceLeDiff, Nat.reduceBEq, reduceCtorEq, Int.reduceToNat, ↓reduceIte, rtP, beq_self_eq_true]) <;> (try clear e))
    | ((first | refine call_x (laws_big _ hc.1) rfl ⟨rfl⟩ ?_); (try simp (maxSteps := 1000000) (disch := first | omega | (simp only [LN, numOk, verOk, rtP, beq_self_eq_true] <;> omega) | exact Ck.mk rfl) only [VC, T, Nat.reduceMul, Nat.reduceAdd, Nat.reduceSub, Nat.reduceLT, Nat.reduceEqDiff, Nat.reduceLeDiff, Nat.reduceBEq, reduceCtorEq, Int.reduceToNat, ↓reduceIte, rtP, beq_self_eq_true])))
  refine call_v (DrawReadTrailer code (code_bytes hc f)) rfl ?_
  rintro _ ⟨b, rfl, hb⟩
  refine ⟨⟨rfl⟩, ?_⟩
  unfold SzIn at hb
  have hR := impl_ReadTrailer b (by omega)
  have hR2 := spec_ReadTrailer b (by omega)
  have hB := trailer_back b
  have hl := rTrailer_lt b
  generalize rTrailer b = t at *
  obtain ⟨a1, a2, a3, a4, ok⟩ := t
  simp only [tTrail] at hB hl
  have hT : Fn Try.prog 31 [.int .i64 a1, .int .i64 a2, .int .i64 a3, .int .i64 a4] [] (.str (trailT a1 a2 a3 a4)) [] := impl_TrailerText _ _ _ _ (fun x hx => (hl x hx).2)
  have hT1 := impl_TrailerText 1 2 3 4 (by decide)
  cases ok with
  | true =>
    obtain ⟨h20, hB⟩ := hB rfl
    rw [show b.size - 20 = ((b.size : Int) - 20).toNat by omega] at hB
    have h0 : 0 ≤ (b.size : Int) - 20 := by omega
    (try simp (maxSteps := 1000000) (disch := first | omega | (simp only [LN, numOk, verOk, rtP, beq_self_eq_true, hB, h0] <;> omega) | exact Ck.mk rfl) only [VC, T, Nat.reduceMul, Nat.reduceAdd, Nat.reduceSub, Nat.reduceLT, Nat.reduceEqDiff, Nat.reduceLeDiff, Nat.reduceBEq, reduceCtorEq, Int.reduceToNat, ↓reduceIte, rtP, beq_self_eq_true, hB, h0])
    repeat' (first
      | (refine br_go (fun e f => ?_) (fun e f => ?_) <;> (try simp only [BB] at f) <;> (try simp only [numOk, verOk] at f) <;> (try simp (maxSteps := 1000000) (disch := first | omega | (simp only [LN, numOk, verOk, rtP, beq_self_eq_true, hB, h0] <;> omega) | exact Ck.mk rfl) only [e, VC, T, Nat.reduceMul, Nat.reduceAdd, Nat.reduceSub, Nat.reduceLT, Nat.reduceEqDiff, Nat.reduceLeDiff, Nat.reduceBEq, reduceCtorEq, Int.reduceToNat, ↓reduceIte, rtP, beq_self_eq_true, hB, h0]) <;> (try clear e))
      | (refine pick_go (fun e f => ?_) (fun e f => ?_) <;> (try simp only [BB] at f) <;> (try simp only [numOk, verOk] at f) <;> (try simp (maxSteps := 1000000) (disch := first | omega | (simp only [LN, numOk, verOk, rtP, beq_self_eq_true, hB, h0] <;> omega) | exact Ck.mk rfl) only [e, VC, T, Nat.reduceMul, Nat.reduceAdd, Nat.reduceSub, Nat.reduceLT, Nat.reduceEqDiff, Nat.reduceLeDiff, Nat.reduceBEq, reduceCtorEq, Int.reduceToNat, ↓reduceIte, rtP, beq_self_eq_true, hB, h0]) <;> (try clear e))
      | ((first | refine dr_go mixed (id := 6) [([], [8], []), ([], [13], []), ([0, 1], [43, 44], []), ([0, 1, 2], [45], []), ([0, 1, 2, 3], [4, 46], []), ([0, 1, 2, 3], [9, 46], []), ([0, 1, 2, 3, 4, 5], [46, 47, 48], []), ([0, 1, 2, 3, 4, 5, 6], [46, 49], []), ([0, 1, 2, 3, 4, 5, 6, 7], [50], []), ([0, 1, 2, 3, 4, 5, 6, 7, 8], [5, 51], []), ([0, 1, 2, 3, 4, 5, 6, 7, 8], [10, 51], []), ([0, 1, 2, 3, 4, 5, 6, 7, 8, 9, 10], [51, 52, 53], []), ([0, 1, 2, 3, 4, 5, 6, 7, 8, 9, 10, 11], [51, 54], []), ([0, 1, 2, 3, 4, 5, 6, 7, 8, 9, 10, 11, 12], [55], []), ([0, 1, 2, 3, 4, 5, 6, 7, 8, 9, 10, 11, 12, 13], [6, 56], []), ([0, 1, 2, 3, 4, 5, 6, 7, 8, 9, 10, 11, 12, 13], [11, 56], []), ([0, 1, 2, 3, 4, 5, 6, 7, 8, 9, 10, 11, 12, 13, 14, 15], [56, 57, 58], []), ([0, 1, 2, 3, 4, 5, 6, 7, 8, 9, 10, 11, 12, 13, 14, 15, 16], [56, 59], []), ([0, 1, 2, 3, 4, 5, 6, 7, 8, 9, 10, 11, 12, 13, 14, 15, 16, 17], [60], []), ([0, 1, 2, 3, 4, 5, 6, 7, 8, 9, 10, 11, 12, 13, 14, 15, 16, 17, 18], [7, 61], []), ([0, 1, 2, 3, 4, 5, 6, 7, 8, 9, 10, 11, 12, 13, 14, 15, 16, 17, 18], [12, 61], []), ([0, 1, 2, 3, 4, 5, 6, 7, 8, 9, 10, 11, 12, 13, 14, 15, 16, 17, 18, 19, 20], [61, 62, 63], []), ([0, 1, 2, 3, 4, 5, 6, 7, 8, 9, 10, 11, 12, 13, 14, 15, 16, 17, 18, 19, 20, 21], [61, 64], []), ([0, 1, 2, 3, 4, 5, 6, 7, 8, 9, 10, 11, 12, 13, 14, 15, 16, 17, 18, 19, 20, 21, 22], [65], []), ([0, 1, 2, 3, 4, 5, 6, 7, 8, 9, 10, 11, 12, 13, 14, 15, 16, 17, 18, 19, 20, 21, 22, 23], [8, 66], []), ([0, 1, 2, 3, 4, 5, 6, 7, 8, 9, 10, 11, 12, 13, 14, 15, 16, 17, 18, 19, 20, 21, 22, 23, 24], [66, 67], []), ([0, 1, 2, 3, 4, 5, 6, 7, 8, 9, 10, 11, 12, 13, 14, 15, 16, 17, 18, 19, 20, 21, 22, 23, 24, 25], [4, 68], []), ([0, 1, 2, 3, 4, 5, 6, 7, 8, 9, 10, 11, 12, 13, 14, 15, 16, 17, 18, 19, 20, 21, 22, 23, 24, 25], [5, 68], []), ([0, 1, 2, 3, 4, 5, 6, 7, 8, 9, 10, 11, 12, 13, 14, 15, 16, 17, 18, 19, 20, 21, 22, 23, 24, 25], [6, 68], []), ([0, 1, 2, 3, 4, 5, 6, 7, 8, 9, 10, 11, 12, 13, 14, 15, 16, 17, 18, 19, 20, 21, 22, 23, 24, 25], [7, 68], []), ([0, 1, 2, 3, 4, 5, 6, 7, 8, 9, 10, 11, 12, 13, 14, 15, 16, 17, 18, 19, 20, 21, 22, 23, 24, 25, 26, 27, 28, 29], [68, 69, 70, 71, 72], []), ([0, 1, 2, 3, 4, 5, 6, 7, 8, 9, 10, 11, 12, 13, 14, 15, 16, 17, 18, 19, 20, 21, 22, 23, 24, 25], [3, 68], []), ([0, 1, 2, 3, 4, 5, 6, 7, 8, 9, 10, 11, 12, 13, 14, 15, 16, 17, 18, 19, 20, 21, 22, 23, 24, 25], [3, 68], []), ([0, 1, 2, 3, 4, 5, 6, 7, 8, 9, 10, 11, 12, 13, 14, 15, 16, 17, 18, 19, 20, 21, 22, 23, 24, 25, 32], [68, 75], []), ([0, 1, 2, 3, 4, 5, 6, 7, 8, 9, 10, 11, 12, 13, 14, 15, 16, 17, 18, 19, 20, 21, 22, 23, 24, 25, 32, 33], [68, 76], []), ([0, 1, 2, 3, 4, 5, 6, 7, 8, 9, 10, 11, 12, 13, 14, 15, 16, 17, 18, 19, 20, 21, 22, 23, 24, 25, 31, 32, 33, 34], [68, 74, 77], []), ([0, 1, 2, 3, 4, 5, 6, 7, 8, 9, 10, 11, 12, 13, 14, 15, 16, 17, 18, 19, 20, 21, 22, 23, 24, 25, 26, 27, 28, 29, 30, 31, 32, 33, 34, 35], [68, 73, 78], []), ([0, 1, 2, 3, 4, 5, 6, 7, 8, 9, 10, 11, 12, 13, 14, 15, 16, 17, 18, 19, 20, 21, 22, 23, 24, 25, 26, 27, 28, 29, 30, 31, 32, 33, 34, 35, 36], [66, 68, 79], []), ([0, 1, 2, 3, 4, 5, 6, 7, 8, 9, 10, 11, 12, 13, 14, 15, 16, 17, 18, 19, 20, 21, 22, 23, 24, 25, 26, 27, 28, 29, 30, 31, 32, 33, 34, 35, 36, 37], [66, 80], [])] rfl rfl rfl ?_ | refine call_x (hR) rfl ⟨rfl⟩ ?_ | refine call_x (hR2) rfl ⟨rfl⟩ ?_ | refine call_x (hT) rfl ⟨rfl⟩ ?_ | refine call_x (hT1) rfl ⟨rfl⟩ ?_ | (refine call_v (DrawFootText code (code_bytes hc (by assumption))) rfl ?_; rintro _ ⟨v, s, bb, l, os, e, rfl, hx, ho, he⟩; refine ⟨⟨rfl⟩, ?_⟩) | refine call_x (impl_FootText _ _ _ _ _ _ (by unfold Offs at ho; omega) ho.2 he) rfl ⟨rfl⟩ ?_ | refine call_x (spec_FootText _ _ _ _ _ _ (by unfold Offs at ho; omega) ho.2 he) rfl ⟨rfl⟩ ?_); (try simp (maxSteps := 1000000) (disch := first | omega | (simp only [LN, numOk, verOk, rtP, beq_self_eq_true, hB, h0] <;> omega) | exact Ck.mk rfl) only [VC, T, Nat.reduceMul, Nat.reduceAdd, Nat.reduceSub, Nat.reduceLT, Nat.reduceEqDiff, Nat.reduceLeDiff, Nat.reduceBEq, reduceCtorEq, Int.reduceToNat, ↓reduceIte, rtP, beq_self_eq_true, hB, h0])))
    · rw [ht]; rfl
    · obtain ⟨k1, k2⟩ := foot_back v s bb l os e f
      have k3 := footT_le v s bb l os e
      have hol : os.length ≤ 10 := ho.1
      have hRf := impl_ReadTrailer (footT v s bb l os e) (by omega)
      rw [show (footT v s bb l os e).size - 8 = (((footT v s bb l os e).size : Int) - 8).toNat by omega] at k2
      generalize footT v s bb l os e = ft at *
      (try simp (maxSteps := 1000000) (disch := first | omega | (simp only [LN, numOk, verOk, rtP, beq_self_eq_true, k2, ht] <;> omega) | exact Ck.mk rfl) only [VC, T, Nat.reduceMul, Nat.reduceAdd, Nat.reduceSub, Nat.reduceLT, Nat.reduceEqDiff, Nat.reduceLeDiff, Nat.reduceBEq, reduceCtorEq, Int.reduceToNat, ↓reduceIte, rtP, beq_self_eq_true, k2, ht])
      repeat' (first
        | (refine br_go (fun e f => ?_) (fun e f => ?_) <;> (try simp only [BB] at f) <;> (try simp only [numOk, verOk] at f) <;> (try simp (maxSteps := 1000000) (disch := first | omega | (simp only [LN, numOk, verOk, rtP, beq_self_eq_true, k2, ht] <;> omega) | exact Ck.mk rfl) only [e, VC, T, Nat.reduceMul, Nat.reduceAdd, Nat.reduceSub, Nat.reduceLT, Nat.reduceEqDiff, Nat.reduceLeDiff, Nat.reduceBEq, reduceCtorEq, Int.reduceToNat, ↓reduceIte, rtP, beq_self_eq_true, k2, ht]) <;> (try clear e))
        | (refine pick_go (fun e f => ?_) (fun e f => ?_) <;> (try simp only [BB] at f) <;> (try simp only [numOk, verOk] at f) <;> (try simp (maxSteps := 1000000) (disch := first | omega | (simp only [LN, numOk, verOk, rtP, beq_self_eq_true, k2, ht] <;> omega) | exact Ck.mk rfl) only [e, VC, T, Nat.reduceMul, Nat.reduceAdd, Nat.reduceSub, Nat.reduceLT, Nat.reduceEqDiff, Nat.reduceLeDiff, Nat.reduceBEq, reduceCtorEq, Int.reduceToNat, ↓reduceIte, rtP, beq_self_eq_true, k2, ht]) <;> (try clear e))
        | ((first | refine dr_go mixed (id := 6) [([], [8], []), ([], [13], []), ([0, 1], [43, 44], []), ([0, 1, 2], [45], []), ([0, 1, 2, 3], [4, 46], []), ([0, 1, 2, 3], [9, 46], []), ([0, 1, 2, 3, 4, 5], [46, 47, 48], []), ([0, 1, 2, 3, 4, 5, 6], [46, 49], []), ([0, 1, 2, 3, 4, 5, 6, 7], [50], []), ([0, 1, 2, 3, 4, 5, 6, 7, 8], [5, 51], []), ([0, 1, 2, 3, 4, 5, 6, 7, 8], [10, 51], []), ([0, 1, 2, 3, 4, 5, 6, 7, 8, 9, 10], [51, 52, 53], []), ([0, 1, 2, 3, 4, 5, 6, 7, 8, 9, 10, 11], [51, 54], []), ([0, 1, 2, 3, 4, 5, 6, 7, 8, 9, 10, 11, 12], [55], []), ([0, 1, 2, 3, 4, 5, 6, 7, 8, 9, 10, 11, 12, 13], [6, 56], []), ([0, 1, 2, 3, 4, 5, 6, 7, 8, 9, 10, 11, 12, 13], [11, 56], []), ([0, 1, 2, 3, 4, 5, 6, 7, 8, 9, 10, 11, 12, 13, 14, 15], [56, 57, 58], []), ([0, 1, 2, 3, 4, 5, 6, 7, 8, 9, 10, 11, 12, 13, 14, 15, 16], [56, 59], []), ([0, 1, 2, 3, 4, 5, 6, 7, 8, 9, 10, 11, 12, 13, 14, 15, 16, 17], [60], []), ([0, 1, 2, 3, 4, 5, 6, 7, 8, 9, 10, 11, 12, 13, 14, 15, 16, 17, 18], [7, 61], []), ([0, 1, 2, 3, 4, 5, 6, 7, 8, 9, 10, 11, 12, 13, 14, 15, 16, 17, 18], [12, 61], []), ([0, 1, 2, 3, 4, 5, 6, 7, 8, 9, 10, 11, 12, 13, 14, 15, 16, 17, 18, 19, 20], [61, 62, 63], []), ([0, 1, 2, 3, 4, 5, 6, 7, 8, 9, 10, 11, 12, 13, 14, 15, 16, 17, 18, 19, 20, 21], [61, 64], []), ([0, 1, 2, 3, 4, 5, 6, 7, 8, 9, 10, 11, 12, 13, 14, 15, 16, 17, 18, 19, 20, 21, 22], [65], []), ([0, 1, 2, 3, 4, 5, 6, 7, 8, 9, 10, 11, 12, 13, 14, 15, 16, 17, 18, 19, 20, 21, 22, 23], [8, 66], []), ([0, 1, 2, 3, 4, 5, 6, 7, 8, 9, 10, 11, 12, 13, 14, 15, 16, 17, 18, 19, 20, 21, 22, 23, 24], [66, 67], []), ([0, 1, 2, 3, 4, 5, 6, 7, 8, 9, 10, 11, 12, 13, 14, 15, 16, 17, 18, 19, 20, 21, 22, 23, 24, 25], [4, 68], []), ([0, 1, 2, 3, 4, 5, 6, 7, 8, 9, 10, 11, 12, 13, 14, 15, 16, 17, 18, 19, 20, 21, 22, 23, 24, 25], [5, 68], []), ([0, 1, 2, 3, 4, 5, 6, 7, 8, 9, 10, 11, 12, 13, 14, 15, 16, 17, 18, 19, 20, 21, 22, 23, 24, 25], [6, 68], []), ([0, 1, 2, 3, 4, 5, 6, 7, 8, 9, 10, 11, 12, 13, 14, 15, 16, 17, 18, 19, 20, 21, 22, 23, 24, 25], [7, 68], []), ([0, 1, 2, 3, 4, 5, 6, 7, 8, 9, 10, 11, 12, 13, 14, 15, 16, 17, 18, 19, 20, 21, 22, 23, 24, 25, 26, 27, 28, 29], [68, 69, 70, 71, 72], []), ([0, 1, 2, 3, 4, 5, 6, 7, 8, 9, 10, 11, 12, 13, 14, 15, 16, 17, 18, 19, 20, 21, 22, 23, 24, 25], [3, 68], []), ([0, 1, 2, 3, 4, 5, 6, 7, 8, 9, 10, 11, 12, 13, 14, 15, 16, 17, 18, 19, 20, 21, 22, 23, 24, 25], [3, 68], []), ([0, 1, 2, 3, 4, 5, 6, 7, 8, 9, 10, 11, 12, 13, 14, 15, 16, 17, 18, 19, 20, 21, 22, 23, 24, 25, 32], [68, 75], []), ([0, 1, 2, 3, 4, 5, 6, 7, 8, 9, 10, 11, 12, 13, 14, 15, 16, 17, 18, 19, 20, 21, 22, 23, 24, 25, 32, 33], [68, 76], []), ([0, 1, 2, 3, 4, 5, 6, 7, 8, 9, 10, 11, 12, 13, 14, 15, 16, 17, 18, 19, 20, 21, 22, 23, 24, 25, 31, 32, 33, 34], [68, 74, 77], []), ([0, 1, 2, 3, 4, 5, 6, 7, 8, 9, 10, 11, 12, 13, 14, 15, 16, 17, 18, 19, 20, 21, 22, 23, 24, 25, 26, 27, 28, 29, 30, 31, 32, 33, 34, 35], [68, 73, 78], []), ([0, 1, 2, 3, 4, 5, 6, 7, 8, 9, 10, 11, 12, 13, 14, 15, 16, 17, 18, 19, 20, 21, 22, 23, 24, 25, 26, 27, 28, 29, 30, 31, 32, 33, 34, 35, 36], [66, 68, 79], []), ([0, 1, 2, 3, 4, 5, 6, 7, 8, 9, 10, 11, 12, 13, 14, 15, 16, 17, 18, 19, 20, 21, 22, 23, 24, 25, 26, 27, 28, 29, 30, 31, 32, 33, 34, 35, 36, 37], [66, 80], [])] rfl rfl rfl ?_ | refine call_x (hRf) rfl ⟨rfl⟩ ?_ | refine call_x (hT1) rfl ⟨rfl⟩ ?_ | refine call_x (spec_SumOf _ (by rw [ByteArray.size_extract]; omega)) rfl ⟨rfl⟩ ?_); (try simp (maxSteps := 1000000) (disch := first | omega | (simp only [LN, numOk, verOk, rtP, beq_self_eq_true, k2, ht] <;> omega) | exact Ck.mk rfl) only [VC, T, Nat.reduceMul, Nat.reduceAdd, Nat.reduceSub, Nat.reduceLT, Nat.reduceEqDiff, Nat.reduceLeDiff, Nat.reduceBEq, reduceCtorEq, Int.reduceToNat, ↓reduceIte, rtP, beq_self_eq_true, k2, ht])))
      rfl
    | false =>
    (try simp (maxSteps := 1000000) (disch := first | omega | (simp only [LN, numOk, verOk, rtP, beq_self_eq_true] <;> omega) | exact Ck.mk rfl) only [VC, T, Nat.reduceMul, Nat.reduceAdd, Nat.reduceSub, Nat.reduceLT, Nat.reduceEqDiff, Nat.reduceLeDiff, Nat.reduceBEq, reduceCtorEq, Int.reduceToNat, ↓reduceIte, rtP, beq_self_eq_true])
    repeat' (first
      | (refine br_go (fun e f => ?_) (fun e f => ?_) <;> (try simp only [BB] at f) <;> (try simp only [numOk, verOk] at f) <;> (try simp (maxSteps := 1000000) (disch := first | omega | (simp only [LN, numOk, verOk, rtP, beq_self_eq_true] <;> omega) | exact Ck.mk rfl) only [e, VC, T, Nat.reduceMul, Nat.reduceAdd, Nat.reduceSub, Nat.reduceLT, Nat.reduceEqDiff, Nat.reduceLeDiff, Nat.reduceBEq, reduceCtorEq, Int.reduceToNat, ↓reduceIte, rtP, beq_self_eq_true]) <;> (try clear e))
      | (refine pick_go (fun e f => ?_) (fun e f => ?_) <;> (try simp only [BB] at f) <;> (try simp only [numOk, verOk] at f) <;> (try simp (maxSteps := 1000000) (disch := first | omega | (simp only [LN, numOk, verOk, rtP, beq_self_eq_true] <;> omega) | exact Ck.mk rfl) only [e, VC, T, Nat.reduceMul, Nat.reduceAdd, Nat.reduceSub, Nat.reduceLT, Nat.reduceEqDiff, Nat.reduceLeDiff, Nat.reduceBEq, reduceCtorEq, Int.reduceToNat, ↓reduceIte, rtP, beq_self_eq_true]) <;> (try clear e))
      | ((first | refine dr_go mixed (id := 6) [([], [8], []), ([], [13], []), ([0, 1], [43, 44], []), ([0, 1, 2], [45], []), ([0, 1, 2, 3], [4, 46], []), ([0, 1, 2, 3], [9, 46], []), ([0, 1, 2, 3, 4, 5], [46, 47, 48], []), ([0, 1, 2, 3, 4, 5, 6], [46, 49], []), ([0, 1, 2, 3, 4, 5, 6, 7], [50], []), ([0, 1, 2, 3, 4, 5, 6, 7, 8], [5, 51], []), ([0, 1, 2, 3, 4, 5, 6, 7, 8], [10, 51], []), ([0, 1, 2, 3, 4, 5, 6, 7, 8, 9, 10], [51, 52, 53], []), ([0, 1, 2, 3, 4, 5, 6, 7, 8, 9, 10, 11], [51, 54], []), ([0, 1, 2, 3, 4, 5, 6, 7, 8, 9, 10, 11, 12], [55], []), ([0, 1, 2, 3, 4, 5, 6, 7, 8, 9, 10, 11, 12, 13], [6, 56], []), ([0, 1, 2, 3, 4, 5, 6, 7, 8, 9, 10, 11, 12, 13], [11, 56], []), ([0, 1, 2, 3, 4, 5, 6, 7, 8, 9, 10, 11, 12, 13, 14, 15], [56, 57, 58], []), ([0, 1, 2, 3, 4, 5, 6, 7, 8, 9, 10, 11, 12, 13, 14, 15, 16], [56, 59], []), ([0, 1, 2, 3, 4, 5, 6, 7, 8, 9, 10, 11, 12, 13, 14, 15, 16, 17], [60], []), ([0, 1, 2, 3, 4, 5, 6, 7, 8, 9, 10, 11, 12, 13, 14, 15, 16, 17, 18], [7, 61], []), ([0, 1, 2, 3, 4, 5, 6, 7, 8, 9, 10, 11, 12, 13, 14, 15, 16, 17, 18], [12, 61], []), ([0, 1, 2, 3, 4, 5, 6, 7, 8, 9, 10, 11, 12, 13, 14, 15, 16, 17, 18, 19, 20], [61, 62, 63], []), ([0, 1, 2, 3, 4, 5, 6, 7, 8, 9, 10, 11, 12, 13, 14, 15, 16, 17, 18, 19, 20, 21], [61, 64], []), ([0, 1, 2, 3, 4, 5, 6, 7, 8, 9, 10, 11, 12, 13, 14, 15, 16, 17, 18, 19, 20, 21, 22], [65], []), ([0, 1, 2, 3, 4, 5, 6, 7, 8, 9, 10, 11, 12, 13, 14, 15, 16, 17, 18, 19, 20, 21, 22, 23], [8, 66], []), ([0, 1, 2, 3, 4, 5, 6, 7, 8, 9, 10, 11, 12, 13, 14, 15, 16, 17, 18, 19, 20, 21, 22, 23, 24], [66, 67], []), ([0, 1, 2, 3, 4, 5, 6, 7, 8, 9, 10, 11, 12, 13, 14, 15, 16, 17, 18, 19, 20, 21, 22, 23, 24, 25], [4, 68], []), ([0, 1, 2, 3, 4, 5, 6, 7, 8, 9, 10, 11, 12, 13, 14, 15, 16, 17, 18, 19, 20, 21, 22, 23, 24, 25], [5, 68], []), ([0, 1, 2, 3, 4, 5, 6, 7, 8, 9, 10, 11, 12, 13, 14, 15, 16, 17, 18, 19, 20, 21, 22, 23, 24, 25], [6, 68], []), ([0, 1, 2, 3, 4, 5, 6, 7, 8, 9, 10, 11, 12, 13, 14, 15, 16, 17, 18, 19, 20, 21, 22, 23, 24, 25], [7, 68], []), ([0, 1, 2, 3, 4, 5, 6, 7, 8, 9, 10, 11, 12, 13, 14, 15, 16, 17, 18, 19, 20, 21, 22, 23, 24, 25, 26, 27, 28, 29], [68, 69, 70, 71, 72], []), ([0, 1, 2, 3, 4, 5, 6, 7, 8, 9, 10, 11, 12, 13, 14, 15, 16, 17, 18, 19, 20, 21, 22, 23, 24, 25], [3, 68], []), ([0, 1, 2, 3, 4, 5, 6, 7, 8, 9, 10, 11, 12, 13, 14, 15, 16, 17, 18, 19, 20, 21, 22, 23, 24, 25], [3, 68], []), ([0, 1, 2, 3, 4, 5, 6, 7, 8, 9, 10, 11, 12, 13, 14, 15, 16, 17, 18, 19, 20, 21, 22, 23, 24, 25, 32], [68, 75], []), ([0, 1, 2, 3, 4, 5, 6, 7, 8, 9, 10, 11, 12, 13, 14, 15, 16, 17, 18, 19, 20, 21, 22, 23, 24, 25, 32, 33], [68, 76], []), ([0, 1, 2, 3, 4, 5, 6, 7, 8, 9, 10, 11, 12, 13, 14, 15, 16, 17, 18, 19, 20, 21, 22, 23, 24, 25, 31, 32, 33, 34], [68, 74, 77], []), ([0, 1, 2, 3, 4, 5, 6, 7, 8, 9, 10, 11, 12, 13, 14, 15, 16, 17, 18, 19, 20, 21, 22, 23, 24, 25, 26, 27, 28, 29, 30, 31, 32, 33, 34, 35], [68, 73, 78], []), ([0, 1, 2, 3, 4, 5, 6, 7, 8, 9, 10, 11, 12, 13, 14, 15, 16, 17, 18, 19, 20, 21, 22, 23, 24, 25, 26, 27, 28, 29, 30, 31, 32, 33, 34, 35, 36], [66, 68, 79], []), ([0, 1, 2, 3, 4, 5, 6, 7, 8, 9, 10, 11, 12, 13, 14, 15, 16, 17, 18, 19, 20, 21, 22, 23, 24, 25, 26, 27, 28, 29, 30, 31, 32, 33, 34, 35, 36, 37], [66, 80], [])] rfl rfl rfl ?_ | refine call_x (hR) rfl ⟨rfl⟩ ?_ | refine call_x (hR2) rfl ⟨rfl⟩ ?_ | refine call_x (hT) rfl ⟨rfl⟩ ?_ | refine call_x (hT1) rfl ⟨rfl⟩ ?_ | (refine call_v (DrawFootText code (code_bytes hc (by assumption))) rfl ?_; rintro _ ⟨v, s, bb, l, os, e, rfl, hx, ho, he⟩; refine ⟨⟨rfl⟩, ?_⟩) | refine call_x (impl_FootText _ _ _ _ _ _ (by unfold Offs at ho; omega) ho.2 he) rfl ⟨rfl⟩ ?_ | refine call_x (spec_FootText _ _ _ _ _ _ (by unfold Offs at ho; omega) ho.2 he) rfl ⟨rfl⟩ ?_); (try simp (maxSteps := 1000000) (disch := first | omega | (simp only [LN, numOk, verOk, rtP, beq_self_eq_true] <;> omega) | exact Ck.mk rfl) only [VC, T, Nat.reduceMul, Nat.reduceAdd, Nat.reduceSub, Nat.reduceLT, Nat.reduceEqDiff, Nat.reduceLeDiff, Nat.reduceBEq, reduceCtorEq, Int.reduceToNat, ↓reduceIte, rtP, beq_self_eq_true])))
    · rw [ht]; rfl
    · obtain ⟨k1, k2⟩ := foot_back v s bb l os e f
      have k3 := footT_le v s bb l os e
      have hol : os.length ≤ 10 := ho.1
      have hRf := impl_ReadTrailer (footT v s bb l os e) (by omega)
      rw [show (footT v s bb l os e).size - 8 = (((footT v s bb l os e).size : Int) - 8).toNat by omega] at k2
      generalize footT v s bb l os e = ft at *
      (try simp (maxSteps := 1000000) (disch := first | omega | (simp only [LN, numOk, verOk, rtP, beq_self_eq_true, k2, ht] <;> omega) | exact Ck.mk rfl) only [VC, T, Nat.reduceMul, Nat.reduceAdd, Nat.reduceSub, Nat.reduceLT, Nat.reduceEqDiff, Nat.reduceLeDiff, Nat.reduceBEq, reduceCtorEq, Int.reduceToNat, ↓reduceIte, rtP, beq_self_eq_true, k2, ht])
      repeat' (first
        | (refine br_go (fun e f => ?_) (fun e f => ?_) <;> (try simp only [BB] at f) <;> (try simp only [numOk, verOk] at f) <;> (try simp (maxSteps := 1000000) (disch := first | omega | (simp only [LN, numOk, verOk, rtP, beq_self_eq_true, k2, ht] <;> omega) | exact Ck.mk rfl) only [e, VC, T, Nat.reduceMul, Nat.reduceAdd, Nat.reduceSub, Nat.reduceLT, Nat.reduceEqDiff, Nat.reduceLeDiff, Nat.reduceBEq, reduceCtorEq, Int.reduceToNat, ↓reduceIte, rtP, beq_self_eq_true, k2, ht]) <;> (try clear e))
        | (refine pick_go (fun e f => ?_) (fun e f => ?_) <;> (try simp only [BB] at f) <;> (try simp only [numOk, verOk] at f) <;> (try simp (maxSteps := 1000000) (disch := first | omega | (simp only [LN, numOk, verOk, rtP, beq_self_eq_true, k2, ht] <;> omega) | exact Ck.mk rfl) only [e, VC, T, Nat.reduceMul, Nat.reduceAdd, Nat.reduceSub, Nat.reduceLT, Nat.reduceEqDiff, Nat.reduceLeDiff, Nat.reduceBEq, reduceCtorEq, Int.reduceToNat, ↓reduceIte, rtP, beq_self_eq_true, k2, ht]) <;> (try clear e))
        | ((first | refine dr_go mixed (id := 6) [([], [8], []), ([], [13], []), ([0, 1], [43, 44], []), ([0, 1, 2], [45], []), ([0, 1, 2, 3], [4, 46], []), ([0, 1, 2, 3], [9, 46], []), ([0, 1, 2, 3, 4, 5], [46, 47, 48], []), ([0, 1, 2, 3, 4, 5, 6], [46, 49], []), ([0, 1, 2, 3, 4, 5, 6, 7], [50], []), ([0, 1, 2, 3, 4, 5, 6, 7, 8], [5, 51], []), ([0, 1, 2, 3, 4, 5, 6, 7, 8], [10, 51], []), ([0, 1, 2, 3, 4, 5, 6, 7, 8, 9, 10], [51, 52, 53], []), ([0, 1, 2, 3, 4, 5, 6, 7, 8, 9, 10, 11], [51, 54], []), ([0, 1, 2, 3, 4, 5, 6, 7, 8, 9, 10, 11, 12], [55], []), ([0, 1, 2, 3, 4, 5, 6, 7, 8, 9, 10, 11, 12, 13], [6, 56], []), ([0, 1, 2, 3, 4, 5, 6, 7, 8, 9, 10, 11, 12, 13], [11, 56], []), ([0, 1, 2, 3, 4, 5, 6, 7, 8, 9, 10, 11, 12, 13, 14, 15], [56, 57, 58], []), ([0, 1, 2, 3, 4, 5, 6, 7, 8, 9, 10, 11, 12, 13, 14, 15, 16], [56, 59], []), ([0, 1, 2, 3, 4, 5, 6, 7, 8, 9, 10, 11, 12, 13, 14, 15, 16, 17], [60], []), ([0, 1, 2, 3, 4, 5, 6, 7, 8, 9, 10, 11, 12, 13, 14, 15, 16, 17, 18], [7, 61], []), ([0, 1, 2, 3, 4, 5, 6, 7, 8, 9, 10, 11, 12, 13, 14, 15, 16, 17, 18], [12, 61], []), ([0, 1, 2, 3, 4, 5, 6, 7, 8, 9, 10, 11, 12, 13, 14, 15, 16, 17, 18, 19, 20], [61, 62, 63], []), ([0, 1, 2, 3, 4, 5, 6, 7, 8, 9, 10, 11, 12, 13, 14, 15, 16, 17, 18, 19, 20, 21], [61, 64], []), ([0, 1, 2, 3, 4, 5, 6, 7, 8, 9, 10, 11, 12, 13, 14, 15, 16, 17, 18, 19, 20, 21, 22], [65], []), ([0, 1, 2, 3, 4, 5, 6, 7, 8, 9, 10, 11, 12, 13, 14, 15, 16, 17, 18, 19, 20, 21, 22, 23], [8, 66], []), ([0, 1, 2, 3, 4, 5, 6, 7, 8, 9, 10, 11, 12, 13, 14, 15, 16, 17, 18, 19, 20, 21, 22, 23, 24], [66, 67], []), ([0, 1, 2, 3, 4, 5, 6, 7, 8, 9, 10, 11, 12, 13, 14, 15, 16, 17, 18, 19, 20, 21, 22, 23, 24, 25], [4, 68], []), ([0, 1, 2, 3, 4, 5, 6, 7, 8, 9, 10, 11, 12, 13, 14, 15, 16, 17, 18, 19, 20, 21, 22, 23, 24, 25], [5, 68], []), ([0, 1, 2, 3, 4, 5, 6, 7, 8, 9, 10, 11, 12, 13, 14, 15, 16, 17, 18, 19, 20, 21, 22, 23, 24, 25], [6, 68], []), ([0, 1, 2, 3, 4, 5, 6, 7, 8, 9, 10, 11, 12, 13, 14, 15, 16, 17, 18, 19, 20, 21, 22, 23, 24, 25], [7, 68], []), ([0, 1, 2, 3, 4, 5, 6, 7, 8, 9, 10, 11, 12, 13, 14, 15, 16, 17, 18, 19, 20, 21, 22, 23, 24, 25, 26, 27, 28, 29], [68, 69, 70, 71, 72], []), ([0, 1, 2, 3, 4, 5, 6, 7, 8, 9, 10, 11, 12, 13, 14, 15, 16, 17, 18, 19, 20, 21, 22, 23, 24, 25], [3, 68], []), ([0, 1, 2, 3, 4, 5, 6, 7, 8, 9, 10, 11, 12, 13, 14, 15, 16, 17, 18, 19, 20, 21, 22, 23, 24, 25], [3, 68], []), ([0, 1, 2, 3, 4, 5, 6, 7, 8, 9, 10, 11, 12, 13, 14, 15, 16, 17, 18, 19, 20, 21, 22, 23, 24, 25, 32], [68, 75], []), ([0, 1, 2, 3, 4, 5, 6, 7, 8, 9, 10, 11, 12, 13, 14, 15, 16, 17, 18, 19, 20, 21, 22, 23, 24, 25, 32, 33], [68, 76], []), ([0, 1, 2, 3, 4, 5, 6, 7, 8, 9, 10, 11, 12, 13, 14, 15, 16, 17, 18, 19, 20, 21, 22, 23, 24, 25, 31, 32, 33, 34], [68, 74, 77], []), ([0, 1, 2, 3, 4, 5, 6, 7, 8, 9, 10, 11, 12, 13, 14, 15, 16, 17, 18, 19, 20, 21, 22, 23, 24, 25, 26, 27, 28, 29, 30, 31, 32, 33, 34, 35], [68, 73, 78], []), ([0, 1, 2, 3, 4, 5, 6, 7, 8, 9, 10, 11, 12, 13, 14, 15, 16, 17, 18, 19, 20, 21, 22, 23, 24, 25, 26, 27, 28, 29, 30, 31, 32, 33, 34, 35, 36], [66, 68, 79], []), ([0, 1, 2, 3, 4, 5, 6, 7, 8, 9, 10, 11, 12, 13, 14, 15, 16, 17, 18, 19, 20, 21, 22, 23, 24, 25, 26, 27, 28, 29, 30, 31, 32, 33, 34, 35, 36, 37], [66, 80], [])] rfl rfl rfl ?_ | refine call_x (hRf) rfl ⟨rfl⟩ ?_ | refine call_x (hT1) rfl ⟨rfl⟩ ?_ | refine call_x (spec_SumOf _ (by rw [ByteArray.size_extract]; omega)) rfl ⟨rfl⟩ ?_); (try simp (maxSteps := 1000000) (disch := first | omega | (simp only [LN, numOk, verOk, rtP, beq_self_eq_true, k2, ht] <;> omega) | exact Ck.mk rfl) only [VC, T, Nat.reduceMul, Nat.reduceAdd, Nat.reduceSub, Nat.reduceLT, Nat.reduceEqDiff, Nat.reduceLeDiff, Nat.reduceBEq, reduceCtorEq, Int.reduceToNat, ↓reduceIte, rtP, beq_self_eq_true, k2, ht])))
      rfl
  end Go.Pv

/- What a law's contract in plain values says of its walk. -/
namespace Go.Pv

variable {P : Program}
theorem kp_below {Γ : Nat → Value} {w w' : World} (h : Kp (Ow Γ []) w w') : Go.RowKit.Below w.heap.size w w' :=
  ⟨h.os, h.tape, h.output, h.size, fun k hk => h.block k hk fun ⟨_, l, _⟩ => l.elim⟩
/-- Nothing is handed over. -/
def No : Bl := fun _ => False
def Ga : Nat → Value := fun _ => .bool false
/-- The arguments of a law. -/
def Lay (w : World) (args : List PV) (vs : List Value) : Prop := vs.length = args.length ∧ ∀ (i : Nat) (x : PV) (v : Value), args[i]? = some x → vs[i]? = some v → DR w No x v
theorem lay_nil {w : World} : Lay w [] [] := ⟨rfl, fun _ _ _ h => by simp at h⟩
theorem lay_cons {w : World} {x : PV} {v : Value} {xs : List PV} {vs : List Value} (h : DR w No x v) (k : Lay w xs vs) : Lay w (x :: xs) (v :: vs) :=
  ⟨congrArg (· + 1) k.1, fun i y u h1 h2 => by
    cases i with
    | zero => simp at h1 h2; obtain rfl := h1; obtain rfl := h2; exact h
    | succ i => exact k.2 i y u (by simpa using h1) (by simpa using h2)⟩
theorem Fn.law {f : FuncId} {args : List PV} {vs : List Value} {w : World} {b : Bool} (h : Fn P f args [] (.bool b) []) (hl : Lay w args vs) :
    Calls P f vs.toArray w fun e w' => e = .returned (.bool b) ∧ Go.RowKit.Below w.heap.size w w' := by
  have no : ∀ b, ¬ Av No Ga [] b := fun b hb => hb.elim id fun ⟨_, l, _⟩ => l
  refine (h.run w No Ga vs.toArray (fun _ h => h.elim) (by simpa using hl.1) (fun i x hx => ?_) (fun _ => trivial) fun _ _ _ l => l.elim).mono ?_
  · have hi : i < vs.length := by
      rw [hl.1]
      exact (List.getElem?_eq_some_iff.1 hx).1
    have e := hl.2 i x vs[i] hx (List.getElem?_eq_getElem hi)
    have g : vs.toArray.getD i undef = vs[i] := by simp [Array.getD, hi]
    rw [g]
    exact .data (e.step (fun _ _ _ => rfl) fun b _ hb => (no b hb).elim)
  · rintro e w' ⟨v, Γ', rfl, h1, h2, _⟩
    refine ⟨?_, kp_below h1⟩
    cases h2 with
    | data h => cases h; rfl
end Go.Pv

/- A law's arguments, opened: whole numbers, texts, slices and structs of them. -/
namespace Go.Pv
open Go.RowKit Go.WideShapes

section
variable {H : Type} {enc : TypeId × Value → H} {P : Program} {w : World} {α β : Type}

/-- What is read at type t, out of k cells, is 'f a', for an a of which R holds. -/
def Opn (enc : TypeId × Value → H) (P : Program) (w : World) (t : TypeId) (k : Nat) (f : α → PV) (R : α → Prop) : Prop :=
  ∀ (fuel : Nat) (cs : List Value) (d : DataW H × List MemPlace), DataW.trod enc P w 0 (fun _ => true) true fuel t cs = some d →
    cs.length = k ∧ ∃ a, R a ∧ (flat (f a)).length = k ∧ ∀ (j : Nat) (y : PV), (flat (f a))[j]? = some y → DR w No y (cs.getD j undef)
theorem one_dr {x : PV} {v : Value} (hx : flat x = [x]) (h : DR w No x v) : (flat x).length = 1 ∧ ∀ (j : Nat) (y : PV), (flat x)[j]? = some y → DR w No y ([v].getD j undef) := by
  rw [hx]
  refine ⟨rfl, fun j y hy => ?_⟩
  cases j with
  | zero => cases hy; exact h
  | succ j => simp at hy
theorem opn_int {t : TypeId} {k : IntKind} (ht : P.underlying t = some (.int k)) : Opn enc P w t 1 (PV.int k) (fun n => (Lit.int k n).wf = true) := fun fuel cs d h => by
  obtain ⟨n, rfl, _, hw⟩ := DataW.trod_int ht h
  exact ⟨rfl, n, hw, one_dr rfl (.int k n)⟩
theorem int_wf {n : Int} (h : (Lit.int .i64 n).wf = true) : -9223372036854775808 ≤ n ∧ n ≤ 9223372036854775807 := by
  simp only [Lit.wf, Bool.and_eq_true, decide_eq_true_eq] at h
  exact h
theorem opn_i64 {t : TypeId} (ht : P.underlying t = some (.int .i64)) : Opn enc P w t 1 (PV.int .i64) (fun n => -9223372036854775808 ≤ n ∧ n ≤ 9223372036854775807) := fun fuel cs d h => by
  obtain ⟨h1, a, h2, h3⟩ := opn_int ht fuel cs d h
  exact ⟨h1, a, int_wf h2, h3⟩
theorem opn_bool {t : TypeId} (ht : P.underlying t = some .bool) : Opn enc P w t 1 PV.bool (fun _ => True) := fun fuel cs d h => by
  obtain ⟨n, rfl, _⟩ := DataW.trod_bool ht h
  exact ⟨rfl, n, trivial, one_dr rfl (.bool n)⟩
theorem opn_str {t : TypeId} (ht : P.underlying t = some .string) : Opn enc P w t 1 PV.str (fun s => s.size ≤ 9223372036854775807) := fun fuel cs d h => by
  obtain ⟨s, rfl, _, hs⟩ := DataW.trod_string ht h
  exact ⟨rfl, s, hs, one_dr rfl (.str s)⟩
theorem all_list {Q : Nat → α → Prop} : ∀ (n : Nat), (∀ i, i < n → ∃ a, Q i a) → ∃ l : List α, l.length = n ∧ ∀ i a, l[i]? = some a → Q i a
  | 0, _ => ⟨[], rfl, fun i a h => by simp at h⟩
  | n + 1, h => by
    obtain ⟨l, h1, h2⟩ := all_list n fun i hi => h i (by omega)
    obtain ⟨a, ha⟩ := h n (by omega)
    refine ⟨l ++ [a], by simp [h1], fun i x hx => ?_⟩
    by_cases hi : i < l.length
    · rw [List.getElem?_append_left hi] at hx; exact h2 i x hx
    · rw [List.getElem?_append_right (by omega)] at hx
      by_cases e : i = l.length
      · subst e; rw [Nat.sub_self] at hx; cases hx; rw [h1]; exact ha
      · rw [show i - l.length = (i - l.length - 1) + 1 by omega] at hx; simp at hx
theorem opn_slice {t e : TypeId} {k : Nat} {f : α → PV} {R : α → Prop} (ht : P.underlying t = some (.slice e)) (hk : P.cellsOf e = k) (h0 : 0 < k) (he : Opn enc P w e k f R) :
    Opn enc P w t 1 (fun l : List α => .far (l.map f)) (fun l => l.length ≤ 9223372036854775807 ∧ ∀ a ∈ l, R a) := fun fuel cs d h => by
  rcases DataW.trod_slice ht h with ⟨rfl, _⟩ | ⟨a, len, cap, elems, rest, n, _, rfl, _, _, hl, hm, hlen, hel, _, _⟩
  · exact ⟨rfl, [], ⟨by simp, by simp⟩, one_dr rfl (.far0 _ _)⟩
  · refine ⟨rfl, ?_⟩
    rw [hk] at hel
    have each : ∀ i, i < len → ∃ x, R x ∧ (flat (f x)).length = k ∧ ∀ (j : Nat) (y : PV), (flat (f x))[j]? = some y → ∃ v, w.cell? ((a.add (i * k)).add j) = some v ∧ DR w No y v := fun i hi => by
      have h1 := hel i hi
      rw [List.getElem?_eq_getElem (by omega), Option.bind_eq_some_iff] at h1
      obtain ⟨cs, h2, h3⟩ := h1
      obtain ⟨h4, x, h5, h6, h7⟩ := he _ _ _ h3
      refine ⟨x, h5, h6, fun j y hy => ?_⟩
      have hj : j < k := by rw [← h6]; exact (List.getElem?_eq_some_iff.1 hy).1
      unfold World.cells? at h2
      rw [if_pos (Nat.zero_le _)] at h2
      have h8 := mapM_some_get h2 j j (by simp [hj])
      rw [List.getElem?_eq_getElem (by omega)] at h8
      refine ⟨_, h8, ?_⟩
      have := h7 j y hy
      rw [List.getD_eq_getElem?_getD, List.getElem?_eq_getElem (by omega)] at this
      exact this
    obtain ⟨l, h1, h2⟩ := all_list len each
    refine ⟨l, ⟨by rw [h1]; exact Nat.le_trans hl hm, fun x hx => ?_⟩, one_dr rfl ?_⟩
    · obtain ⟨i, hi⟩ := List.getElem?_of_mem hx
      exact (h2 i x hi).1
    · by_cases hz : len = 0
      · obtain rfl : l = [] := List.eq_nil_of_length_eq_zero (by omega)
        subst hz
        exact .far0 _ _
      · obtain ⟨β, o, spot⟩ := a
        have cell : ∀ (i : Nat) (x : α) (j : Nat) (y : PV), l[i]? = some x → (flat (f x))[j]? = some y → ∃ v, w.cell? ⟨β, o + i * k + j, if i * k = 0 ∧ j = 0 then spot else none⟩ = some v ∧ DR w No y v := fun i x j y hx hy => by
          obtain ⟨v, q1, q2⟩ := (h2 i x hx).2.2 j y hy
          refine ⟨v, ?_, q2⟩
          rw [← q1]
          unfold Addr.add
          by_cases e1 : i * k = 0 <;> by_cases e2 : j = 0 <;> simp [e1, e2]
        obtain ⟨x0, hx0⟩ : ∃ x, l[0]? = some x := ⟨l[0]'(by omega), List.getElem?_eq_getElem (by omega)⟩
        have hfl := (h2 0 x0 hx0).2.1
        obtain ⟨v, q1, _⟩ := cell 0 x0 0 ((flat (f x0))[0]'(by omega)) hx0 (List.getElem?_eq_getElem (by omega))
        simp only [Nat.zero_mul, true_and, and_self, if_true] at q1
        obtain ⟨c, t', fr, hw, hs⟩ : ∃ c t' fr, w.heap[β]? = some (.cells c t' fr) ∧ spot = none := by
          unfold World.cell? at q1
          split at q1
          · rename_i c t' fr hw
            refine ⟨c, t', fr, hw, ?_⟩
            cases spot with
            | none => rfl
            | some s => simp at q1
          · cases q1
        subst hs
        simp only [ite_self] at cell
        have cc : ∀ (i : Nat) (x : α) (j : Nat) (y : PV), l[i]? = some x → (flat (f x))[j]? = some y → o + i * k + j < c.size ∧ DR w No y (c.getD (o + i * k + j) undef) := fun i x j y hx hy => by
          obtain ⟨v, q1, q2⟩ := cell i x j y hx hy
          unfold World.cell? at q1
          simp only [hw] at q1
          have q3 := (Array.getElem?_eq_some_iff.1 (by simpa using q1 : c[o + i * k + j]? = some v)).1
          refine ⟨q3, ?_⟩
          have q4 : c[o + i * k + j]? = some v := by simpa using q1
          rw [Array.getD_eq_getD_getElem?, q4]
          exact q2
        have pick : ∀ (i : Nat) (x : PV), (l.map f)[i]? = some x → ∃ a, l[i]? = some a ∧ x = f a := fun i x hx => by
          rw [List.getElem?_map, Option.map_eq_some_iff] at hx
          obtain ⟨a, ha, rfl⟩ := hx
          exact ⟨a, ha, rfl⟩
        have key := DR.far (w := w) (A := No) (l.map f) β o cap k c t' fr (fun h => h) hw (by simpa [h1] using hl)
          (fun i x hx => by obtain ⟨a, ha, rfl⟩ := pick i x hx; exact (h2 i a ha).2.1)
          (fun i x j y hx hy => by obtain ⟨a, ha, rfl⟩ := pick i x hx; exact (cc i a j y ha hy).1)
          (fun i x j y hx hy => by obtain ⟨a, ha, rfl⟩ := pick i x hx; exact (cc i a j y ha hy).2)
        rw [List.length_map, h1] at key
        exact key
/-- The fields of a struct, from cell 'off' on, each of one cell. -/
def OpnF (enc : TypeId × Value → H) (P : Program) (w : World) (fs : List Field) (off : Nat) (f : α → List PV) (R : α → Prop) : Prop :=
  ∀ (n : Nat) (cs : List Value), (∀ (i : Nat) (fl : Field), fs[i]? = some fl → ∃ d, DataW.trod enc P w 0 (fun _ => true) true n fl.type ((cs.drop fl.offset).take (P.cellsOf fl.type)) = some d) →
    ∃ a, R a ∧ (f a).length = fs.length ∧ ∀ (j : Nat) (y : PV), (f a)[j]? = some y → DR w No y (cs.getD (off + j) undef)
theorem opnf_fld {fl : Field} {off : Nat} {f1 : α → PV} {R1 : α → Prop} (hk : P.cellsOf fl.type = 1) (ho : fl.offset = off) (hf : ∀ a, flat (f1 a) = [f1 a]) (h1 : Opn enc P w fl.type 1 f1 R1) {n : Nat} {cs : List Value} {d : DataW H × List MemPlace}
    (h : DataW.trod enc P w 0 (fun _ => true) true n fl.type ((cs.drop fl.offset).take (P.cellsOf fl.type)) = some d) : ∃ a, R1 a ∧ DR w No (f1 a) (cs.getD off undef) := by
  rw [hk, ho] at h
  obtain ⟨e, a, q1, q2, q3⟩ := h1 _ _ _ h
  refine ⟨a, q1, ?_⟩
  rw [hf] at q3
  have q4 := q3 0 _ rfl
  have e2 : ((cs.drop off).take 1).getD 0 undef = cs.getD off undef := by
    rw [List.getD_eq_getElem?_getD, List.getD_eq_getElem?_getD, List.getElem?_take_of_lt (by decide), List.getElem?_drop, Nat.add_zero]
  rw [e2] at q4
  exact q4
theorem opnf_one {fl : Field} {off : Nat} {f1 : α → PV} {R1 : α → Prop} (hk : P.cellsOf fl.type = 1) (ho : fl.offset = off) (hf : ∀ a, flat (f1 a) = [f1 a]) (h1 : Opn enc P w fl.type 1 f1 R1) : OpnF enc P w [fl] off (fun a => [f1 a]) R1 := fun n cs h => by
  obtain ⟨d, hd⟩ := h 0 fl rfl
  obtain ⟨a, q1, q2⟩ := opnf_fld hk ho hf h1 hd
  refine ⟨a, q1, rfl, fun j y hy => ?_⟩
  cases j with
  | zero => cases hy; exact q2
  | succ j => simp at hy
theorem opnf_cons {fl : Field} {fs : List Field} {off : Nat} {f1 : α → PV} {R1 : α → Prop} {f2 : β → List PV} {R2 : β → Prop} (hk : P.cellsOf fl.type = 1) (ho : fl.offset = off) (hf : ∀ a, flat (f1 a) = [f1 a]) (h1 : Opn enc P w fl.type 1 f1 R1) (h2 : OpnF enc P w fs (off + 1) f2 R2) :
    OpnF enc P w (fl :: fs) off (fun p : α × β => f1 p.1 :: f2 p.2) (fun p => R1 p.1 ∧ R2 p.2) := fun n cs h => by
  obtain ⟨d, hd⟩ := h 0 fl rfl
  obtain ⟨a, q1, q2⟩ := opnf_fld hk ho hf h1 hd
  obtain ⟨b, q3, q4, q5⟩ := h2 n cs fun i g hg => h (i + 1) g (by simpa using hg)
  refine ⟨(a, b), ⟨q1, q3⟩, by simp [q4], fun j y hy => ?_⟩
  cases j with
  | zero => cases hy; exact q2
  | succ j =>
    have := q5 j y (by simpa using hy)
    rwa [show off + 1 + j = off + (j + 1) by omega] at this
theorem opn_struct {t : TypeId} {fs : Array Field} {fl : List Field} {n : Nat} {f : α → List PV} {R : α → Prop} (ht : P.underlying t = some (.struct fs)) (hfs : fs.toList = fl) (hc : P.cellsOf t = n) (hn : fl.length = n) (h : OpnF enc P w fl 0 f R) : Opn enc P w t n (fun a => .agg (f a)) R := fun fuel cs d hd => by
  obtain ⟨xs, m, _, _, h1, h2, h3⟩ := DataW.trod_struct ht hd
  subst hfs
  obtain ⟨a, q1, q2, q3⟩ := h m cs fun i g hg => by
    have hi : i < fs.size := by simpa using (List.getElem?_eq_some_iff.1 hg).1
    rw [h3 i g (by simpa using hg), List.getElem?_eq_getElem (by omega)]
    exact ⟨_, rfl⟩
  refine ⟨h1.trans hc, a, q1, q2.trans hn, fun j y hy => ?_⟩
  have := q3 j y hy
  rwa [Nat.zero_add] at this
/-- A struct, and a slice, as an argument. -/
theorem arg_struct {t : TypeId} {n : Nat} {fs : Array Field} {f : α → List PV} {R : α → Prop} {base : Nat} {v : Value} {d : DataW H} {ps : List MemPlace} (ht : P.underlying t = some (.struct fs)) (h : Opn enc P w t n (fun a => .agg (f a)) R) (hval : Value.okWide P w .any base t v)
    (hd : DataW.Trod enc P w 0 (fun _ => true) true t v d ps) : ∃ a, R a ∧ DR w No (.agg (f a)) v := by
  obtain ⟨cs, rfl, _⟩ := okWide_struct ht hval
  obtain ⟨fuel, hf⟩ := hd
  obtain ⟨h1, a, h2, h3, h4⟩ := h _ _ _ hf
  refine ⟨a, h2, .agg _ _ ?_ fun i x hx => ?_⟩
  · have : (flat (.agg (f a))).length = (f a).length := rfl
    simp only [Value.cells] at h1
    rw [← this, h3, ← h1, Array.length_toList]
  · have := h4 i x hx
    simp only [Value.cells] at this
    rwa [List.getD_eq_getElem?_getD, Array.getElem?_toList, ← Array.getD_eq_getD_getElem?] at this
theorem arg_slice {t e : TypeId} {f : α → PV} {R : List α → Prop} {base : Nat} {v : Value} {d : DataW H} {ps : List MemPlace} (ht : P.underlying t = some (.slice e)) (h : Opn enc P w t 1 (fun l : List α => .far (l.map f)) R) (hval : Value.okWide P w .any base t v)
    (hd : DataW.Trod enc P w 0 (fun _ => true) true t v d ps) : ∃ l, R l ∧ DR w No (.far (l.map f)) v := by
  obtain ⟨a, len, cap, rfl⟩ := okWide_slice ht hval
  obtain ⟨fuel, hf⟩ := hd
  obtain ⟨h1, l, h2, h3, h4⟩ := h _ _ _ hf
  exact ⟨l, h2, h4 0 _ rfl⟩
end
end Go.Pv
