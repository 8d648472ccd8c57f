/- The texts of this claim, part 5: a small logic of plain values for the model's runs, what it says of the functions, in plain values. -/
import Derived.Shelf.Sort.Plain
import Derived.Shelf.Slices.In.SortNone
import Derived.Test.YtbjolkepjbblcaaGreatDoorProg
import Derived.Below
import Derived.ChangeArms
import Derived.ChangeShapes
import Derived.WideShapes
import Derived.Test.YtbjolkepjbblcaaGreatDoorPvE0
import Derived.Test.YtbjolkepjbblcaaGreatDoorPvE1
import Derived.Test.YtbjolkepjbblcaaGreatDoorPvE2
import Derived.Test.YtbjolkepjbblcaaGreatDoorPvE3
import Derived.Test.YtbjolkepjbblcaaGreatDoorPvE4
/- What functions of the program and of the reference do, in plain values. -/
namespace Go.Pv
open Go.Proofs Go.Mth
set_option linter.unusedSimpArgs false
set_option linter.unusedVariables false
set_option maxHeartbeats 4000000
set_option maxRecDepth 4000

/-! ### names read -/
theorem orLow_all : ∀ n < 256, (0 ≤ Go.bits .or .u8 ((n : Nat) : Int) 32 ∧ Go.bits .or .u8 ((n : Nat) : Int) 32 < 256) ∧ (97 ≤ n → n ≤ 102 → Go.bits .or .u8 ((n : Nat) : Int) 32 = ((n : Nat) : Int)) := by decide +kernel
theorem orLow (c : Int) (h0 : 0 ≤ c) (h1 : c < 256) : (0 ≤ Go.bits .or .u8 c 32 ∧ Go.bits .or .u8 c 32 < 256) ∧ (97 ≤ c → c ≤ 102 → Go.bits .or .u8 c 32 = c) := by
  obtain ⟨n, rfl⟩ := Int.eq_ofNat_of_zero_le h0
  obtain ⟨h2, h3⟩ := orLow_all n (by omega)
  exact ⟨h2, fun a b => h3 (by omega) (by omega)⟩
theorem lowerC (c : Int) : Fn Tryz.prog 205 [.int .u8 c] [] (.int .u8 (Go.bits .or .u8 c 32)) [] := by
  refine fn_x tok (n := 5) (rs := [.tmp 2]) Tryz.func205 (by decide) rfl rfl rfl rfl ?_
  refine Wr.go ?_
  repeat' ((first | (have ee := True.intro; refine Wr.mk ?_) | ((first | refine br_go ?_ ?_ | refine pick_go ?_ ?_) <;> intro ee f <;> (try simp only [BB] at f) <;> (try simp only [numOk, verOk] at f))) <;> (try simp (maxSteps := 1000000) (disch := first | omega | (simp only [LN, numOk, verOk, rfP, rvP, rhP, frP, bkd] <;> omega) | exact Ck.mk rfl) only [ee, VC, T, Nat.reduceMul, Nat.reduceAdd, Nat.reduceSub, Nat.reduceLT, Nat.reduceEqDiff, Nat.reduceLeDiff, Nat.reduceBEq, reduceCtorEq, Int.reduceToNat, ↓reduceIte, rfP, rvP, rhP, frP, bkd]) <;> (try clear ee))
theorem pow16_le : ∀ i : Nat, i ≤ 7 → (16 : Int) ^ i ≤ 268435456
  | 0, _ | 1, _ | 2, _ | 3, _ | 4, _ | 5, _ | 6, _ | 7, _ => by decide
  | n + 8, h => by omega
theorem hexN_step (n : Int) (l : List Int) (i : Nat) (h : i < l.length) : hexN n (l.drop i) = if 0 ≤ hexV (l.getD i default) then hexN (16 * n + hexV (l.getD i default)) (l.drop (i + 1)) else none := by
  rw [List.drop_eq_getElem_cons h, List.getD_eq_getElem?_getD, List.getElem?_eq_getElem h]; rfl
theorem hexV_dig (c : Int) (h : 48 ≤ c) (h2 : c ≤ 57) : hexV c = c - 48 := if_pos ⟨h, h2⟩
theorem hexV_small (c : Int) (h : 97 ≤ c) (h2 : c ≤ 102) : hexV c = c - 87 := by unfold hexV; rw [if_neg (by omega), if_pos ⟨h, h2⟩]
theorem hexV_let (c : Int) (h : 0 ≤ hexV c) (h2 : ¬ (48 ≤ c ∧ c ≤ 57)) : 97 ≤ c ∧ c ≤ 102 ∧ hexV c = c - 87 := by
  unfold hexV at *
  rw [if_neg h2] at *
  split at h
  · rename_i h3; rw [if_pos h3]; exact ⟨h3.1, h3.2, rfl⟩
  · omega
/-- What a number is read as. -/
def PuR (s : ByteArray) (t : TypeId) (r : PV) : Prop := (∃ m : Int, r = .tup [.int .u64 m, .raw .nilIface] ∧ (0 ≤ m ∧ m < 4294967296) ∧ ∀ k, hexN 0 (bytesOf s) = some k → m = k) ∨ (hexN 0 (bytesOf s) = none ∧ r = .tup [.int .u64 0, .raw (.iface t (.int .i64 2))])
theorem hex_bad {s : ByteArray} {n : Int} {i : Nat} (hi : i < (bytesOf s).length) (h : ∀ k, hexN 0 (bytesOf s) = some k → hexN n ((bytesOf s).drop i) = some k) (hb : ¬ 0 ≤ hexV ((bytesOf s).getD i default)) : hexN 0 (bytesOf s) = none := by
  cases hx : hexN 0 (bytesOf s) with
  | none => rfl
  | some k =>
    have := h k hx
    rw [hexN_step n _ i hi, if_neg hb] at this
    cases this
set_option maxRecDepth 20000 in
theorem parseIn (s : ByteArray) (hs : s.size = 8) : FnV Tryz.prog 166 [.str s, .int .i64 16, .int .i64 32] (PuR s 201) := by
  have hlb : (bytesOf s).length = 8 := by rw [bytesOf_length]; exact hs
  have hby := bytesOf_range s
  refine fn_v tok (n := 172) (rs := [.tmp 6, .tmp 7]) Tryz.func166 (by decide) rfl rfl rfl rfl ?_
  refine Wr.go ?_
  repeat' ((first | (have ee := True.intro; refine Wr.mk ?_) | ((first | refine br_go ?_ ?_ | refine pick_go ?_ ?_) <;> intro ee f <;> (try simp only [BB] at f) <;> (try simp only [numOk, verOk] at f))) <;> (try simp (maxSteps := 1000000) (disch := first | omega | (simp only [LN, numOk, verOk, rfP, rvP, rhP, frP, bkd] <;> omega) | exact Ck.mk rfl) only [ee, VC, T, Nat.reduceMul, Nat.reduceAdd, Nat.reduceSub, Nat.reduceLT, Nat.reduceEqDiff, Nat.reduceLeDiff, Nat.reduceBEq, reduceCtorEq, Int.reduceToNat, ↓reduceIte, rfP, rvP, rhP, frP, bkd]) <;> (try clear ee))
  · rw [f] at hs; cases hs
  · refine lp_go (fun x : Int × Nat => ⟨172, [(0, .str s), (1, .int .i64 16), (2, .int .i64 32), (8, .bool false), (9, .str s), (10, .int .u64 1152921504606846976), (11, .int .u64 4294967295), (12, .bool false), (13, .int .u64 x.1), (99, .row 6400 8), (100, .int .i64 8), (101, .int .i64 x.2)], [(6400, .row ⟨1, 0⟩ ((bytesOf s).map (.int .u8)))]⟩) (fun x => x.2 ≤ 8 ∧ (0 ≤ x.1 ∧ x.1 < 16 ^ x.2) ∧ ∀ k, hexN 0 (bytesOf s) = some k → hexN x.1 ((bytesOf s).drop x.2) = some k) (fun x => 8 - x.2) (0, 0) ?_ ⟨Nat.zero_le _, ⟨by decide, by decide⟩, fun k h => h⟩ ?_
    · (simp (disch := first | omega | (simp only [LN, numOk, verOk] <;> omega) | exact Ck.mk rfl) only [SB, EQ, Nat.reduceMul, Nat.reduceAdd, Nat.reduceSub, Nat.reduceLT, Nat.reduceEqDiff, Nat.reduceLeDiff, Nat.reduceBEq, reduceCtorEq, Int.reduceToNat, ↓reduceIte]; try omega)
      exact ⟨by decide, by decide, hs, by rw [hlb]; rfl⟩
    · rintro ⟨n, i⟩ ⟨h1, ⟨h2, h3⟩, h4⟩ N hN
      simp only at h1 h2 h3 h4 hN
      have hp : i < 8 → n < 268435456 := fun h => by have := pow16_le i (by omega); omega
      have hps : (16 : Int) ^ (i + 1) = 16 ^ i * 16 := Int.pow_succ 16 i
      have hlt : ∀ d : Int, 0 ≤ d → d < 16 → 0 ≤ 16 * n + d ∧ 16 * n + d < 16 ^ (i + 1) := fun d q0 q1 => by
        rw [hps]
        generalize (16 : Int) ^ i = p at *
        omega
      have hc : i < 8 → 0 ≤ (bytesOf s).getD i default ∧ (bytesOf s).getD i default < 256 := fun h => by
        have := hby _ (getD_mem (bytesOf s) i (by omega))
        omega
      have hnx : i < 8 → ∀ d : Int, (0 ≤ hexV ((bytesOf s).getD i default) → hexV ((bytesOf s).getD i default) = d) → ∀ k, hexN 0 (bytesOf s) = some k → hexN (16 * n + d) ((bytesOf s).drop (i + 1)) = some k := fun hi d hd k hk => by
        have := h4 k hk
        rw [hexN_step n (bytesOf s) i (by omega)] at this
        split at this
        · rename_i hq; rw [hd hq] at this; exact this
        · cases this
      have hbad := fun h => hex_bad (s := s) (n := n) (i := i) h h4
      generalize hcc : (bytesOf s).getD i default = c at *
      have hlw := lowerC c
      have hor := fun h : i < 8 => orLow c (hc h).1 (hc h).2
      generalize Go.bits .or .u8 c 32 = w at *
      have m1 : (16 : Int) % 256 = 16 := by decide
      have m2 : (16 : Int) % 18446744073709551616 = 16 := by decide
      refine Wr.go ?_
      repeat' ((first | (have ee := True.intro; refine Wr.mk ?_) | ((first | refine br_go ?_ ?_ | refine pick_go ?_ ?_) <;> intro ee f <;> (try simp only [BB] at f) <;> (try simp only [numOk, verOk] at f)) | (have ee := True.intro; first | refine call_x (hlw) rfl ⟨rfl⟩ ?_)) <;> (try simp (maxSteps := 1000000) (disch := first | omega | (simp only [LN, numOk, verOk, rfP, rvP, rhP, frP, bkd, hlb, hcc, m1, m2] <;> omega) | exact Ck.mk rfl) only [ee, VC, T, Nat.reduceMul, Nat.reduceAdd, Nat.reduceSub, Nat.reduceLT, Nat.reduceEqDiff, Nat.reduceLeDiff, Nat.reduceBEq, reduceCtorEq, Int.reduceToNat, ↓reduceIte, rfP, rvP, rhP, frP, bkd, hlb, hcc, m1, m2]) <;> (try clear ee))
      all_goals first
        | (exfalso; have := hp (by omega); have := hc (by omega); omega)
        | (refine .inr ⟨hbad (by omega) (fun h => ?_), rfl⟩
           have q1 := hexV_let c h (by omega)
           have q2 := (hor (by omega)).2 q1.1 q1.2.1
           omega)
        | (refine hN (16 * n + (c - 48), i + 1) _ ⟨by simp only; omega, hlt _ (by omega) (by omega), hnx (by omega) _ (fun _ => hexV_dig c (by omega) (by omega))⟩ (by simp only; omega) ?_
           have := hp (by omega)
           (simp (disch := first | omega | (simp only [LN, numOk, verOk] <;> omega) | exact Ck.mk rfl) only [SB, EQ, Nat.reduceMul, Nat.reduceAdd, Nat.reduceSub, Nat.reduceLT, Nat.reduceEqDiff, Nat.reduceLeDiff, Nat.reduceBEq, reduceCtorEq, Int.reduceToNat, ↓reduceIte]; try omega))
        | (refine hN (16 * n + ((w - 97) % 256 + 10), i + 1) _ ⟨by simp only; omega, hlt _ (by omega) (by omega), hnx (by omega) _ (fun h => ?_)⟩ (by simp only; omega) ?_
           · have q1 := hexV_let c h (by omega)
             have q2 := (hor (by omega)).2 q1.1 q1.2.1
             rw [q1.2.2]
             omega
           · have := hp (by omega)
             have := hor (by omega)
             (simp (disch := first | omega | (simp only [LN, numOk, verOk] <;> omega) | exact Ck.mk rfl) only [SB, EQ, Nat.reduceMul, Nat.reduceAdd, Nat.reduceSub, Nat.reduceLT, Nat.reduceEqDiff, Nat.reduceLeDiff, Nat.reduceBEq, reduceCtorEq, Int.reduceToNat, ↓reduceIte]; try omega))
        | (obtain rfl : i = 8 := by omega
           refine .inl ⟨n, rfl, ⟨h2, h3⟩, fun k hk => ?_⟩
           have := h4 k hk
           rw [List.drop_eq_nil_of_le (by omega)] at this
           exact Option.some.inj this)
theorem digits_cut (b : ByteArray) : bytesOf (b.extract 1 9) = digits b := by
  rw [bytesOf_extract]
  unfold digits
  rw [List.drop_take]
theorem toErr_ent : Ent Tryz.prog 167 := fun vs w => by
  simp [callFunc, Tryz.func167, show (Tryz.f167).name ≠ "runtime.NumGoroutine" by decide, show (Tryz.f167).body = some _ from rfl]
theorem toErr (fn s : ByteArray) (b c : Int) (hs : s.size ≤ 281474976710656) : Fn Tryz.prog 167 [.str fn, .str s, .int .i64 b, .int .i64 c, .raw (.iface 201 (.int .i64 2))] [] (.ifc 203) [] := by
  refine ⟨toErr_ent, fun w V Γ vs hV hvs hargs hhr hd => ?_⟩
  obtain ⟨l⟩ := vs
  match l, hvs, hargs with
  | [a0, a1, a2, a3, a4], _, hargs =>
  obtain rfl : a0 = .string fn := vr_str (hargs 0 _ rfl)
  obtain rfl : a1 = .string s := vr_str (hargs 1 _ rfl)
  obtain rfl : a2 = .int .i64 b := vr_int (hargs 2 _ rfl)
  obtain rfl : a3 = .int .i64 c := vr_int (hargs 3 _ rfl)
  obtain rfl : a4 = .iface 201 (.int .i64 2) := by
    have := hargs 4 _ rfl
    cases this with
    | data h => cases h; rfl
  obtain ⟨_, _, cc, ee, fr, hw, hcells⟩ := hV.2 0 glob0 rfl
  obtain ⟨hj, hdr⟩ := hcells 0 _ rfl
  obtain ⟨u, hu⟩ : ∃ u, cc.getD 0 undef = .iface 243 u := by
    have := hdr w V
    generalize cc.getD 0 undef = q at *
    cases this with
    | ifc _ u => exact ⟨u, rfl⟩
  have hcell : w.cell? ⟨0, 0, none⟩ = some (.iface 243 u) := by rw [box_cell hw hj, hu]
  refine (Tryz.strconv_toError_syntax fn s b c _ w hs hcell (.inr ⟨_, _, rfl⟩)).mono ?_
  rintro e w' ⟨N, rfl, h1, h2, hb⟩
  exact ⟨_, Γ, rfl, ⟨hb.os, hb.tape, hb.output, hb.size, fun k hk _ => hb.block k hk⟩, .data (.ifc _ _), fun _ => trivial, fun k _ _ l => l.elim, fun b ⟨k, l, _⟩ => l.elim, fun k l => l.elim⟩
theorem parseU (s : ByteArray) (hs : s.size = 8) : FnV Tryz.prog 128 [.str s, .int .i64 16, .int .i64 32] (fun r => (∃ m : Int, r = .tup [.int .u64 m, .raw .nilIface] ∧ (0 ≤ m ∧ m < 4294967296) ∧ ∀ k, hexN 0 (bytesOf s) = some k → m = k) ∨ (hexN 0 (bytesOf s) = none ∧ r = .tup [.int .u64 0, .ifc 203])) := by
  refine fn_v tok (n := 26) (rs := [.tmp 6, .tmp 7]) Tryz.func128 (by decide) rfl rfl rfl rfl ?_
  refine Wr.go ?_
  repeat' ((first | (have ee := True.intro; refine Wr.mk ?_) | ((first | refine br_go ?_ ?_ | refine pick_go ?_ ?_) <;> intro ee f <;> (try simp only [BB] at f) <;> (try simp only [numOk, verOk] at f))) <;> (try simp (maxSteps := 1000000) (disch := first | omega | (simp only [LN, numOk, verOk, rfP, rvP, rhP, frP, bkd] <;> omega) | exact Ck.mk rfl) only [ee, VC, T, Nat.reduceMul, Nat.reduceAdd, Nat.reduceSub, Nat.reduceLT, Nat.reduceEqDiff, Nat.reduceLeDiff, Nat.reduceBEq, reduceCtorEq, Int.reduceToNat, ↓reduceIte, rfP, rvP, rhP, frP, bkd]) <;> (try clear ee))
  refine call_v (parseIn s hs) rfl ?_
  rintro _ (⟨m, rfl, h1, h2⟩ | ⟨h1, rfl⟩) <;> refine ⟨⟨rfl⟩, ?_⟩
  · refine Wr.go ?_
    repeat' ((first | (have ee := True.intro; refine Wr.mk ?_) | ((first | refine br_go ?_ ?_ | refine pick_go ?_ ?_) <;> intro ee f <;> (try simp only [BB] at f) <;> (try simp only [numOk, verOk] at f))) <;> (try simp (maxSteps := 1000000) (disch := first | omega | (simp only [LN, numOk, verOk, rfP, rvP, rhP, frP, bkd] <;> omega) | exact Ck.mk rfl) only [ee, VC, T, Nat.reduceMul, Nat.reduceAdd, Nat.reduceSub, Nat.reduceLT, Nat.reduceEqDiff, Nat.reduceLeDiff, Nat.reduceBEq, reduceCtorEq, Int.reduceToNat, ↓reduceIte, rfP, rvP, rhP, frP, bkd]) <;> (try clear ee))
    exact .inl ⟨m, rfl, h1, h2⟩
  · refine Wr.go ?_
    repeat' ((first | (have ee := True.intro; refine Wr.mk ?_) | ((first | refine br_go ?_ ?_ | refine pick_go ?_ ?_) <;> intro ee f <;> (try simp only [BB] at f) <;> (try simp only [numOk, verOk] at f)) | (have ee := True.intro; first | refine call_x (toErr _ s _ _ (by omega)) rfl ⟨rfl⟩ ?_)) <;> (try simp (maxSteps := 1000000) (disch := first | omega | (simp only [LN, numOk, verOk, rfP, rvP, rhP, frP, bkd] <;> omega) | exact Ck.mk rfl) only [ee, VC, T, Nat.reduceMul, Nat.reduceAdd, Nat.reduceSub, Nat.reduceLT, Nat.reduceEqDiff, Nat.reduceLeDiff, Nat.reduceBEq, reduceCtorEq, Int.reduceToNat, ↓reduceIte, rfP, rvP, rhP, frP, bkd]) <;> (try clear ee))
    try exact .inr ⟨h1, rfl⟩
theorem nameOf_no (b : ByteArray) (h : hexN 0 (digits b) = none) : nameOf b = (0, 0) := by
  unfold nameOf; rw [h]
theorem nameOf_some (b : ByteArray) (m : Int) (h : ∀ k, hexN 0 (digits b) = some k → m = k) : nameOf b = if segT m = b ∧ numOk m then (1, m) else if tmpT m = b ∧ numOk m then (2, m) else (0, 0) := by
  by_cases h1 : segT m = b ∧ numOk m
  · rw [if_pos h1, ← h1.1, nameOf_seg m h1.2]
  · rw [if_neg h1]
    by_cases h2 : tmpT m = b ∧ numOk m
    · rw [if_pos h2, ← h2.1, nameOf_tmp m h2.2]
    · rw [if_neg h2]
      refine nameOf_other b (fun n hn e => ?_) (fun n hn e => ?_)
      · have := h n (by rw [e, digits_seg n hn, hexN_8 n hn])
        subst this
        exact h1 ⟨e.symm, hn⟩
      · have := h n (by rw [e, digits_tmp n hn, hexN_8 n hn])
        subst this
        exact h2 ⟨e.symm, hn⟩
theorem nameOf_short (b : ByteArray) (h : b.size < 13) : nameOf b = (0, 0) :=
  nameOf_other b (fun n hn e => by rw [e, segT_size n hn] at h; omega) (fun n hn e => by rw [e, tmpT_size n hn] at h; omega)
theorem nameOf_long (b : ByteArray) (h : 17 < b.size) : nameOf b = (0, 0) :=
  nameOf_other b (fun n hn e => by rw [e, segT_size n hn] at h; omega) (fun n hn e => by rw [e, tmpT_size n hn] at h; omega)
theorem impl_ReadName (b : ByteArray) (hb : b.size ≤ 1048576) : Fn Tryz.prog 77 [.str b] [] (.tup [.int .i64 (nameOf b).1, .int .i64 (nameOf b).2]) [] := by
  have hsh := nameOf_short b
  have hno := nameOf_no b
  have hso := nameOf_some b
  have hdc := digits_cut b
  have hes : ¬ (b.size : Int) < 9 → (b.extract 1 9).size = 8 := fun h => by rw [ByteArray.size_extract]; omega
  generalize nameOf b = q at *
  obtain ⟨k, n⟩ := q
  generalize digits b = dg at *
  refine fn_x tok (n := 38) (rs := [.tmp 2, .tmp 3]) Tryz.func77 (by decide) rfl rfl rfl rfl ?_
  refine Wr.go ?_
  repeat' ((first | (have ee := True.intro; refine Wr.mk ?_) | ((first | refine br_go ?_ ?_ | refine pick_go ?_ ?_) <;> intro ee f <;> (try simp only [BB] at f) <;> (try simp only [numOk, verOk] at f))) <;> (try simp (maxSteps := 1000000) (disch := first | omega | (simp only [LN, numOk, verOk, rfP, rvP, rhP, frP, bkd] <;> omega) | exact Ck.mk rfl) only [ee, VC, T, Nat.reduceMul, Nat.reduceAdd, Nat.reduceSub, Nat.reduceLT, Nat.reduceEqDiff, Nat.reduceLeDiff, Nat.reduceBEq, reduceCtorEq, Int.reduceToNat, ↓reduceIte, rfP, rvP, rhP, frP, bkd]) <;> (try clear ee))
  · have := hsh (by omega)
    cases this; rfl
  · have hs8 := hes (by omega)
    generalize b.extract 1 9 = s8 at *
    refine call_v (parseU s8 hs8) rfl ?_
    rintro _ (⟨m, rfl, h1, h2⟩ | ⟨h1, rfl⟩) <;> refine ⟨⟨rfl⟩, ?_⟩
    · rw [hdc] at h2
      have hS := impl_SegmentName m ⟨by omega, by omega⟩
      have hT := impl_TempName m ⟨by omega, by omega⟩
      have hso := hso m h2
      have hn : numOk m ↔ 0 ≤ m ∧ m ≤ 1000000000 := Iff.rfl
      generalize segT m = st at *
      generalize tmpT m = tt at *
      refine Wr.go ?_
      repeat' ((first | (have ee := True.intro; refine Wr.mk ?_) | ((first | refine br_go ?_ ?_ | refine pick_go ?_ ?_) <;> intro ee f <;> (try simp only [BB] at f) <;> (try simp only [numOk, verOk] at f)) | (have ee := True.intro; first | refine call_x (impl_isNumber m) rfl ⟨rfl⟩ ?_ | refine call_x (hS) rfl ⟨rfl⟩ ?_ | refine call_x (hT) rfl ⟨rfl⟩ ?_)) <;> (try simp (maxSteps := 1000000) (disch := first | omega | (simp only [LN, numOk, verOk, rfP, rvP, rhP, frP, bkd] <;> omega) | exact Ck.mk rfl) only [ee, VC, T, Nat.reduceMul, Nat.reduceAdd, Nat.reduceSub, Nat.reduceLT, Nat.reduceEqDiff, Nat.reduceLeDiff, Nat.reduceBEq, reduceCtorEq, Int.reduceToNat, ↓reduceIte, rfP, rvP, rhP, frP, bkd]) <;> (try clear ee))
      · rename_i f0
        rw [if_pos ⟨f.symm, f0⟩] at hso
        cases hso; rfl
      · rename_i f0 f1
        rw [if_neg (fun e => f1 e.1.symm), if_pos ⟨f.symm, f0⟩] at hso
        cases hso; rfl
      · rename_i f0 f1
        rw [if_neg (fun e => f1 e.1.symm), if_neg (fun e => f e.1.symm)] at hso
        cases hso; rfl
      · rw [if_neg (fun e => f e.2), if_neg (fun e => f e.2)] at hso
        cases hso; rfl
    · rw [hdc] at h1
      have := hno h1
      cases this
      refine Wr.go ?_
      repeat' ((first | (have ee := True.intro; refine Wr.mk ?_) | ((first | refine br_go ?_ ?_ | refine pick_go ?_ ?_) <;> intro ee f <;> (try simp only [BB] at f) <;> (try simp only [numOk, verOk] at f))) <;> (try simp (maxSteps := 1000000) (disch := first | omega | (simp only [LN, numOk, verOk, rfP, rvP, rhP, frP, bkd] <;> omega) | exact Ck.mk rfl) only [ee, VC, T, Nat.reduceMul, Nat.reduceAdd, Nat.reduceSub, Nat.reduceLT, Nat.reduceEqDiff, Nat.reduceLeDiff, Nat.reduceBEq, reduceCtorEq, Int.reduceToNat, ↓reduceIte, rfP, rvP, rhP, frP, bkd]) <;> (try clear ee))
theorem spec_ReadName (b : ByteArray) (hb : b.size ≤ 1048576) : Fn Tryz.prog 75 [.str b] [] (.tup [.int .i64 (nameOf b).1, .int .i64 (nameOf b).2]) [] := by
  have hsh := nameOf_short b
  have hlg := nameOf_long b
  have hno := nameOf_no b
  have hso := nameOf_some b
  have hdl : (13 : Int) ≤ b.size → (digits b).length = 8 := fun h => by
    unfold digits
    rw [List.length_take, List.length_drop, bytesOf_length]; omega
  have hbt : (13 : Int) ≤ b.size → ∀ i : Nat, i < 8 → bt b (((i + 1 : Nat)) : Int) = (digits b).getD i default := fun h i hi => by
    rw [← rd_bytesOf]
    unfold digits rd
    rw [Int.toNat_natCast, List.getD_eq_getElem?_getD, List.getD_eq_getElem?_getD, List.getElem?_take, if_pos hi, List.getElem?_drop, Nat.add_comm 1 i]
    rfl
  generalize nameOf b = q at *
  obtain ⟨k, n⟩ := q
  generalize digits b = dg at *
  refine fn_x tok (n := 45) (rs := [.tmp 2, .tmp 3]) Tryz.func75 (by decide) rfl rfl rfl rfl ?_
  refine Wr.go ?_
  repeat' ((first | (have ee := True.intro; refine Wr.mk ?_) | ((first | refine br_go ?_ ?_ | refine pick_go ?_ ?_) <;> intro ee f <;> (try simp only [BB] at f) <;> (try simp only [numOk, verOk] at f)) | (have ee := True.intro; first | refine call_x (spec_l01In _ _ _) rfl ⟨rfl⟩ ?_)) <;> (try simp (maxSteps := 1000000) (disch := first | omega | (simp only [LN, numOk, verOk, rfP, rvP, rhP, frP, bkd] <;> omega) | exact Ck.mk rfl) only [ee, VC, T, Nat.reduceMul, Nat.reduceAdd, Nat.reduceSub, Nat.reduceLT, Nat.reduceEqDiff, Nat.reduceLeDiff, Nat.reduceBEq, reduceCtorEq, Int.reduceToNat, ↓reduceIte, rfP, rvP, rhP, frP, bkd]) <;> (try clear ee))
  · refine lp_go (fun x : Int × Nat => ⟨45, [(0, .str b), (4, .int .i64 x.1), (5, .int .i64 (x.2 + 1))], []⟩) (fun x => x.2 ≤ 8 ∧ (0 ≤ x.1 ∧ x.1 < 16 ^ x.2) ∧ hexN 0 dg = hexN x.1 (dg.drop x.2)) (fun x => 8 - x.2) (0, 0) ?_ ⟨Nat.zero_le _, ⟨by decide, by decide⟩, rfl⟩ ?_
    · (simp (disch := first | omega | (simp only [LN, numOk, verOk] <;> omega) | exact Ck.mk rfl) only [SB, EQ, Nat.reduceMul, Nat.reduceAdd, Nat.reduceSub, Nat.reduceLT, Nat.reduceEqDiff, Nat.reduceLeDiff, Nat.reduceBEq, reduceCtorEq, Int.reduceToNat, ↓reduceIte]; try omega)
    · rintro ⟨m, i⟩ ⟨h1, ⟨h2, h3⟩, h4⟩ N hN
      simp only at h1 h2 h3 h4 hN
      have hdl := hdl (by omega)
      have hp : i < 8 → m < 268435456 := fun h => by have := pow16_le i (by omega); omega
      have hps : (16 : Int) ^ (i + 1) = 16 ^ i * 16 := Int.pow_succ 16 i
      have hlt : ∀ d : Int, 0 ≤ d → d < 16 → 0 ≤ 16 * m + d ∧ 16 * m + d < 16 ^ (i + 1) := fun d q0 q1 => by
        rw [hps]
        generalize (16 : Int) ^ i = p at *
        omega
      have hst : i < 8 → _ := fun h => hexN_step m dg i (by omega)
      have hbi : i < 8 → bt b ((i : Int) + 1) = dg.getD i default := fun h => by have := hbt (by omega) i h; rwa [Int.natCast_add] at this
      have hcr : i < 8 → 0 ≤ bt b ((i : Int) + 1) ∧ bt b ((i : Int) + 1) < 256 := fun _ => ⟨by unfold bt; omega, by unfold bt; have := (b8 b ((i : Int) + 1).toNat).toNat_lt; omega⟩
      generalize dg.getD i default = c at *
      have hcw : i < 8 → IntKind.i64.wrap c = c := fun h => by
        have h1 := hbi h
        have h2 := hcr h
        rw [h1] at h2
        exact wr64 c h2.1 (by omega)
      by_cases h8 : i < 8
      · have hst := hst h8
        refine Wr.go ?_
        repeat' ((first | (have ee := True.intro; refine Wr.mk ?_) | ((first | refine br_go ?_ ?_ | refine pick_go ?_ ?_) <;> intro ee f <;> (try simp only [BB] at f) <;> (try simp only [numOk, verOk] at f)) | (have ee := True.intro; first | refine call_x (spec_l01In _ _ _) rfl ⟨rfl⟩ ?_)) <;> (try simp (maxSteps := 1000000) (disch := first | omega | (simp only [LN, numOk, verOk, rfP, rvP, rhP, frP, bkd, hbi, hcw] <;> omega) | exact Ck.mk rfl) only [ee, VC, T, Nat.reduceMul, Nat.reduceAdd, Nat.reduceSub, Nat.reduceLT, Nat.reduceEqDiff, Nat.reduceLeDiff, Nat.reduceBEq, reduceCtorEq, Int.reduceToNat, ↓reduceIte, rfP, rvP, rhP, frP, bkd, hbi, hcw]) <;> (try clear ee))
        · rw [hexV_dig c (by omega) (by omega), if_pos (by omega)] at hst
          refine hN (16 * m + (c - 48), i + 1) _ ⟨by simp only; omega, hlt _ (by omega) (by omega), h4.trans hst⟩ (by simp only; omega) ?_
          have := hp h8
          (simp (disch := first | omega | (simp only [LN, numOk, verOk] <;> omega) | exact Ck.mk rfl) only [SB, EQ, Nat.reduceMul, Nat.reduceAdd, Nat.reduceSub, Nat.reduceLT, Nat.reduceEqDiff, Nat.reduceLeDiff, Nat.reduceBEq, reduceCtorEq, Int.reduceToNat, ↓reduceIte]; try omega)
        · rw [hexV_small c (by omega) (by omega), if_pos (by omega)] at hst
          refine hN (16 * m + (c - 87), i + 1) _ ⟨by simp only; omega, hlt _ (by omega) (by omega), h4.trans hst⟩ (by simp only; omega) ?_
          have := hp h8
          (simp (disch := first | omega | (simp only [LN, numOk, verOk] <;> omega) | exact Ck.mk rfl) only [SB, EQ, Nat.reduceMul, Nat.reduceAdd, Nat.reduceSub, Nat.reduceLT, Nat.reduceEqDiff, Nat.reduceLeDiff, Nat.reduceBEq, reduceCtorEq, Int.reduceToNat, ↓reduceIte]; try omega)
        · rw [if_neg (fun h => by have := hexV_let c h (by omega); omega)] at hst
          have := hno (h4.trans hst)
          cases this; rfl
      · obtain rfl : i = 8 := by omega
        have h5 : hexN 0 dg = some m := by rw [h4, List.drop_eq_nil_of_le (by omega)]; rfl
        have hso := hso m (fun k hk => by rw [h5] at hk; exact Option.some.inj hk)
        have hb8 : m < 4294967296 := h3
        have hS := spec_SegmentName m ⟨by omega, by omega⟩
        have hT := spec_TempName m ⟨by omega, by omega⟩
        have hne : ¬ numOk m → segT m = ⟨#[]⟩ ∧ tmpT m = ⟨#[]⟩ := fun h => ⟨if_neg h, if_neg h⟩
        have hbe : ¬ (⟨#[]⟩ : ByteArray) = b := fun h => by have h9 := congrArg ByteArray.size h; have h0 : (⟨#[]⟩ : ByteArray).size = 0 := rfl; omega
        generalize segT m = st at *
        generalize tmpT m = tt at *
        refine Wr.go ?_
        repeat' ((first | (have ee := True.intro; refine Wr.mk ?_) | ((first | refine br_go ?_ ?_ | refine pick_go ?_ ?_) <;> intro ee f <;> (try simp only [BB] at f) <;> (try simp only [numOk, verOk] at f)) | (have ee := True.intro; first | refine call_x (hS) rfl ⟨rfl⟩ ?_ | refine call_x (hT) rfl ⟨rfl⟩ ?_)) <;> (try simp (maxSteps := 1000000) (disch := first | omega | (simp only [LN, numOk, verOk, rfP, rvP, rhP, frP, bkd] <;> omega) | exact Ck.mk rfl) only [ee, VC, T, Nat.reduceMul, Nat.reduceAdd, Nat.reduceSub, Nat.reduceLT, Nat.reduceEqDiff, Nat.reduceLeDiff, Nat.reduceBEq, reduceCtorEq, Int.reduceToNat, ↓reduceIte, rfP, rvP, rhP, frP, bkd]) <;> (try clear ee))
        · have hn : numOk m := Decidable.byContradiction fun h => by
            have := (hne h).1
            rw [this] at f
            exact hbe f
          rw [if_pos ⟨f, hn⟩] at hso
          cases hso; rfl
        · rename_i f0
          have hn : numOk m := Decidable.byContradiction fun h => by
            have := (hne h).2
            rw [this] at f
            exact hbe f
          rw [if_neg (fun e => f0 e.1), if_pos ⟨f, hn⟩] at hso
          cases hso; rfl
        · rename_i f0
          rw [if_neg (fun e => f0 e.1), if_neg (fun e => f e.1)] at hso
          cases hso; rfl
  · by_cases h13 : b.size < 13
    · have := hsh h13
      cases this; rfl
    · have := hlg (by omega)
      cases this; rfl
end Go.Pv

/- What functions of the program and of the reference do, in plain values. -/
namespace Go.Pv
open Go.Proofs Go.Mth
set_option linter.unusedSimpArgs false
set_option linter.unusedVariables false
set_option maxHeartbeats 4000000
set_option maxRecDepth 4000

/-! ### names of a disk -/
def namesT (d : Dk) : List ByteArray := d.2.1.map (·.1)
theorem namesT_len (d : Dk) : (namesT d).length = d.2.1.length := List.length_map _
theorem namesT_le {d : Dk} (h : DkOk d) : ∀ b ∈ namesT d, b.size ≤ 1048576 := fun b hb => by
  obtain ⟨e, he, rfl⟩ := List.mem_map.1 hb
  exact h.et e he
theorem impl_FileNames_R (d : Dk) (h : DkOk d) : FnE Tryz.prog 76 [dkP d] [] (fun r m => r = .row 64 (namesT d).length ∧ m = [(64, .row ⟨1, 0⟩ ((namesT d).map .str))]) := by
  have hes := h.es
  obtain ⟨ns, es, os, ss, r, x⟩ := d
  simp only [namesT] at *
  unfold dkP
  refine fn_e tok (n := 21) (rs := [.tmp 2]) Tryz.func76 (by decide) rfl rfl rfl rfl (low_of rfl) ?_
  refine Wr.go ?_
  repeat' ((first | (have ee := True.intro; refine Wr.mk ?_) | ((first | refine br_go ?_ ?_ | refine pick_go ?_ ?_) <;> intro ee f <;> (try simp only [BB] at f) <;> (try simp only [numOk, verOk] at f))) <;> (try simp (maxSteps := 1000000) (disch := first | omega | (simp only [LN, numOk, verOk, rfP, rvP, rhP, frP, bkd] <;> omega) | exact Ck.mk rfl) only [ee, VC, T, Nat.reduceMul, Nat.reduceAdd, Nat.reduceSub, Nat.reduceLT, Nat.reduceEqDiff, Nat.reduceLeDiff, Nat.reduceBEq, reduceCtorEq, Int.reduceToNat, ↓reduceIte, rfP, rvP, rhP, frP, bkd]) <;> (try clear ee))
  refine lp_go (fun i : Nat => ⟨21, [(3, .row 448 i), (8, .far (es.map enP)), (9, .int .i64 es.length), (10, .int .i64 i)], [(448, .row ⟨1, 0⟩ (((es.map (·.1)).take i).map .str))]⟩) (fun i => i ≤ es.length) (fun i => es.length - i) 0 ?_ (Nat.zero_le _) ?_
  · (simp (disch := first | omega | (simp only [LN, numOk, verOk] <;> omega) | exact Ck.mk rfl) only [SB, EQ, Nat.reduceMul, Nat.reduceAdd, Nat.reduceSub, Nat.reduceLT, Nat.reduceEqDiff, Nat.reduceLeDiff, Nat.reduceBEq, reduceCtorEq, Int.reduceToNat, ↓reduceIte]; try omega)
    rfl
  · intro i hi N hN
    have hg : i < es.length → (es.map enP).getD i .junk = .agg [.str (es.getD i default).1, .int .i64 (es.getD i default).2] := fun h => by
      rw [List.getD_eq_getElem?_getD, List.getElem?_map, List.getElem?_eq_getElem h, List.getD_eq_getElem?_getD, List.getElem?_eq_getElem h]; rfl
    have ht : ((es.map (·.1)).take i).length = i := by rw [List.length_take, List.length_map]; omega
    have hsn : i < es.length → ((es.map (·.1)).take (i + 1)).map PV.str = ((es.map (·.1)).take i).map PV.str ++ [.str (es.getD i default).1] := fun h => by
      rw [take_snoc default (es.map (·.1)) i (by rw [List.length_map]; exact h), List.map_append]
      have : rdOf default (es.map (·.1)) (i : Int) = (es.getD i default).1 := by
        show (es.map (·.1)).getD i default = _
        rw [List.getD_eq_getElem?_getD, List.getElem?_map, List.getElem?_eq_getElem h, List.getD_eq_getElem?_getD, List.getElem?_eq_getElem h]; rfl
      rw [this]; rfl
    refine Wr.go ?_
    repeat' ((first | (have ee := True.intro; refine Wr.mk ?_) | ((first | refine br_go ?_ ?_ | refine pick_go ?_ ?_) <;> intro ee f <;> (try simp only [BB] at f) <;> (try simp only [numOk, verOk] at f))) <;> (try simp (maxSteps := 1000000) (disch := first | omega | (simp only [LN, numOk, verOk, rfP, rvP, rhP, frP, bkd, hg, ht] <;> omega) | exact Ck.mk rfl) only [ee, VC, T, Nat.reduceMul, Nat.reduceAdd, Nat.reduceSub, Nat.reduceLT, Nat.reduceEqDiff, Nat.reduceLeDiff, Nat.reduceBEq, reduceCtorEq, Int.reduceToNat, ↓reduceIte, rfP, rvP, rhP, frP, bkd, hg, ht]) <;> (try clear ee))
    · refine hN (i + 1) _ (by omega) (by omega) ?_
      rw [hsn (by omega)]
      (simp (disch := first | omega | (simp only [LN, numOk, verOk] <;> omega) | exact Ck.mk rfl) only [SB, EQ, Nat.reduceMul, Nat.reduceAdd, Nat.reduceSub, Nat.reduceLT, Nat.reduceEqDiff, Nat.reduceLeDiff, Nat.reduceBEq, reduceCtorEq, Int.reduceToNat, ↓reduceIte]; try omega)
      try exact List.map_append
    · obtain rfl : i = es.length := by omega
      rw [List.take_of_length_le (by rw [List.length_map]; exact Nat.le_refl _)]
      refine fin_t [some 448] (⟨rfl, rfl⟩) rfl ?_ ?_ ?_
      · simp [RV, RV2, RVl, RV1, tau, tget, hget, data1, oneOf]
      · simp [RH, RVl, RV1, tau, hget, data1]
      · simp [Taus, hget]
theorem impl_FileNames (d : Dk) (h : DkOk d) : Fn Tryz.prog 76 [dkP d] [] (.far ((namesT d).map .str)) [] := by
  obtain ⟨_, _, ⟨rfl, rfl⟩, k⟩ := impl_FileNames_R d h
  refine k.far ?_
  simp [fz, fz2, fz1, cvtl, elems, hget, data1]
theorem findI_mem (C : List Int) (n : Int) : (decide (0 ≤ findI (fun x => decide (n = x)) C 0)) = decide (n ∈ C) := by
  rcases findI_cases (fun x : Int => decide (n = x)) C 0 with ⟨h1, h2⟩ | ⟨k, h1, h2, h3, _⟩
  · rw [h1, show decide (n ∈ C) = false from decide_eq_false (fun h => by have := h2 n h; simp at this)]; rfl
  · rw [h1, decide_eq_true (by omega)]
    have : n = C.getD k default := of_decide_eq_true h3
    rw [decide_eq_true]
    rw [this]
    exact getD_mem C k h2
theorem slices_IndexI (L : List Int) (n : Int) (hl : L.length ≤ 1048576) : Fn Tryz.prog 157 [.far (L.map (.int .i64)), .int .i64 n] [] (.int .i64 (findI (fun x => decide (n = x)) L 0)) [] := by
  have hst := findI_step (fun x : Int => decide (n = x)) L
  have hen := findI_end (fun x : Int => decide (n = x)) L
  refine fn_x tok (n := 19) (rs := [.tmp 4]) Tryz.func157 (by decide) rfl rfl rfl rfl ?_
  refine Wr.go ?_
  repeat' ((first | (have ee := True.intro; refine Wr.mk ?_) | ((first | refine br_go ?_ ?_ | refine pick_go ?_ ?_) <;> intro ee f <;> (try simp only [BB] at f) <;> (try simp only [numOk, verOk] at f))) <;> (try simp (maxSteps := 1000000) (disch := first | omega | (simp only [LN, numOk, verOk, rfP, rvP, rhP, frP, bkd] <;> omega) | exact Ck.mk rfl) only [ee, VC, T, Nat.reduceMul, Nat.reduceAdd, Nat.reduceSub, Nat.reduceLT, Nat.reduceEqDiff, Nat.reduceLeDiff, Nat.reduceBEq, reduceCtorEq, Int.reduceToNat, ↓reduceIte, rfP, rvP, rhP, frP, bkd]) <;> (try clear ee))
  refine lp_go (fun i : Nat => ⟨19, [(0, .far (L.map (.int .i64))), (1, .int .i64 n), (7, .int .i64 L.length), (8, .int .i64 i)], []⟩) (fun i => i ≤ L.length ∧ findI (fun x => decide (n = x)) L 0 = findI (fun x => decide (n = x)) (L.drop i) i) (fun i => L.length - i) 0 ?_ ⟨Nat.zero_le _, rfl⟩ ?_
  · (simp (disch := first | omega | (simp only [LN, numOk, verOk] <;> omega) | exact Ck.mk rfl) only [SB, EQ, Nat.reduceMul, Nat.reduceAdd, Nat.reduceSub, Nat.reduceLT, Nat.reduceEqDiff, Nat.reduceLeDiff, Nat.reduceBEq, reduceCtorEq, Int.reduceToNat, ↓reduceIte]; try omega)
  · rintro i ⟨h1, h2⟩ N hN
    have hst := hst i
    have hen := hen i
    refine Wr.go ?_
    repeat' ((first | (have ee := True.intro; refine Wr.mk ?_) | ((first | refine br_go ?_ ?_ | refine pick_go ?_ ?_) <;> intro ee f <;> (try simp only [BB] at f) <;> (try simp only [numOk, verOk] at f))) <;> (try simp (maxSteps := 1000000) (disch := first | omega | (simp only [LN, numOk, verOk, rfP, rvP, rhP, frP, bkd] <;> omega) | exact Ck.mk rfl) only [ee, VC, T, Nat.reduceMul, Nat.reduceAdd, Nat.reduceSub, Nat.reduceLT, Nat.reduceEqDiff, Nat.reduceLeDiff, Nat.reduceBEq, reduceCtorEq, Int.reduceToNat, ↓reduceIte, rfP, rvP, rhP, frP, bkd]) <;> (try clear ee))
    · rw [h2, hst (by omega), if_pos (decide_eq_true f)]
    · refine hN (i + 1) _ ⟨by omega, ?_⟩ (by omega) ?_
      · rw [h2, hst (by omega), if_neg (by rw [decide_eq_false f]; decide)]
      · (simp (disch := first | omega | (simp only [LN, numOk, verOk] <;> omega) | exact Ck.mk rfl) only [SB, EQ, Nat.reduceMul, Nat.reduceAdd, Nat.reduceSub, Nat.reduceLT, Nat.reduceEqDiff, Nat.reduceLeDiff, Nat.reduceBEq, reduceCtorEq, Int.reduceToNat, ↓reduceIte]; try omega)
    · rw [h2, hen (by omega)]
theorem slices_ContainsI (L : List Int) (n : Int) (hl : L.length ≤ 1048576) : Fn Tryz.prog 109 [.far (L.map (.int .i64)), .int .i64 n] [] (.bool (decide (n ∈ L))) [] := by
  have hI := slices_IndexI L n hl
  rw [← findI_mem]
  generalize findI (fun x : Int => decide (n = x)) L 0 = q at *
  refine fn_x tok (n := 9) (rs := [.tmp 4]) Tryz.func109 (by decide) rfl rfl rfl rfl ?_
  refine Wr.go ?_
  repeat' ((first | (have ee := True.intro; refine Wr.mk ?_) | ((first | refine br_go ?_ ?_ | refine pick_go ?_ ?_) <;> intro ee f <;> (try simp only [BB] at f) <;> (try simp only [numOk, verOk] at f)) | (have ee := True.intro; first | refine call_x (hI) rfl ⟨rfl⟩ ?_)) <;> (try simp (maxSteps := 1000000) (disch := first | omega | (simp only [LN, numOk, verOk, rfP, rvP, rhP, frP, bkd] <;> omega) | exact Ck.mk rfl) only [ee, VC, T, Nat.reduceMul, Nat.reduceAdd, Nat.reduceSub, Nat.reduceLT, Nat.reduceEqDiff, Nat.reduceLeDiff, Nat.reduceBEq, reduceCtorEq, Int.reduceToNat, ↓reduceIte, rfP, rvP, rhP, frP, bkd]) <;> (try clear ee))
theorem spec_l14Has (L : List Int) (n : Int) (hl : L.length ≤ 1048576) : Fn Tryz.prog 80 [.far (L.map (.int .i64)), .int .i64 n] [] (.bool (decide (n ∈ L))) [] := by
  rw [← findI_mem]
  have hst := findI_step (fun x : Int => decide (n = x)) L
  have hen := findI_end (fun x : Int => decide (n = x)) L
  refine fn_x tok (n := 18) (rs := [.tmp 4]) Tryz.func80 (by decide) rfl rfl rfl rfl ?_
  refine Wr.go ?_
  repeat' ((first | (have ee := True.intro; refine Wr.mk ?_) | ((first | refine br_go ?_ ?_ | refine pick_go ?_ ?_) <;> intro ee f <;> (try simp only [BB] at f) <;> (try simp only [numOk, verOk] at f))) <;> (try simp (maxSteps := 1000000) (disch := first | omega | (simp only [LN, numOk, verOk, rfP, rvP, rhP, frP, bkd] <;> omega) | exact Ck.mk rfl) only [ee, VC, T, Nat.reduceMul, Nat.reduceAdd, Nat.reduceSub, Nat.reduceLT, Nat.reduceEqDiff, Nat.reduceLeDiff, Nat.reduceBEq, reduceCtorEq, Int.reduceToNat, ↓reduceIte, rfP, rvP, rhP, frP, bkd]) <;> (try clear ee))
  refine lp_go (fun i : Nat => ⟨18, [(0, .far (L.map (.int .i64))), (1, .int .i64 n), (5, .int .i64 i)], []⟩) (fun i => i ≤ L.length ∧ findI (fun x => decide (n = x)) L 0 = findI (fun x => decide (n = x)) (L.drop i) i) (fun i => L.length - i) 0 ?_ ⟨Nat.zero_le _, rfl⟩ ?_
  · (simp (disch := first | omega | (simp only [LN, numOk, verOk] <;> omega) | exact Ck.mk rfl) only [SB, EQ, Nat.reduceMul, Nat.reduceAdd, Nat.reduceSub, Nat.reduceLT, Nat.reduceEqDiff, Nat.reduceLeDiff, Nat.reduceBEq, reduceCtorEq, Int.reduceToNat, ↓reduceIte]; try omega)
  · rintro i ⟨h1, h2⟩ N hN
    have hst := hst i
    have hen := hen i
    refine Wr.go ?_
    repeat' ((first | (have ee := True.intro; refine Wr.mk ?_) | ((first | refine br_go ?_ ?_ | refine pick_go ?_ ?_) <;> intro ee f <;> (try simp only [BB] at f) <;> (try simp only [numOk, verOk] at f))) <;> (try simp (maxSteps := 1000000) (disch := first | omega | (simp only [LN, numOk, verOk, rfP, rvP, rhP, frP, bkd] <;> omega) | exact Ck.mk rfl) only [ee, VC, T, Nat.reduceMul, Nat.reduceAdd, Nat.reduceSub, Nat.reduceLT, Nat.reduceEqDiff, Nat.reduceLeDiff, Nat.reduceBEq, reduceCtorEq, Int.reduceToNat, ↓reduceIte, rfP, rvP, rhP, frP, bkd]) <;> (try clear ee))
    · rw [h2, hst (by omega), if_pos (decide_eq_true f.symm), decide_eq_true (by omega)]
    · refine hN (i + 1) _ ⟨by omega, ?_⟩ (by omega) ?_
      · rw [h2, hst (by omega), if_neg (by rw [decide_eq_false (fun e => f e.symm)]; decide)]
      · (simp (disch := first | omega | (simp only [LN, numOk, verOk] <;> omega) | exact Ck.mk rfl) only [SB, EQ, Nat.reduceMul, Nat.reduceAdd, Nat.reduceSub, Nat.reduceLT, Nat.reduceEqDiff, Nat.reduceLeDiff, Nat.reduceBEq, reduceCtorEq, Int.reduceToNat, ↓reduceIte]; try omega)
    · rw [h2, hen (by omega)]; rfl
theorem nameOf_range (b : ByteArray) : ((nameOf b).1 = 0 ∨ (nameOf b).1 = 1 ∨ (nameOf b).1 = 2) ∧ 0 ≤ (nameOf b).2 ∧ (nameOf b).2 ≤ 1000000000 := by
  rcases nameOf_kind b with ⟨h, k, _⟩ | ⟨h, k, _⟩ | h
  · rw [h]; exact ⟨.inr (.inl rfl), k.1, k.2⟩
  · rw [h]; exact ⟨.inr (.inr rfl), k.1, k.2⟩
  · rw [h]; exact ⟨.inl rfl, by decide, by decide⟩
/-- What is not in the chain. -/
def looseB (C : List Int) (b : ByteArray) : Bool := decide ((nameOf b).1 = 2) || decide ((nameOf b).1 = 1) && !decide ((nameOf b).2 ∈ C)
def looseT (d : Dk) : List ByteArray := (namesT d).filter (looseB (chainT d))
theorem namesT_at (es : List Et) (i : Nat) (h : i < es.length) : (es.map (·.1)).getD i default = (es.getD i default).1 := by
  rw [List.getD_eq_getElem?_getD, List.getElem?_map, List.getElem?_eq_getElem h, List.getD_eq_getElem?_getD, List.getElem?_eq_getElem h]; rfl
theorem spec_LooseNames (d : Dk) (h : DkOk d) : Fn Tryz.prog 50 [dkP d] [] (.far ((looseT d).map .str)) [] := by
  have hL := spec_Chain d h
  have hlen := chainT_length d
  have hes := h.es
  have het := h.et
  unfold looseT
  generalize chainT d = C at *
  obtain ⟨ns, es, os, ss, r, x⟩ := d
  simp only [namesT] at *
  unfold dkP at *
  refine fn_x tok (n := 50) (rs := [.tmp 2]) Tryz.func50 (by decide) rfl rfl rfl rfl ?_
  refine Wr.go ?_
  repeat' ((first | (have ee := True.intro; refine Wr.mk ?_) | ((first | refine br_go ?_ ?_ | refine pick_go ?_ ?_) <;> intro ee f <;> (try simp only [BB] at f) <;> (try simp only [numOk, verOk] at f)) | (have ee := True.intro; first | refine call_x (hL) rfl ⟨rfl⟩ ?_)) <;> (try simp (maxSteps := 1000000) (disch := first | omega | (simp only [LN, numOk, verOk, rfP, rvP, rhP, frP, bkd] <;> omega) | exact Ck.mk rfl) only [ee, VC, T, Nat.reduceMul, Nat.reduceAdd, Nat.reduceSub, Nat.reduceLT, Nat.reduceEqDiff, Nat.reduceLeDiff, Nat.reduceBEq, reduceCtorEq, Int.reduceToNat, ↓reduceIte, rfP, rvP, rhP, frP, bkd]) <;> (try clear ee))
  refine lp_go (fun i : Nat => ⟨50, [(1, .ref 128 0), (3, .row 576 (((es.map (·.1)).take i).filter (looseB C)).length), (4, .far (C.map (.int .i64))), (5, .int .i64 i)], [(128, .box 32 [.far (ns.map ndP), .far (es.map enP), .far (os.map enP), .far (ss.map .str), .int .i64 r, .int .i64 x]), (576, .row ⟨1, 0⟩ ((((es.map (·.1)).take i).filter (looseB C)).map .str))]⟩) (fun i => i ≤ es.length) (fun i => es.length - i) 0 ?_ (Nat.zero_le _) ?_
  · (simp (disch := first | omega | (simp only [LN, numOk, verOk] <;> omega) | exact Ck.mk rfl) only [SB, EQ, Nat.reduceMul, Nat.reduceAdd, Nat.reduceSub, Nat.reduceLT, Nat.reduceEqDiff, Nat.reduceLeDiff, Nat.reduceBEq, reduceCtorEq, Int.reduceToNat, ↓reduceIte]; try omega)
    exact ⟨rfl, rfl⟩
  · intro i hi N hN
    have hsn := filt_snoc (looseB C) (es.map (·.1)) i
    rw [List.length_map] at hsn
    have hfl : (((es.map (·.1)).take i).filter (looseB C)).length ≤ 1048576 := by
      have := List.length_filter_le (looseB C) ((es.map (·.1)).take i)
      rw [List.length_take, List.length_map] at this
      omega
    have hat := namesT_at es i
    have hg : i < es.length → (es.map enP).getD i .junk = .agg [.str (es.getD i default).1, .int .i64 (es.getD i default).2] := fun h => by
      rw [List.getD_eq_getElem?_getD, List.getElem?_map, List.getElem?_eq_getElem h, List.getD_eq_getElem?_getD, List.getElem?_eq_getElem h]; rfl
    have hbx : i < es.length → (es.getD i default).1.size ≤ 1048576 := fun h => het _ (getD_mem es i h)
    generalize hM : ((es.map (·.1)).take i).filter (looseB C) = M at *
    by_cases hi2 : i < es.length
    · have hsn := hsn hi2
      rw [hat hi2] at hsn
      have hbx := hbx hi2
      have hg := hg hi2
      generalize es.getD i default = p at *
      obtain ⟨nm, id⟩ := p
      simp only at *
      have hR := spec_ReadName nm hbx
      have hH := spec_l14Has C (nameOf nm).2 (by omega)
      have hr := (nameOf_range nm).1
      rw [show looseB C nm = (decide ((nameOf nm).1 = 2) || decide ((nameOf nm).1 = 1) && !decide ((nameOf nm).2 ∈ C)) from rfl] at hsn
      generalize nameOf nm = q at *
      obtain ⟨k, n⟩ := q
      simp only at *
      generalize decide (n ∈ C) = g at *
      have nxt : ∀ s1, _ := fun s1 => hN (i + 1) s1 (by omega) (by omega)
      refine Wr.go ?_
      repeat' ((first | (have ee := True.intro; refine Wr.mk ?_) | ((first | refine br_go ?_ ?_ | refine pick_go ?_ ?_) <;> intro ee f <;> (try simp only [BB] at f) <;> (try simp only [numOk, verOk] at f)) | (have ee := True.intro; first | refine call_x (hR) rfl ⟨rfl⟩ ?_ | refine call_x (hH) rfl ⟨rfl⟩ ?_)) <;> (try simp (maxSteps := 1000000) (disch := first | omega | (simp only [LN, numOk, verOk, rfP, rvP, rhP, frP, bkd, hg] <;> omega) | exact Ck.mk rfl) only [ee, VC, T, Nat.reduceMul, Nat.reduceAdd, Nat.reduceSub, Nat.reduceLT, Nat.reduceEqDiff, Nat.reduceLeDiff, Nat.reduceBEq, reduceCtorEq, Int.reduceToNat, ↓reduceIte, rfP, rvP, rhP, frP, bkd, hg]) <;> (try clear ee))
      · refine nxt _ ?_
        rw [hsn, if_pos (by simp [f])]
        (simp (disch := first | omega | (simp only [LN, numOk, verOk] <;> omega) | exact Ck.mk rfl) only [SB, EQ, Nat.reduceMul, Nat.reduceAdd, Nat.reduceSub, Nat.reduceLT, Nat.reduceEqDiff, Nat.reduceLeDiff, Nat.reduceBEq, reduceCtorEq, Int.reduceToNat, ↓reduceIte]; try omega)
      · refine nxt _ ?_
        rename_i f0 f1
        rw [hsn, if_neg (by simp [f0, f1, f]), List.append_nil]
        (simp (disch := first | omega | (simp only [LN, numOk, verOk] <;> omega) | exact Ck.mk rfl) only [SB, EQ, Nat.reduceMul, Nat.reduceAdd, Nat.reduceSub, Nat.reduceLT, Nat.reduceEqDiff, Nat.reduceLeDiff, Nat.reduceBEq, reduceCtorEq, Int.reduceToNat, ↓reduceIte]; try omega)
      · refine nxt _ ?_
        rename_i f0 f1
        rw [hsn, if_pos (by simp [f1, f])]
        (simp (disch := first | omega | (simp only [LN, numOk, verOk] <;> omega) | exact Ck.mk rfl) only [SB, EQ, Nat.reduceMul, Nat.reduceAdd, Nat.reduceSub, Nat.reduceLT, Nat.reduceEqDiff, Nat.reduceLeDiff, Nat.reduceBEq, reduceCtorEq, Int.reduceToNat, ↓reduceIte]; try omega)
      · refine nxt _ ?_
        rename_i f0
        rw [hsn, if_neg (by simp [f0, f]), List.append_nil]
        (simp (disch := first | omega | (simp only [LN, numOk, verOk] <;> omega) | exact Ck.mk rfl) only [SB, EQ, Nat.reduceMul, Nat.reduceAdd, Nat.reduceSub, Nat.reduceLT, Nat.reduceEqDiff, Nat.reduceLeDiff, Nat.reduceBEq, reduceCtorEq, Int.reduceToNat, ↓reduceIte]; try omega)
    · refine Wr.go ?_
      repeat' ((first | (have ee := True.intro; refine Wr.mk ?_) | ((first | refine br_go ?_ ?_ | refine pick_go ?_ ?_) <;> intro ee f <;> (try simp only [BB] at f) <;> (try simp only [numOk, verOk] at f))) <;> (try simp (maxSteps := 1000000) (disch := first | omega | (simp only [LN, numOk, verOk, rfP, rvP, rhP, frP, bkd] <;> omega) | exact Ck.mk rfl) only [ee, VC, T, Nat.reduceMul, Nat.reduceAdd, Nat.reduceSub, Nat.reduceLT, Nat.reduceEqDiff, Nat.reduceLeDiff, Nat.reduceBEq, reduceCtorEq, Int.reduceToNat, ↓reduceIte, rfP, rvP, rhP, frP, bkd]) <;> (try clear ee))
      obtain rfl : i = es.length := by omega
      rw [List.take_of_length_le (by rw [List.length_map]; exact Nat.le_refl _)] at hM
      rw [hM]
end Go.Pv
/- What functions of the program and of the reference do, in plain values. -/
namespace Go.Pv
open Go.Proofs Go.Mth
set_option linter.unusedSimpArgs false
set_option linter.unusedVariables false
set_option maxHeartbeats 4000000
set_option maxRecDepth 4000

/-! ### what is not as it should be -/
theorem chGo_ok (d : Dk) : ∀ (k : Nat) (b l : Int), ∀ x ∈ chGo d k b l, (rHead (textT d x)).2.2.2.2 = true
  | 0, _, _, x, hx => by simp [chGo] at hx
  | k + 1, b, l, x, hx => by
    unfold chGo at hx
    split at hx
    · rename_i hg
      rcases List.mem_cons.1 hx with rfl | hx
      · exact hg.1.1
      · exact chGo_ok d k _ _ x hx
    · simp at hx
theorem chain_ok (d : Dk) (x : Int) (hx : x ∈ chainT d) : (scan (textT d x)).1 = true := by
  have h := chGo_ok d 16 0 0 x hx
  unfold scan
  rw [if_pos h]
def lookC (d : Dk) (b : ByteArray) : Int := if (nameOf b).1 = 2 then 1 else if (nameOf b).1 = 0 then 0 else if (nameOf b).2 ∈ chainT d then (if (rSealed (textT d (nameOf b).2)).2.2 = true then 0 else if scEnd (textT d (nameOf b).2) = (textT d (nameOf b).2).size then 3 else 4) else 2
theorem lookC_r (d : Dk) (b : ByteArray) : 0 ≤ lookC d b ∧ lookC d b ≤ 4 := by
  unfold lookC
  (repeat' split) <;> decide
theorem impl_lookedAt (d : Dk) (b : ByteArray) (h : DkOk d) (hb : b.size ≤ 1048576) : Fn Tryz.prog 83 [dkP d, .far ((chainT d).map (.int .i64)), .str b] [] (.int .i64 (lookC d b)) [] := by
  have hR := impl_ReadName b hb
  have hr := nameOf_range b
  have hl := chainT_length d
  have hok := chain_ok d (nameOf b).2
  have hle := textT_le h (nameOf b).2
  have hT := impl_TextAt d (nameOf b).2 h ⟨by omega, by omega⟩
  have hC := slices_ContainsI (chainT d) (nameOf b).2 (by omega)
  generalize hq : lookC d b = q
  unfold lookC at hq
  generalize nameOf b = p at *
  obtain ⟨k, n⟩ := p
  simp only at *
  generalize chainT d = C at *
  generalize textT d n = t at *
  have hS := impl_SealedOk t (by omega)
  have hO := impl_OpenOk t (by omega)
  have hse : (scan t).2.2.2.2.2.2.2.1 = scEnd t := rfl
  rw [hse] at hO
  generalize (rSealed t).2.2 = sl at *
  generalize scEnd t = en at *
  generalize (scan t).1 = sc at *
  by_cases hm : n ∈ C
  · rw [hok hm, Bool.true_and] at hO
    rw [decide_eq_true hm] at hC
    rw [if_pos hm] at hq
    unfold dkP at *
    refine fn_x tok (n := 35) (rs := [.tmp 6]) Tryz.func83 (by decide) rfl rfl rfl rfl ?_
    refine Wr.go ?_
    repeat' ((first | (have ee := True.intro; refine Wr.mk ?_) | ((first | refine br_go ?_ ?_ | refine pick_go ?_ ?_) <;> intro ee f <;> (try simp only [BB] at f) <;> (try simp only [numOk, verOk] at f)) | (have ee := True.intro; first | refine call_x (hR) rfl ⟨rfl⟩ ?_ | refine call_x (hT) rfl ⟨rfl⟩ ?_ | refine call_x (hC) rfl ⟨rfl⟩ ?_ | refine call_x (hS) rfl ⟨rfl⟩ ?_ | refine call_x (hO) rfl ⟨rfl⟩ ?_)) <;> (try simp (maxSteps := 1000000) (disch := first | omega | (simp only [LN, numOk, verOk, rfP, rvP, rhP, frP, bkd] <;> omega) | exact Ck.mk rfl) only [ee, VC, T, Nat.reduceMul, Nat.reduceAdd, Nat.reduceSub, Nat.reduceLT, Nat.reduceEqDiff, Nat.reduceLeDiff, Nat.reduceBEq, reduceCtorEq, Int.reduceToNat, ↓reduceIte, rfP, rvP, rhP, frP, bkd]) <;> (try clear ee))
    · rw [← hq, if_pos f]
    · rename_i f0; rw [← hq, if_neg f0, if_pos f]
    · rename_i f0 f1; rw [← hq, if_neg f0, if_neg f1, if_pos f]
    · rename_i f0 f1 f2; rw [← hq, if_neg f0, if_neg f1, if_neg (by rw [f2]; decide), if_pos f]
    · rename_i f0 f1 f2; rw [← hq, if_neg f0, if_neg f1, if_neg (by rw [f2]; decide), if_neg f]
  · rw [decide_eq_false hm] at hC
    rw [if_neg hm] at hq
    unfold dkP at *
    refine fn_x tok (n := 35) (rs := [.tmp 6]) Tryz.func83 (by decide) rfl rfl rfl rfl ?_
    refine Wr.go ?_
    repeat' ((first | (have ee := True.intro; refine Wr.mk ?_) | ((first | refine br_go ?_ ?_ | refine pick_go ?_ ?_) <;> intro ee f <;> (try simp only [BB] at f) <;> (try simp only [numOk, verOk] at f)) | (have ee := True.intro; first | refine call_x (hR) rfl ⟨rfl⟩ ?_ | refine call_x (hT) rfl ⟨rfl⟩ ?_ | refine call_x (hC) rfl ⟨rfl⟩ ?_)) <;> (try simp (maxSteps := 1000000) (disch := first | omega | (simp only [LN, numOk, verOk, rfP, rvP, rhP, frP, bkd] <;> omega) | exact Ck.mk rfl) only [ee, VC, T, Nat.reduceMul, Nat.reduceAdd, Nat.reduceSub, Nat.reduceLT, Nat.reduceEqDiff, Nat.reduceLeDiff, Nat.reduceBEq, reduceCtorEq, Int.reduceToNat, ↓reduceIte, rfP, rvP, rhP, frP, bkd]) <;> (try clear ee))
    · rw [← hq, if_pos f]
    · rename_i f0; rw [← hq, if_neg f0, if_pos f]
    · rename_i f0; rw [← hq, if_neg f0, if_neg f]
def fdP (x : ByteArray × Int) : PV := .agg [.str x.1, .int .i64 x.2]
def lkT (d : Dk) (L : List ByteArray) : List (ByteArray × Int) := L.flatMap fun n => if lookC d n = 0 then [] else [(n, lookC d n)]
def lookT (d : Dk) : List (ByteArray × Int) := lkT d (namesT d)
theorem lkT_snoc (d : Dk) (L : List ByteArray) (i : Nat) (h : i < L.length) : lkT d (L.take (i + 1)) = lkT d (L.take i) ++ if lookC d (L.getD i default) = 0 then [] else [(L.getD i default, lookC d (L.getD i default))] := by
  unfold lkT
  rw [take_snoc default L i h, List.flatMap_append, List.flatMap_cons, List.flatMap_nil, List.append_nil]
  rfl
theorem lkT_len (d : Dk) : ∀ L : List ByteArray, (lkT d L).length ≤ L.length
  | [] => Nat.le_refl _
  | n :: L => by
    have := lkT_len d L
    unfold lkT at *
    rw [List.flatMap_cons, List.length_append, List.length_cons]
    split
    · rw [List.length_nil]; omega
    · rw [List.length_singleton]; omega
theorem lookT_len {d : Dk} (h : DkOk d) : (lookT d).length ≤ 1048576 := by
  have h1 := lkT_len d (namesT d)
  have h2 := namesT_len d
  have h3 := h.es
  unfold lookT; omega
theorem impl_Looked_R (d : Dk) (h : DkOk d) : FnE Tryz.prog 25 [dkP d] [] (fun r m => r = .row 64 (lookT d).length ∧ m = [(64, .row ⟨2, 0⟩ ((lookT d).map fdP))]) := by
  have hC := impl_Chain d h
  have hF := impl_FileNames d h
  have hA := fun b hb => impl_lookedAt d b h hb
  have hnl := namesT_len d
  have hes := h.es
  have hnb := namesT_le h
  unfold lookT
  generalize namesT d = L at *
  generalize chainT d = C at *
  have hll := lkT_len d
  have hsn := lkT_snoc d L
  obtain ⟨ns, es, os, ss, r, x⟩ := d
  generalize hd : ((ns, es, os, ss, r, x) : Dk) = d at *
  have hdk : dkP d = .agg [.far (ns.map ndP), .far (es.map enP), .far (os.map enP), .far (ss.map .str), .int .i64 r, .int .i64 x] := by rw [← hd]; rfl
  rw [hdk] at hC hF hA ⊢
  refine fn_e tok (n := 32) (rs := [.tmp 2]) Tryz.func25 (by decide) rfl rfl rfl rfl (low_of rfl) ?_
  refine Wr.go ?_
  repeat' ((first | (have ee := True.intro; refine Wr.mk ?_) | ((first | refine br_go ?_ ?_ | refine pick_go ?_ ?_) <;> intro ee f <;> (try simp only [BB] at f) <;> (try simp only [numOk, verOk] at f)) | (have ee := True.intro; first | refine call_x (hC) rfl ⟨rfl⟩ ?_ | refine call_x (hF) rfl ⟨rfl⟩ ?_)) <;> (try simp (maxSteps := 1000000) (disch := first | omega | (simp only [LN, numOk, verOk, rfP, rvP, rhP, frP, bkd] <;> omega) | exact Ck.mk rfl) only [ee, VC, T, Nat.reduceMul, Nat.reduceAdd, Nat.reduceSub, Nat.reduceLT, Nat.reduceEqDiff, Nat.reduceLeDiff, Nat.reduceBEq, reduceCtorEq, Int.reduceToNat, ↓reduceIte, rfP, rvP, rhP, frP, bkd]) <;> (try clear ee))
  refine lp_go (fun i : Nat => ⟨32, [(1, .ref 128 0), (3, .far (C.map (.int .i64))), (4, .row 704 (lkT d (L.take i)).length), (12, .far (L.map .str)), (13, .int .i64 L.length), (14, .int .i64 i)], [(128, .box 32 [.far (ns.map ndP), .far (es.map enP), .far (os.map enP), .far (ss.map .str), .int .i64 r, .int .i64 x]), (704, .row ⟨2, 0⟩ ((lkT d (L.take i)).map fdP))]⟩) (fun i => i ≤ L.length) (fun i => L.length - i) 0 ?_ (Nat.zero_le _) ?_
  · (simp (disch := first | omega | (simp only [LN, numOk, verOk] <;> omega) | exact Ck.mk rfl) only [SB, EQ, Nat.reduceMul, Nat.reduceAdd, Nat.reduceSub, Nat.reduceLT, Nat.reduceEqDiff, Nat.reduceLeDiff, Nat.reduceBEq, reduceCtorEq, Int.reduceToNat, ↓reduceIte]; try omega)
    exact ⟨rfl, rfl⟩
  · intro i hi N hN
    have hsn := hsn i
    have hM1 := hll (L.take i)
    rw [List.length_take] at hM1
    have hbi : i < L.length → (L.getD i default).size ≤ 1048576 := fun h => hnb _ (getD_mem L i h)
    generalize hM : lkT d (L.take i) = M at *
    generalize hx : L.getD i default = nm at *
    have hA := fun h => hA nm (hbi h)
    generalize lookC d nm = c at *
    have hmap : (M ++ [(nm, c)]).map fdP = M.map fdP ++ [.agg [.str nm, .int .i64 c]] := by rw [List.map_append]; rfl
    refine Wr.go ?_
    repeat' ((first | (have ee := True.intro; refine Wr.mk ?_) | ((first | refine br_go ?_ ?_ | refine pick_go ?_ ?_) <;> intro ee f <;> (try simp only [BB] at f) <;> (try simp only [numOk, verOk] at f)) | (have ee := True.intro; first | refine call_x (hA (by omega)) rfl ⟨rfl⟩ ?_)) <;> (try simp (maxSteps := 1000000) (disch := first | omega | (simp only [LN, numOk, verOk, rfP, rvP, rhP, frP, bkd, hx] <;> omega) | exact Ck.mk rfl) only [ee, VC, T, Nat.reduceMul, Nat.reduceAdd, Nat.reduceSub, Nat.reduceLT, Nat.reduceEqDiff, Nat.reduceLeDiff, Nat.reduceBEq, reduceCtorEq, Int.reduceToNat, ↓reduceIte, rfP, rvP, rhP, frP, bkd, hx]) <;> (try clear ee))
    · refine hN (i + 1) _ (by omega) (by omega) ?_
      rw [hsn (by omega), if_pos f, List.append_nil]
      (simp (disch := first | omega | (simp only [LN, numOk, verOk] <;> omega) | exact Ck.mk rfl) only [SB, EQ, Nat.reduceMul, Nat.reduceAdd, Nat.reduceSub, Nat.reduceLT, Nat.reduceEqDiff, Nat.reduceLeDiff, Nat.reduceBEq, reduceCtorEq, Int.reduceToNat, ↓reduceIte]; try omega)
    · refine hN (i + 1) _ (by omega) (by omega) ?_
      rw [hsn (by omega), if_neg f, hmap]
      (simp (disch := first | omega | (simp only [LN, numOk, verOk] <;> omega) | exact Ck.mk rfl) only [SB, EQ, Nat.reduceMul, Nat.reduceAdd, Nat.reduceSub, Nat.reduceLT, Nat.reduceEqDiff, Nat.reduceLeDiff, Nat.reduceBEq, reduceCtorEq, Int.reduceToNat, ↓reduceIte]; try omega)
    · obtain rfl : i = L.length := by omega
      rw [List.take_length] at hM
      rw [hM]
      exact fin_t [some 704] (⟨rfl, rfl⟩) rfl (by simp [RV, RV2, RVl, RV1, tau, tget, hget, data1, oneOf]) (by simp [RH, RVl, RV1, tau, hget, data1]) (by simp [Taus, hget])
theorem impl_Looked (d : Dk) (h : DkOk d) : Fn Tryz.prog 25 [dkP d] [] (.far ((lookT d).map fdP)) [] := by
  obtain ⟨_, _, ⟨rfl, rfl⟩, k⟩ := impl_Looked_R d h
  refine k.far ?_
  simp [fz, fz2, fz1, cvtl, elems, hget, data1]
theorem spec_Looked (d : Dk) (h : DkOk d) : Fn Tryz.prog 24 [dkP d] [] (.far ((lookT d).map fdP)) [] := by
  have hC := spec_Chain d h
  have hR := fun b hb => spec_ReadName b hb
  have hT := fun b hb => spec_TextAt d b h hb
  have hle := textT_le h
  have hok := chain_ok d
  have hl := chainT_length d
  have hH := fun n => spec_l14Has (chainT d) n (by omega)
  have hes := h.es
  have hnb := h.et
  have hll := lkT_len d
  have hsn := lkT_snoc d (d.2.1.map (·.1))
  have hlc : ∀ b, lookC d b = if (nameOf b).1 = 2 then 1 else if (nameOf b).1 = 0 then 0 else if (nameOf b).2 ∈ chainT d then (if (rSealed (textT d (nameOf b).2)).2.2 = true then 0 else if scEnd (textT d (nameOf b).2) = (textT d (nameOf b).2).size then 3 else 4) else 2 := fun _ => rfl
  unfold lookT namesT
  generalize chainT d = C at *
  obtain ⟨ns, es, os, ss, r, x⟩ := d
  generalize hd : ((ns, es, os, ss, r, x) : Dk) = d at *
  have hdk : dkP d = .agg [.far (ns.map ndP), .far (es.map enP), .far (os.map enP), .far (ss.map .str), .int .i64 r, .int .i64 x] := by rw [← hd]; rfl
  rw [hdk] at hC hT ⊢
  have hd1 : d.2.1 = es := by rw [← hd]
  simp only [hd1] at hes hnb hsn ⊢
  refine fn_x tok (n := 64) (rs := [.tmp 2]) Tryz.func24 (by decide) rfl rfl rfl rfl ?_
  refine Wr.go ?_
  repeat' ((first | (have ee := True.intro; refine Wr.mk ?_) | ((first | refine br_go ?_ ?_ | refine pick_go ?_ ?_) <;> intro ee f <;> (try simp only [BB] at f) <;> (try simp only [numOk, verOk] at f)) | (have ee := True.intro; first | refine call_x (hC) rfl ⟨rfl⟩ ?_)) <;> (try simp (maxSteps := 1000000) (disch := first | omega | (simp only [LN, numOk, verOk, rfP, rvP, rhP, frP, bkd] <;> omega) | exact Ck.mk rfl) only [ee, VC, T, Nat.reduceMul, Nat.reduceAdd, Nat.reduceSub, Nat.reduceLT, Nat.reduceEqDiff, Nat.reduceLeDiff, Nat.reduceBEq, reduceCtorEq, Int.reduceToNat, ↓reduceIte, rfP, rvP, rhP, frP, bkd]) <;> (try clear ee))
  refine lp_go (fun i : Nat => ⟨64, [(1, .ref 128 0), (3, .row 768 (lkT d ((es.map (·.1)).take i)).length), (4, .far (C.map (.int .i64))), (5, .int .i64 i)], [(128, .box 32 [.far (ns.map ndP), .far (es.map enP), .far (os.map enP), .far (ss.map .str), .int .i64 r, .int .i64 x]), (768, .row ⟨2, 0⟩ ((lkT d ((es.map (·.1)).take i)).map fdP))]⟩) (fun i => i ≤ es.length) (fun i => es.length - i) 0 ?_ (Nat.zero_le _) ?_
  · (simp (disch := first | omega | (simp only [LN, numOk, verOk] <;> omega) | exact Ck.mk rfl) only [SB, EQ, Nat.reduceMul, Nat.reduceAdd, Nat.reduceSub, Nat.reduceLT, Nat.reduceEqDiff, Nat.reduceLeDiff, Nat.reduceBEq, reduceCtorEq, Int.reduceToNat, ↓reduceIte]; try omega)
    exact ⟨rfl, rfl⟩
  · intro i hi N hN
    have hsn := hsn i
    rw [List.length_map] at hsn
    have hM1 := hll ((es.map (·.1)).take i)
    rw [List.length_take, List.length_map] at hM1
    have hat := namesT_at es i
    have hg : i < es.length → (es.map enP).getD i .junk = .agg [.str (es.getD i default).1, .int .i64 (es.getD i default).2] := fun h => by
      rw [List.getD_eq_getElem?_getD, List.getElem?_map, List.getElem?_eq_getElem h, List.getD_eq_getElem?_getD, List.getElem?_eq_getElem h]; rfl
    have hbx : i < es.length → (es.getD i default).1.size ≤ 1048576 := fun h => hnb _ (getD_mem es i h)
    generalize hM : lkT d ((es.map (·.1)).take i) = M at *
    by_cases hi2 : i < es.length
    · have hsn := hsn hi2
      rw [hat hi2] at hsn
      have hbx := hbx hi2
      have hg := hg hi2
      generalize es.getD i default = p at *
      obtain ⟨nm, id⟩ := p
      simp only at *
      have hR := hR nm hbx
      have hr := nameOf_range nm
      have hlc := hlc nm
      generalize lookC d nm = c at *
      have hmap : (M ++ [(nm, c)]).map fdP = M.map fdP ++ [.agg [.str nm, .int .i64 c]] := by rw [List.map_append]; rfl
      generalize nameOf nm = q at *
      obtain ⟨k, n⟩ := q
      simp only at *
      have hT := hT n ⟨by omega, by omega⟩
      have hle := hle n
      have hok := hok n
      have hH := hH n
      generalize textT d n = t at *
      have hS := spec_SealedOk t (by omega)
      have hO := spec_SizeScanned t (by omega)
      generalize (rSealed t).2.2 = sl at *
      generalize scEnd t = en at *
      have nxt : ∀ s1, _ := fun s1 => hN (i + 1) s1 (by omega) (by omega)
      have fin0 : c = 0 → lkT d ((es.map (·.1)).take (i + 1)) = M := fun h => by rw [hsn, if_pos h, List.append_nil]
      have fin1 : ¬ c = 0 → lkT d ((es.map (·.1)).take (i + 1)) = M ++ [(nm, c)] := fun h => by rw [hsn, if_neg h]
      by_cases hm : n ∈ C
      · rw [decide_eq_true hm] at hH
        rw [if_pos hm] at hlc
        refine Wr.go ?_
        repeat' ((first | (have ee := True.intro; refine Wr.mk ?_) | ((first | refine br_go ?_ ?_ | refine pick_go ?_ ?_) <;> intro ee f <;> (try simp only [BB] at f) <;> (try simp only [numOk, verOk] at f)) | (have ee := True.intro; first | refine call_x (hR) rfl ⟨rfl⟩ ?_ | refine call_x (hT) rfl ⟨rfl⟩ ?_ | refine call_x (hH) rfl ⟨rfl⟩ ?_ | refine call_x (hS) rfl ⟨rfl⟩ ?_ | refine call_x (hO) rfl ⟨rfl⟩ ?_)) <;> (try simp (maxSteps := 1000000) (disch := first | omega | (simp only [LN, numOk, verOk, rfP, rvP, rhP, frP, bkd, hg] <;> omega) | exact Ck.mk rfl) only [ee, VC, T, Nat.reduceMul, Nat.reduceAdd, Nat.reduceSub, Nat.reduceLT, Nat.reduceEqDiff, Nat.reduceLeDiff, Nat.reduceBEq, reduceCtorEq, Int.reduceToNat, ↓reduceIte, rfP, rvP, rhP, frP, bkd, hg]) <;> (try clear ee))
        · obtain rfl : c = 1 := by rw [hlc, if_pos f]
          refine nxt _ ?_
          rw [fin1 (by decide), hmap]
          (simp (disch := first | omega | (simp only [LN, numOk, verOk] <;> omega) | exact Ck.mk rfl) only [SB, EQ, Nat.reduceMul, Nat.reduceAdd, Nat.reduceSub, Nat.reduceLT, Nat.reduceEqDiff, Nat.reduceLeDiff, Nat.reduceBEq, reduceCtorEq, Int.reduceToNat, ↓reduceIte]; try omega)
        · rename_i g0
          obtain rfl : c = 0 := by rw [hlc, if_neg g0, if_pos f]
          refine nxt _ ?_
          rw [fin0 rfl]
          (simp (disch := first | omega | (simp only [LN, numOk, verOk] <;> omega) | exact Ck.mk rfl) only [SB, EQ, Nat.reduceMul, Nat.reduceAdd, Nat.reduceSub, Nat.reduceLT, Nat.reduceEqDiff, Nat.reduceLeDiff, Nat.reduceBEq, reduceCtorEq, Int.reduceToNat, ↓reduceIte]; try omega)
        · rename_i g0 g1
          obtain rfl : c = 0 := by rw [hlc, if_neg g0, if_neg g1, if_pos f]
          refine nxt _ ?_
          rw [fin0 rfl]
          (simp (disch := first | omega | (simp only [LN, numOk, verOk] <;> omega) | exact Ck.mk rfl) only [SB, EQ, Nat.reduceMul, Nat.reduceAdd, Nat.reduceSub, Nat.reduceLT, Nat.reduceEqDiff, Nat.reduceLeDiff, Nat.reduceBEq, reduceCtorEq, Int.reduceToNat, ↓reduceIte]; try omega)
        · rename_i g0 g1 g2
          obtain rfl : c = 3 := by rw [hlc, if_neg g0, if_neg g1, if_neg (by rw [g2]; decide), if_pos f]
          refine nxt _ ?_
          rw [fin1 (by decide), hmap]
          (simp (disch := first | omega | (simp only [LN, numOk, verOk] <;> omega) | exact Ck.mk rfl) only [SB, EQ, Nat.reduceMul, Nat.reduceAdd, Nat.reduceSub, Nat.reduceLT, Nat.reduceEqDiff, Nat.reduceLeDiff, Nat.reduceBEq, reduceCtorEq, Int.reduceToNat, ↓reduceIte]; try omega)
        · rename_i g0 g1 g2
          obtain rfl : c = 4 := by rw [hlc, if_neg g0, if_neg g1, if_neg (by rw [g2]; decide), if_neg f]
          refine nxt _ ?_
          rw [fin1 (by decide), hmap]
          (simp (disch := first | omega | (simp only [LN, numOk, verOk] <;> omega) | exact Ck.mk rfl) only [SB, EQ, Nat.reduceMul, Nat.reduceAdd, Nat.reduceSub, Nat.reduceLT, Nat.reduceEqDiff, Nat.reduceLeDiff, Nat.reduceBEq, reduceCtorEq, Int.reduceToNat, ↓reduceIte]; try omega)
      · rw [decide_eq_false hm] at hH
        rw [if_neg hm] at hlc
        refine Wr.go ?_
        repeat' ((first | (have ee := True.intro; refine Wr.mk ?_) | ((first | refine br_go ?_ ?_ | refine pick_go ?_ ?_) <;> intro ee f <;> (try simp only [BB] at f) <;> (try simp only [numOk, verOk] at f)) | (have ee := True.intro; first | refine call_x (hR) rfl ⟨rfl⟩ ?_ | refine call_x (hT) rfl ⟨rfl⟩ ?_ | refine call_x (hH) rfl ⟨rfl⟩ ?_)) <;> (try simp (maxSteps := 1000000) (disch := first | omega | (simp only [LN, numOk, verOk, rfP, rvP, rhP, frP, bkd, hg] <;> omega) | exact Ck.mk rfl) only [ee, VC, T, Nat.reduceMul, Nat.reduceAdd, Nat.reduceSub, Nat.reduceLT, Nat.reduceEqDiff, Nat.reduceLeDiff, Nat.reduceBEq, reduceCtorEq, Int.reduceToNat, ↓reduceIte, rfP, rvP, rhP, frP, bkd, hg]) <;> (try clear ee))
        · obtain rfl : c = 1 := by rw [hlc, if_pos f]
          refine nxt _ ?_
          rw [fin1 (by decide), hmap]
          (simp (disch := first | omega | (simp only [LN, numOk, verOk] <;> omega) | exact Ck.mk rfl) only [SB, EQ, Nat.reduceMul, Nat.reduceAdd, Nat.reduceSub, Nat.reduceLT, Nat.reduceEqDiff, Nat.reduceLeDiff, Nat.reduceBEq, reduceCtorEq, Int.reduceToNat, ↓reduceIte]; try omega)
        · rename_i g0
          obtain rfl : c = 0 := by rw [hlc, if_neg g0, if_pos f]
          refine nxt _ ?_
          rw [fin0 rfl]
          (simp (disch := first | omega | (simp only [LN, numOk, verOk] <;> omega) | exact Ck.mk rfl) only [SB, EQ, Nat.reduceMul, Nat.reduceAdd, Nat.reduceSub, Nat.reduceLT, Nat.reduceEqDiff, Nat.reduceLeDiff, Nat.reduceBEq, reduceCtorEq, Int.reduceToNat, ↓reduceIte]; try omega)
        · rename_i g0
          obtain rfl : c = 2 := by rw [hlc, if_neg g0, if_neg f]
          refine nxt _ ?_
          rw [fin1 (by decide), hmap]
          (simp (disch := first | omega | (simp only [LN, numOk, verOk] <;> omega) | exact Ck.mk rfl) only [SB, EQ, Nat.reduceMul, Nat.reduceAdd, Nat.reduceSub, Nat.reduceLT, Nat.reduceEqDiff, Nat.reduceLeDiff, Nat.reduceBEq, reduceCtorEq, Int.reduceToNat, ↓reduceIte]; try omega)
    · refine Wr.go ?_
      repeat' ((first | (have ee := True.intro; refine Wr.mk ?_) | ((first | refine br_go ?_ ?_ | refine pick_go ?_ ?_) <;> intro ee f <;> (try simp only [BB] at f) <;> (try simp only [numOk, verOk] at f))) <;> (try simp (maxSteps := 1000000) (disch := first | omega | (simp only [LN, numOk, verOk, rfP, rvP, rhP, frP, bkd] <;> omega) | exact Ck.mk rfl) only [ee, VC, T, Nat.reduceMul, Nat.reduceAdd, Nat.reduceSub, Nat.reduceLT, Nat.reduceEqDiff, Nat.reduceLeDiff, Nat.reduceBEq, reduceCtorEq, Int.reduceToNat, ↓reduceIte, rfP, rvP, rhP, frP, bkd]) <;> (try clear ee))
      obtain rfl : i = es.length := by omega
      rw [List.take_of_length_le (by rw [List.length_map]; exact Nat.le_refl _)] at hM
      rw [hM]
theorem impl_CleanOn (d : Dk) (h : DkOk d) : Fn Tryz.prog 57 [dkP d] [] (.bool (decide ((lookT d).length = 0))) [] := by
  have hL := impl_Looked d h
  have hl := lookT_len h
  have e : decide ((lookT d).length = 0) = decide (((lookT d).length : Int) = 0) := decide_eq_decide.mpr ⟨fun h => by omega, fun h => by omega⟩
  rw [e]
  generalize lookT d = L at *
  unfold dkP at *
  refine fn_x tok (n := 7) (rs := [.tmp 2]) Tryz.func57 (by decide) rfl rfl rfl rfl ?_
  refine Wr.go ?_
  repeat' ((first | (have ee := True.intro; refine Wr.mk ?_) | ((first | refine br_go ?_ ?_ | refine pick_go ?_ ?_) <;> intro ee f <;> (try simp only [BB] at f) <;> (try simp only [numOk, verOk] at f)) | (have ee := True.intro; first | refine call_x (hL) rfl ⟨rfl⟩ ?_)) <;> (try simp (maxSteps := 1000000) (disch := first | omega | (simp only [LN, numOk, verOk, rfP, rvP, rhP, frP, bkd] <;> omega) | exact Ck.mk rfl) only [ee, VC, T, Nat.reduceMul, Nat.reduceAdd, Nat.reduceSub, Nat.reduceLT, Nat.reduceEqDiff, Nat.reduceLeDiff, Nat.reduceBEq, reduceCtorEq, Int.reduceToNat, ↓reduceIte, rfP, rvP, rhP, frP, bkd]) <;> (try clear ee))
def withT (d : Dk) (c : Int) : List ByteArray := ((lookT d).filter fun x => decide (x.2 = c)).map (·.1)
def wtL (c : Int) (L : List (ByteArray × Int)) : List ByteArray := (L.filter fun x => decide (x.2 = c)).map (·.1)
theorem wtL_snoc (c : Int) (L : List (ByteArray × Int)) (i : Nat) (h : i < L.length) : wtL c (L.take (i + 1)) = wtL c (L.take i) ++ if (L.getD i default).2 = c then [(L.getD i default).1] else [] := by
  unfold wtL
  rw [filt_snoc _ L i h, List.map_append]
  congr 1
  by_cases hc : (L.getD i default).2 = c
  · rw [if_pos (decide_eq_true hc), if_pos hc]; rfl
  · rw [if_neg (by rw [decide_eq_false hc]; decide), if_neg hc]; rfl
theorem wtL_len (c : Int) (L : List (ByteArray × Int)) : (wtL c L).length ≤ L.length := by
  unfold wtL
  rw [List.length_map]
  exact List.length_filter_le _ _
theorem impl_NamesWith_R (d : Dk) (c : Int) (h : DkOk d) : FnE Tryz.prog 13 [dkP d, .int .i64 c] [] (fun r m => r = .row 64 (withT d c).length ∧ m = [(64, .row ⟨1, 0⟩ ((withT d c).map .str))]) := by
  have hL := impl_Looked d h
  have hl := lookT_len h
  rw [show withT d c = wtL c (lookT d) from rfl]
  generalize lookT d = L at *
  have hsn := wtL_snoc c L
  have hln := wtL_len c
  unfold dkP at *
  refine fn_e tok (n := 27) (rs := [.tmp 4]) Tryz.func13 (by decide) rfl rfl rfl rfl (low_of rfl) ?_
  refine Wr.go ?_
  repeat' ((first | (have ee := True.intro; refine Wr.mk ?_) | ((first | refine br_go ?_ ?_ | refine pick_go ?_ ?_) <;> intro ee f <;> (try simp only [BB] at f) <;> (try simp only [numOk, verOk] at f)) | (have ee := True.intro; first | refine call_x (hL) rfl ⟨rfl⟩ ?_)) <;> (try simp (maxSteps := 1000000) (disch := first | omega | (simp only [LN, numOk, verOk, rfP, rvP, rhP, frP, bkd] <;> omega) | exact Ck.mk rfl) only [ee, VC, T, Nat.reduceMul, Nat.reduceAdd, Nat.reduceSub, Nat.reduceLT, Nat.reduceEqDiff, Nat.reduceLeDiff, Nat.reduceBEq, reduceCtorEq, Int.reduceToNat, ↓reduceIte, rfP, rvP, rhP, frP, bkd]) <;> (try clear ee))
  refine lp_go (fun i : Nat => ⟨27, [(1, .int .i64 c), (5, .row 576 (wtL c (L.take i)).length), (10, .far (L.map fdP)), (11, .int .i64 L.length), (12, .int .i64 i)], [(576, .row ⟨1, 0⟩ ((wtL c (L.take i)).map .str))]⟩) (fun i => i ≤ L.length) (fun i => L.length - i) 0 ?_ (Nat.zero_le _) ?_
  · (simp (disch := first | omega | (simp only [LN, numOk, verOk] <;> omega) | exact Ck.mk rfl) only [SB, EQ, Nat.reduceMul, Nat.reduceAdd, Nat.reduceSub, Nat.reduceLT, Nat.reduceEqDiff, Nat.reduceLeDiff, Nat.reduceBEq, reduceCtorEq, Int.reduceToNat, ↓reduceIte]; try omega)
    exact ⟨rfl, rfl⟩
  · intro i hi N hN
    have hsn := hsn i
    have hM1 := hln (L.take i)
    rw [List.length_take] at hM1
    have hg : i < L.length → (L.map fdP).getD i .junk = .agg [.str (L.getD i default).1, .int .i64 (L.getD i default).2] := fun h => by
      rw [List.getD_eq_getElem?_getD, List.getElem?_map, List.getElem?_eq_getElem h, List.getD_eq_getElem?_getD, List.getElem?_eq_getElem h]; rfl
    generalize hM : wtL c (L.take i) = M at *
    generalize L.getD i default = p at *
    obtain ⟨nm, k⟩ := p
    simp only at *
    refine Wr.go ?_
    repeat' ((first | (have ee := True.intro; refine Wr.mk ?_) | ((first | refine br_go ?_ ?_ | refine pick_go ?_ ?_) <;> intro ee f <;> (try simp only [BB] at f) <;> (try simp only [numOk, verOk] at f))) <;> (try simp (maxSteps := 1000000) (disch := first | omega | (simp only [LN, numOk, verOk, rfP, rvP, rhP, frP, bkd, hg] <;> omega) | exact Ck.mk rfl) only [ee, VC, T, Nat.reduceMul, Nat.reduceAdd, Nat.reduceSub, Nat.reduceLT, Nat.reduceEqDiff, Nat.reduceLeDiff, Nat.reduceBEq, reduceCtorEq, Int.reduceToNat, ↓reduceIte, rfP, rvP, rhP, frP, bkd, hg]) <;> (try clear ee))
    · refine hN (i + 1) _ (by omega) (by omega) ?_
      rw [hsn (by omega), if_pos f]
      (simp (disch := first | omega | (simp only [LN, numOk, verOk] <;> omega) | exact Ck.mk rfl) only [SB, EQ, Nat.reduceMul, Nat.reduceAdd, Nat.reduceSub, Nat.reduceLT, Nat.reduceEqDiff, Nat.reduceLeDiff, Nat.reduceBEq, reduceCtorEq, Int.reduceToNat, ↓reduceIte]; try omega)
    · refine hN (i + 1) _ (by omega) (by omega) ?_
      rw [hsn (by omega), if_neg f, List.append_nil]
      (simp (disch := first | omega | (simp only [LN, numOk, verOk] <;> omega) | exact Ck.mk rfl) only [SB, EQ, Nat.reduceMul, Nat.reduceAdd, Nat.reduceSub, Nat.reduceLT, Nat.reduceEqDiff, Nat.reduceLeDiff, Nat.reduceBEq, reduceCtorEq, Int.reduceToNat, ↓reduceIte]; try omega)
    · obtain rfl : i = L.length := by omega
      rw [List.take_length] at hM
      rw [hM]
      exact fin_t [some 576] (⟨rfl, rfl⟩) rfl (by simp [RV, RV2, RVl, RV1, tau, tget, hget, data1, oneOf]) (by simp [RH, RVl, RV1, tau, hget, data1]) (by simp [Taus, hget])
theorem spec_NamesWith (d : Dk) (c : Int) (h : DkOk d) : Fn Tryz.prog 11 [dkP d, .int .i64 c] [] (.far ((withT d c).map .str)) [] := by
  have hL := spec_Looked d h
  have hl := lookT_len h
  rw [show withT d c = wtL c (lookT d) from rfl]
  generalize lookT d = L at *
  have hsn := wtL_snoc c L
  have hln := wtL_len c
  unfold dkP at *
  refine fn_x tok (n := 33) (rs := [.tmp 4]) Tryz.func11 (by decide) rfl rfl rfl rfl ?_
  refine Wr.go ?_
  repeat' ((first | (have ee := True.intro; refine Wr.mk ?_) | ((first | refine br_go ?_ ?_ | refine pick_go ?_ ?_) <;> intro ee f <;> (try simp only [BB] at f) <;> (try simp only [numOk, verOk] at f)) | (have ee := True.intro; first | refine call_x (hL) rfl ⟨rfl⟩ ?_)) <;> (try simp (maxSteps := 1000000) (disch := first | omega | (simp only [LN, numOk, verOk, rfP, rvP, rhP, frP, bkd] <;> omega) | exact Ck.mk rfl) only [ee, VC, T, Nat.reduceMul, Nat.reduceAdd, Nat.reduceSub, Nat.reduceLT, Nat.reduceEqDiff, Nat.reduceLeDiff, Nat.reduceBEq, reduceCtorEq, Int.reduceToNat, ↓reduceIte, rfP, rvP, rhP, frP, bkd]) <;> (try clear ee))
  refine lp_go (fun i : Nat => ⟨33, [(1, .int .i64 c), (5, .row 576 (wtL c (L.take i)).length), (6, .far (L.map fdP)), (7, .int .i64 i)], [(576, .row ⟨1, 0⟩ ((wtL c (L.take i)).map .str))]⟩) (fun i => i ≤ L.length) (fun i => L.length - i) 0 ?_ (Nat.zero_le _) ?_
  · (simp (disch := first | omega | (simp only [LN, numOk, verOk] <;> omega) | exact Ck.mk rfl) only [SB, EQ, Nat.reduceMul, Nat.reduceAdd, Nat.reduceSub, Nat.reduceLT, Nat.reduceEqDiff, Nat.reduceLeDiff, Nat.reduceBEq, reduceCtorEq, Int.reduceToNat, ↓reduceIte]; try omega)
    exact ⟨rfl, rfl⟩
  · intro i hi N hN
    have hsn := hsn i
    have hM1 := hln (L.take i)
    rw [List.length_take] at hM1
    have hg : i < L.length → (L.map fdP).getD i .junk = .agg [.str (L.getD i default).1, .int .i64 (L.getD i default).2] := fun h => by
      rw [List.getD_eq_getElem?_getD, List.getElem?_map, List.getElem?_eq_getElem h, List.getD_eq_getElem?_getD, List.getElem?_eq_getElem h]; rfl
    generalize hM : wtL c (L.take i) = M at *
    generalize L.getD i default = p at *
    obtain ⟨nm, k⟩ := p
    simp only at *
    refine Wr.go ?_
    repeat' ((first | (have ee := True.intro; refine Wr.mk ?_) | ((first | refine br_go ?_ ?_ | refine pick_go ?_ ?_) <;> intro ee f <;> (try simp only [BB] at f) <;> (try simp only [numOk, verOk] at f))) <;> (try simp (maxSteps := 1000000) (disch := first | omega | (simp only [LN, numOk, verOk, rfP, rvP, rhP, frP, bkd, hg] <;> omega) | exact Ck.mk rfl) only [ee, VC, T, Nat.reduceMul, Nat.reduceAdd, Nat.reduceSub, Nat.reduceLT, Nat.reduceEqDiff, Nat.reduceLeDiff, Nat.reduceBEq, reduceCtorEq, Int.reduceToNat, ↓reduceIte, rfP, rvP, rhP, frP, bkd, hg]) <;> (try clear ee))
    · refine hN (i + 1) _ (by omega) (by omega) ?_
      rw [hsn (by omega), if_pos f]
      (simp (disch := first | omega | (simp only [LN, numOk, verOk] <;> omega) | exact Ck.mk rfl) only [SB, EQ, Nat.reduceMul, Nat.reduceAdd, Nat.reduceSub, Nat.reduceLT, Nat.reduceEqDiff, Nat.reduceLeDiff, Nat.reduceBEq, reduceCtorEq, Int.reduceToNat, ↓reduceIte]; try omega)
    · refine hN (i + 1) _ (by omega) (by omega) ?_
      rw [hsn (by omega), if_neg f, List.append_nil]
      (simp (disch := first | omega | (simp only [LN, numOk, verOk] <;> omega) | exact Ck.mk rfl) only [SB, EQ, Nat.reduceMul, Nat.reduceAdd, Nat.reduceSub, Nat.reduceLT, Nat.reduceEqDiff, Nat.reduceLeDiff, Nat.reduceBEq, reduceCtorEq, Int.reduceToNat, ↓reduceIte]; try omega)
    · obtain rfl : i = L.length := by omega
      rw [List.take_length] at hM
      rw [hM]
end Go.Pv

/-
  DERIVED: THE SHELF's CONTRACTS AT THIS DUMP, IN PLAIN WORDS (tools/lay-plain.mjs out of 'TryzShelf.lean', which tools/lay-shelf.mjs wrote): THE SAME DECLARATIONS UNDER THE SAME NAMES: 'import', 'namespace', 'open', 'def', 'theorem' AND NOTHING ELSE: no command of the shelf's: FOR A HAND-IN. Each laying: the table of numbers ('.._ren') and one theorem, a field a fact of the dump's own or the kernel's comparison; each contract: ONE APPLICATION.
-/
namespace Go.Proofs
open Go.Shelf
end Go.Proofs

/- What functions of the program and of the reference do, in plain values. -/
namespace Go.Pv
open Go.Proofs Go.Mth
set_option linter.unusedSimpArgs false
set_option linter.unusedVariables false
set_option maxHeartbeats 4000000
set_option maxRecDepth 4000

end Go.Pv

/- What functions of the program and of the reference do, in plain values. -/
namespace Go.Pv
open Go.Proofs Go.Mth
set_option linter.unusedSimpArgs false
set_option linter.unusedVariables false
set_option maxHeartbeats 4000000
set_option maxRecDepth 4000

end Go.Pv

/- What functions of the program and of the reference do, in plain values. -/
namespace Go.Pv
open Go.Proofs Go.Mth
set_option linter.unusedSimpArgs false
set_option linter.unusedVariables false
set_option maxHeartbeats 4000000
set_option maxRecDepth 4000

/-! ### laws of drawn disks: names -/
theorem impl_NamesWith (d : Dk) (c : Int) (h : DkOk d) : Fn Tryz.prog 13 [dkP d, .int .i64 c] [] (.far ((withT d c).map .str)) [] := by
  obtain ⟨_, _, ⟨rfl, rfl⟩, k⟩ := impl_NamesWith_R d c h
  refine k.far ?_
  simp [fz, fz2, fz1, cvtl, elems, hget, data1]
theorem lkT_range (d : Dk) (L : List ByteArray) : ∀ x ∈ lkT d L, 1 ≤ x.2 ∧ x.2 ≤ 4 := by
  intro x hx
  unfold lkT at hx
  rw [List.mem_flatMap] at hx
  obtain ⟨n, _, hx⟩ := hx
  split at hx
  · simp at hx
  · rename_i h0
    rw [List.mem_singleton] at hx
    subst hx
    have := lookC_r d n
    simp only
    omega
def sW (L : List (ByteArray × Int)) : Nat → Nat
  | 0 => 0
  | k + 1 => sW L k + (wtL ((k : Int) + 1) L).length
theorem sW4 (L : List (ByteArray × Int)) : sW L 4 = (wtL 1 L).length + (wtL 2 L).length + (wtL 3 L).length + (wtL 4 L).length := by
  simp only [sW, Nat.zero_add]
  rfl
theorem wt_sum : ∀ (L : List (ByteArray × Int)), (∀ x ∈ L, 1 ≤ x.2 ∧ x.2 ≤ 4) → sW L 4 = L.length
  | [], _ => rfl
  | x :: L, h => by
    have ih := wt_sum L (fun y hy => h y (List.mem_cons_of_mem _ hy))
    have h1 := h x List.mem_cons_self
    have e : ∀ c, (wtL c (x :: L)).length = (wtL c L).length + if x.2 = c then 1 else 0 := fun c => by
      unfold wtL
      rw [List.filter_cons]
      by_cases hc : x.2 = c
      · rw [if_pos (decide_eq_true hc), if_pos hc, List.map_cons, List.length_cons]
      · rw [if_neg (by rw [decide_eq_false hc]; decide), if_neg hc, Nat.add_zero]
    rw [sW4] at ih ⊢
    rw [e, e, e, e, List.length_cons]
    have hx : x.2 = 1 ∨ x.2 = 2 ∨ x.2 = 3 ∨ x.2 = 4 := by omega
    rcases hx with hx | hx | hx | hx
    · rw [hx, if_pos rfl, if_neg (by decide), if_neg (by decide), if_neg (by decide)]; omega
    · rw [hx, if_neg (by decide), if_pos rfl, if_neg (by decide), if_neg (by decide)]; omega
    · rw [hx, if_neg (by decide), if_neg (by decide), if_pos rfl, if_neg (by decide)]; omega
    · rw [hx, if_neg (by decide), if_neg (by decide), if_neg (by decide), if_pos rfl]; omega
theorem sW_le (L : List (ByteArray × Int)) : ∀ k, sW L k ≤ k * L.length
  | 0 => Nat.zero_le _
  | k + 1 => by
    have h1 := sW_le L k
    have h2 := wtL_len ((k : Int) + 1) L
    unfold sW
    rw [Nat.succ_mul]
    omega
set_option maxRecDepth 100000 in
theorem named0 : (withT dk0t 1).length = 1 := by decide +kernel
theorem dk0t_ok : DkOk dk0t := by
  refine ⟨by decide, by decide, by decide, by decide, fun x hx => ?_, fun x hx => ?_, fun x hx => absurd hx (by simp [dk0t]), fun x hx => ?_⟩ <;> simp only [dk0t, List.mem_singleton] at hx <;> subst hx <;> decide
theorem create_nm0t : Fn Tryz.prog 36 [dkP (newT 500), .str ⟨#[115, 48, 48, 48, 48, 48, 48, 48, 48, 46, 115, 101, 103, 46, 116, 109, 112]⟩] [] (.tup [dkP dk0t, .int .i64 0]) [] := by
  have k := spec_CreateFile (newT 500) nm0t (newT_B _ _ _) (by decide)
  rw [create0t] at k
  exact k
set_option maxRecDepth 20000 in
theorem law_FnNamed (code : List Int) (hc : code.length ≤ 9223372036854775807 ∧ ∀ a ∈ code, (Lit.int .u8 a).wf = true) : Fn Tryz.prog 7 [.far (code.map (.int .u8))] [] (.bool true) [] := by
  have k1 := new500
  have k2 := create_nm0t
  have k3 := impl_NamesWith dk0t 1 dk0t_ok
  have k4 := named0
  generalize withT dk0t 1 = W at *
  generalize newT 500 = d5 at *
  generalize dk0t = d6 at *
  refine fn_x tok (n := 51) (rs := [.tmp 2]) Tryz.func7 (by decide) rfl rfl rfl rfl ?_
  refine Wr.go ?_
  repeat' ((first | (have ee := True.intro; refine Wr.mk ?_) | ((first | refine br_go ?_ ?_ | refine pick_go ?_ ?_) <;> intro ee f <;> (try simp only [BB] at f) <;> (try simp only [numOk, verOk] at f)) | (have ee := True.intro; first | refine call_x (laws_bigD _ hc.1) rfl ⟨rfl⟩ ?_)) <;> (try simp (maxSteps := 1000000) (disch := first | omega | (simp only [LN, numOk, verOk, dkP, beq_self_eq_true, bkd] <;> omega) | exact Ck.mk rfl) only [ee, VC, T, Nat.reduceMul, Nat.reduceAdd, Nat.reduceSub, Nat.reduceLT, Nat.reduceEqDiff, Nat.reduceLeDiff, Nat.reduceBEq, reduceCtorEq, Int.reduceToNat, ↓reduceIte, dkP, beq_self_eq_true, bkd]) <;> (try clear ee))
  refine call_v (DrawNamesWith code (CodeOk.bytes hc f)) rfl ?_
  rintro _ ⟨d, k, rfl, hd, hk⟩
  refine ⟨⟨rfl⟩, ?_⟩
  have a1 := fun c => impl_NamesWith d c hd
  have a2 := spec_NamesWith d k hd
  have a3 := spec_Looked d hd
  have hln := lookT_len hd
  have hsm := wt_sum (lookT d) (lkT_range d _)
  have hsl := sW_le (lookT d)
  have hw : ∀ c, withT d c = wtL c (lookT d) := fun c => rfl
  have hwl := fun c => wtL_len c (lookT d)
  simp only [hw] at a1 a2
  generalize lookT d = L at *
  unfold dkP at *
  refine Wr.go ?_
  repeat' ((first | (have ee := True.intro; refine Wr.mk ?_) | ((first | refine br_go ?_ ?_ | refine pick_go ?_ ?_) <;> intro ee f <;> (try simp only [BB] at f) <;> (try simp only [numOk, verOk] at f))) <;> (try simp (maxSteps := 1000000) (disch := first | omega | (simp only [LN, numOk, verOk, dkP, beq_self_eq_true, bkd] <;> omega) | exact Ck.mk rfl) only [ee, VC, T, Nat.reduceMul, Nat.reduceAdd, Nat.reduceSub, Nat.reduceLT, Nat.reduceEqDiff, Nat.reduceLeDiff, Nat.reduceBEq, reduceCtorEq, Int.reduceToNat, ↓reduceIte, dkP, beq_self_eq_true, bkd]) <;> (try clear ee))
  refine lp_go (fun x : Nat => ⟨51, [(3, .ref 256 0), (4, .int .i64 k), (5, .int .i64 (sW L x : Nat)), (6, .int .i64 ((x : Int) + 1))], [(256, .box 32 [.far (d.1.map ndP), .far (d.2.1.map enP), .far (d.2.2.1.map enP), .far (d.2.2.2.1.map .str), .int .i64 d.2.2.2.2.1, .int .i64 d.2.2.2.2.2])]⟩) (fun x => x ≤ 4) (fun x => 4 - x) 0 ?_ (by decide) ?_
  · (simp (disch := first | omega | (simp only [LN, numOk, verOk] <;> omega) | exact Ck.mk rfl) only [SB, EQ, Nat.reduceMul, Nat.reduceAdd, Nat.reduceSub, Nat.reduceLT, Nat.reduceEqDiff, Nat.reduceLeDiff, Nat.reduceBEq, reduceCtorEq, Int.reduceToNat, ↓reduceIte]; try omega)
    exact ⟨rfl, rfl⟩
  · intro x hx N hN
    have hs1 : sW L (x + 1) = sW L x + (wtL ((x : Int) + 1) L).length := rfl
    have hs2 := hsl x
    have hs3 := hwl ((x : Int) + 1)
    have hs4 : x * L.length ≤ 4 * L.length := Nat.mul_le_mul_right _ hx
    by_cases h4 : x < 4
    · have a1 := a1 ((x : Int) + 1)
      generalize wtL ((x : Int) + 1) L = w at *
      refine Wr.go ?_
      repeat' ((first | (have ee := True.intro; refine Wr.mk ?_) | ((first | refine br_go ?_ ?_ | refine pick_go ?_ ?_) <;> intro ee f <;> (try simp only [BB] at f) <;> (try simp only [numOk, verOk] at f)) | (have ee := True.intro; first | refine call_x (a1) rfl ⟨rfl⟩ ?_)) <;> (try simp (maxSteps := 1000000) (disch := first | omega | (simp only [LN, numOk, verOk, dkP, beq_self_eq_true, bkd] <;> omega) | exact Ck.mk rfl) only [ee, VC, T, Nat.reduceMul, Nat.reduceAdd, Nat.reduceSub, Nat.reduceLT, Nat.reduceEqDiff, Nat.reduceLeDiff, Nat.reduceBEq, reduceCtorEq, Int.reduceToNat, ↓reduceIte, dkP, beq_self_eq_true, bkd]) <;> (try clear ee))
      refine hN (x + 1) _ (by omega) (by omega) ?_
      rw [hs1]
      (simp (disch := first | omega | (simp only [LN, numOk, verOk] <;> omega) | exact Ck.mk rfl) only [SB, EQ, Nat.reduceMul, Nat.reduceAdd, Nat.reduceSub, Nat.reduceLT, Nat.reduceEqDiff, Nat.reduceLeDiff, Nat.reduceBEq, reduceCtorEq, Int.reduceToNat, ↓reduceIte]; try omega)
    · obtain rfl : x = 4 := by omega
      have a1 := a1 k
      have hkl := hwl k
      generalize wtL k L = w at *
      rw [hsm]
      refine Wr.go ?_
      repeat' ((first | (have ee := True.intro; refine Wr.mk ?_) | ((first | refine br_go ?_ ?_ | refine pick_go ?_ ?_) <;> intro ee f <;> (try simp only [BB] at f) <;> (try simp only [numOk, verOk] at f)) | (have ee := True.intro; first | refine dr_go mixed (id := 10) [([], [3], []), ([], [4], []), ([0, 1], [31, 32], []), ([], [3], []), ([], [4], []), ([0, 1, 2, 3, 4], [34, 35], []), ([0, 1, 2, 3, 4, 5], [33, 36], []), ([0, 1, 2, 3, 4, 5, 6], [37], []), ([0, 1, 2, 3, 4, 5, 6, 7], [5, 38], []), ([0, 1, 2, 3, 4, 5, 6, 7], [3, 38], []), ([0, 1, 2, 3, 4, 5, 6, 7, 9], [38, 40], []), ([0, 1, 2, 3, 4, 5, 6, 7, 9, 10], [38, 41], []), ([0, 1, 2, 3, 4, 5, 6, 7, 8, 9, 10, 11], [38, 39, 42], []), ([0, 1, 2, 3, 4, 5, 6, 7, 8, 9, 10, 11, 12], [38, 43], []), ([0, 1, 2, 3, 4, 5, 6, 7, 8, 9, 10, 11, 12, 13], [44], []), ([0, 1, 2, 3, 4, 5, 6, 7, 8, 9, 10, 11, 12, 13, 14], [7, 45], []), ([0, 1, 2, 3, 4, 5, 6, 7, 8, 9, 10, 11, 12, 13, 14, 15], [45, 46], []), ([0, 1, 2, 3, 4, 5, 6, 7, 8, 9, 10, 11, 12, 13, 14, 15, 16], [45, 47], []), ([0, 1, 2, 3, 4, 5, 6, 7, 8, 9, 10, 11, 12, 13, 14, 15, 16, 17], [45, 48], []), ([0, 1, 2, 3, 4, 5, 6, 7, 8, 9, 10, 11, 12, 13, 14, 15, 16, 17, 18], [45, 49], []), ([0, 1, 2, 3, 4, 5, 6, 7, 8, 9, 10, 11, 12, 13, 14, 15, 16, 17, 18, 19], [50], [])] rfl rfl rfl ?_ | refine call_x (a1) rfl ⟨rfl⟩ ?_ | refine call_x (a2) rfl ⟨rfl⟩ ?_ | refine call_x (a3) rfl ⟨rfl⟩ ?_ | refine call_x (k1) rfl ⟨rfl⟩ ?_ | refine call_x (k2) rfl ⟨rfl⟩ ?_ | refine call_x (k3) rfl ⟨rfl⟩ ?_ | refine call_x (laws_sameStr _ _ (by omega)) rfl ⟨rfl⟩ ?_)) <;> (try simp (maxSteps := 1000000) (disch := first | omega | (simp only [LN, numOk, verOk, dkP, beq_self_eq_true, bkd, k4] <;> omega) | exact Ck.mk rfl) only [ee, VC, T, Nat.reduceMul, Nat.reduceAdd, Nat.reduceSub, Nat.reduceLT, Nat.reduceEqDiff, Nat.reduceLeDiff, Nat.reduceBEq, reduceCtorEq, Int.reduceToNat, ↓reduceIte, dkP, beq_self_eq_true, bkd, k4]) <;> (try clear ee))
      simp
end Go.Pv

/- What functions of the program and of the reference do, in plain values. -/
namespace Go.Pv
open Go.Proofs Go.Mth
set_option linter.unusedSimpArgs false
set_option linter.unusedVariables false
set_option maxHeartbeats 4000000
set_option maxRecDepth 4000

/-! ### laws of drawn disks: findings -/
def nmF (c : Int) : ByteArray := if c = 1 then ⟨#[116, 101, 109, 112]⟩ else if c = 2 then ⟨#[108, 111, 111, 115, 101]⟩ else if c = 3 then ⟨#[111, 112, 101, 110]⟩ else ⟨#[98, 114, 111, 107, 101, 110]⟩
theorem impl_FindingNameN (c : Int) (h : 1 ≤ c ∧ c ≤ 4) : Fn Tryz.prog 60 [.int .i64 c] [] (.str (nmF c)) [] := by
  have hc : c = 1 ∨ c = 2 ∨ c = 3 ∨ c = 4 := by omega
  rcases hc with rfl | rfl | rfl | rfl
  all_goals
    refine fn_x tok (n := 11) (rs := [.tmp 2]) Tryz.func60 (by decide) rfl rfl rfl rfl ?_
    refine Wr.go ?_
    repeat' ((first | (have ee := True.intro; refine Wr.mk ?_) | ((first | refine br_go ?_ ?_ | refine pick_go ?_ ?_) <;> intro ee f <;> (try simp only [BB] at f) <;> (try simp only [numOk, verOk] at f)) | (have ee := True.intro; first | refine call_x (impl_within _ _ _) rfl ⟨rfl⟩ ?_)) <;> (try simp (maxSteps := 1000000) (disch := first | omega | (simp only [LN, numOk, verOk, dkP, fdP, beq_self_eq_true, bkd] <;> omega) | exact Ck.mk rfl) only [ee, VC, T, Nat.reduceMul, Nat.reduceAdd, Nat.reduceSub, Nat.reduceLT, Nat.reduceEqDiff, Nat.reduceLeDiff, Nat.reduceBEq, reduceCtorEq, Int.reduceToNat, ↓reduceIte, dkP, fdP, beq_self_eq_true, bkd]) <;> (try clear ee))
    exact ⟨by decide, rfl⟩
theorem nmF_ne (c : Int) : nmF c ≠ ⟨#[63]⟩ := by
  unfold nmF
  split
  · decide
  · split
    · decide
    · split <;> decide
theorem laws_sameFindings (xs ys : List (ByteArray × Int)) (hx : xs.length ≤ 4611686018427387904) : Fn Tryz.prog 56 [.far (xs.map fdP), .far (ys.map fdP)] [] (.bool (decide (xs = ys))) [] := by
  refine fn_x tok (n := 26) (rs := [.tmp 4]) Tryz.func56 (by decide) rfl rfl rfl rfl ?_
  refine Wr.go ?_
  repeat' ((first | (have ee := True.intro; refine Wr.mk ?_) | ((first | refine br_go ?_ ?_ | refine pick_go ?_ ?_) <;> intro ee f <;> (try simp only [BB] at f) <;> (try simp only [numOk, verOk] at f))) <;> (try simp (maxSteps := 1000000) (disch := first | omega | (simp only [LN, numOk, verOk, dkP, fdP, beq_self_eq_true, bkd] <;> omega) | exact Ck.mk rfl) only [ee, VC, T, Nat.reduceMul, Nat.reduceAdd, Nat.reduceSub, Nat.reduceLT, Nat.reduceEqDiff, Nat.reduceLeDiff, Nat.reduceBEq, reduceCtorEq, Int.reduceToNat, ↓reduceIte, dkP, fdP, beq_self_eq_true, bkd]) <;> (try clear ee))
  · have hl : xs.length = ys.length := by omega
    refine lp_go (fun i : Nat => ⟨26, [(0, .far (xs.map fdP)), (1, .far (ys.map fdP)), (5, .int .i64 i)], []⟩) (fun i => i ≤ xs.length ∧ xs.take i = ys.take i) (fun i => xs.length - i) 0 ?_ ⟨Nat.zero_le _, rfl⟩ ?_
    · (simp (disch := first | omega | (simp only [LN, numOk, verOk] <;> omega) | exact Ck.mk rfl) only [SB, EQ, Nat.reduceMul, Nat.reduceAdd, Nat.reduceSub, Nat.reduceLT, Nat.reduceEqDiff, Nat.reduceLeDiff, Nat.reduceBEq, reduceCtorEq, Int.reduceToNat, ↓reduceIte]; try omega)
    · rintro i ⟨h1, h2⟩ N hN
      have hg : ∀ zs : List (ByteArray × Int), i < zs.length → (zs.map fdP).getD i .junk = .agg [.str (zs.getD i default).1, .int .i64 (zs.getD i default).2] := fun zs h => by
        rw [List.getD_eq_getElem?_getD, List.getElem?_map, List.getElem?_eq_getElem h, List.getD_eq_getElem?_getD, List.getElem?_eq_getElem h]; rfl
      have heq : (xs.getD i default).1 = (ys.getD i default).1 → (xs.getD i default).2 = (ys.getD i default).2 → xs.getD i default = ys.getD i default := fun h1 h2 => Prod.ext h1 h2
      refine Wr.go ?_
      repeat' ((first | (have ee := True.intro; refine Wr.mk ?_) | ((first | refine br_go ?_ ?_ | refine pick_go ?_ ?_) <;> intro ee f <;> (try simp only [BB] at f) <;> (try simp only [numOk, verOk] at f)) | (have ee := True.intro; first | refine dr_go mixed (id := 6) [([], [0], []), ([], [5], []), ([0, 1], [17, 18], []), ([0, 1, 2], [19], []), ([], [1], []), ([], [5], []), ([4, 5], [21, 22], []), ([4, 5, 6], [23], []), ([0, 1, 2, 3, 4, 5, 6, 7], [20, 24], [])] rfl rfl rfl ?_)) <;> (try simp (maxSteps := 1000000) (disch := first | omega | (simp only [LN, numOk, verOk, dkP, fdP, beq_self_eq_true, bkd, hg] <;> omega) | exact Ck.mk rfl) only [ee, VC, T, Nat.reduceMul, Nat.reduceAdd, Nat.reduceSub, Nat.reduceLT, Nat.reduceEqDiff, Nat.reduceLeDiff, Nat.reduceBEq, reduceCtorEq, Int.reduceToNat, ↓reduceIte, dkP, fdP, beq_self_eq_true, bkd, hg]) <;> (try clear ee))
      · refine hN (i + 1) _ ⟨by omega, eq_stp xs ys i hl (by omega) h2 (heq f.1 f.2)⟩ (by omega) ?_
        (simp (disch := first | omega | (simp only [LN, numOk, verOk] <;> omega) | exact Ck.mk rfl) only [SB, EQ, Nat.reduceMul, Nat.reduceAdd, Nat.reduceSub, Nat.reduceLT, Nat.reduceEqDiff, Nat.reduceLeDiff, Nat.reduceBEq, reduceCtorEq, Int.reduceToNat, ↓reduceIte]; try omega)
      · rw [decide_eq_false fun h => by subst h; rcases f with f | f <;> exact f rfl]
      · rw [List.take_of_length_le (by omega), List.take_of_length_le (by omega)] at h2
        rw [decide_eq_true h2]
  · rw [decide_eq_false fun h => f (by rw [h])]
def cntB (x : ByteArray × Int) : Bool := decide (x.2 = 1 ∨ x.2 = 2)
theorem loose_iff (d : Dk) (n : ByteArray) : looseB (chainT d) n = true ↔ lookC d n = 1 ∨ lookC d n = 2 := by
  have hr := nameOf_range n
  unfold looseB lookC
  generalize nameOf n = q at *
  obtain ⟨k, b⟩ := q
  simp only at *
  by_cases h2 : k = 2
  · simp [h2]
  · by_cases h0 : k = 0
    · simp [h0]
    · have h1 : k = 1 := by omega
      subst h1
      by_cases hm : b ∈ chainT d
      · simp only [hm]
        simp
        split
        · omega
        · split <;> omega
      · simp [hm]
theorem cnt_look (d : Dk) : ∀ NL : List ByteArray, ((lkT d NL).filter cntB).length = (NL.filter (looseB (chainT d))).length
  | [] => rfl
  | n :: NL => by
    have ih := cnt_look d NL
    have hi := loose_iff d n
    have e : lkT d (n :: NL) = (if lookC d n = 0 then [] else [(n, lookC d n)]) ++ lkT d NL := rfl
    rw [e, List.filter_append, List.length_append, ih, List.filter_cons]
    by_cases hb : looseB (chainT d) n = true
    · have hl := hi.1 hb
      rw [if_pos hb, if_neg (by omega), List.filter_cons_of_pos (by unfold cntB; exact decide_eq_true hl), List.length_cons, List.filter_nil, List.length_nil, List.length_cons]
      omega
    · rw [if_neg hb]
      have hl : ¬ (lookC d n = 1 ∨ lookC d n = 2) := fun h => hb (hi.2 h)
      split
      · rw [List.filter_nil, List.length_nil, Nat.zero_add]
      · rw [List.filter_cons_of_neg (by unfold cntB; rw [decide_eq_false hl]; decide), List.filter_nil, List.length_nil, Nat.zero_add]
theorem look_names (d : Dk) : ∀ NL : List ByteArray, ((lkT d NL).map (·.1)).Sublist NL
  | [] => List.Sublist.slnil
  | n :: NL => by
    have ih := look_names d NL
    have e : lkT d (n :: NL) = (if lookC d n = 0 then [] else [(n, lookC d n)]) ++ lkT d NL := rfl
    rw [e]
    split
    · exact ih.cons n
    · exact ih.cons_cons n
theorem look_asc (d : Dk) (h : diskOk d) (i : Nat) (h0 : 0 < i) (hi : i < (lookT d).length) : sLt ((lookT d).getD (i - 1) default).1 ((lookT d).getD i default).1 = true := by
  have hp : ((lookT d).map (·.1)).Pairwise fun a b => sLt a b = true := (entsOk_pairs (diskOk_ents h)).sublist (look_names d _)
  rw [List.pairwise_iff_getElem] at hp
  have k := hp (i - 1) i (by rw [List.length_map]; omega) (by rw [List.length_map]; omega) (by omega)
  rw [List.getElem_map, List.getElem_map] at k
  rw [List.getD_eq_getElem?_getD, List.getElem?_eq_getElem (by omega), List.getD_eq_getElem?_getD, List.getElem?_eq_getElem hi]
  exact k
set_option maxRecDepth 20000 in
theorem law_FnLooked (code : List Int) (hc : code.length ≤ 9223372036854775807 ∧ ∀ a ∈ code, (Lit.int .u8 a).wf = true) : Fn Tryz.prog 9 [.far (code.map (.int .u8))] [] (.bool true) [] := by
  refine fn_x tok (n := 103) (rs := [.tmp 2]) Tryz.func9 (by decide) rfl rfl rfl rfl ?_
  refine Wr.go ?_
  repeat' ((first | (have ee := True.intro; refine Wr.mk ?_) | ((first | refine br_go ?_ ?_ | refine pick_go ?_ ?_) <;> intro ee f <;> (try simp only [BB] at f) <;> (try simp only [numOk, verOk] at f)) | (have ee := True.intro; first | refine call_x (laws_bigD _ hc.1) rfl ⟨rfl⟩ ?_)) <;> (try simp (maxSteps := 1000000) (disch := first | omega | (simp only [LN, numOk, verOk, dkP, fdP, beq_self_eq_true, bkd] <;> omega) | exact Ck.mk rfl) only [ee, VC, T, Nat.reduceMul, Nat.reduceAdd, Nat.reduceSub, Nat.reduceLT, Nat.reduceEqDiff, Nat.reduceLeDiff, Nat.reduceBEq, reduceCtorEq, Int.reduceToNat, ↓reduceIte, dkP, fdP, beq_self_eq_true, bkd]) <;> (try clear ee))
  refine call_v (DrawLooked code (CodeOk.bytes hc f)) rfl ?_
  rintro _ ⟨d, rfl, hd⟩
  refine ⟨⟨rfl⟩, ?_⟩
  have a1 := impl_Looked d hd
  have a2 := spec_Looked d hd
  have a3 := impl_CleanOn d hd
  have a4 := impl_VersionsOn d hd
  have a5 := spec_VersionsOn d hd
  have a6 := spec_LooseNames d hd
  have a7 := spec_DiskOk d hd
  have a8 := impl_OldOn d (versT d) (by rw [versT_len]; exact chainT_length d) a4
  have a9 := spec_OldOn d (versT d) (by rw [versT_len]; exact chainT_length d) a5
  have hvl : (versT d).length ≤ 16 := by rw [versT_len]; exact chainT_length d
  have hll := lookT_len hd
  have hrg := lkT_range d (namesT d)
  have hcn := cnt_look d (namesT d)
  have hac := look_asc d
  have hlT : lkT d (namesT d) = lookT d := rfl
  have hls : (namesT d).filter (looseB (chainT d)) = looseT d := rfl
  rw [hlT] at hrg hcn
  rw [hls] at hcn
  generalize lookT d = L at *
  generalize versT d = V at *
  generalize looseT d = W at *
  unfold dkP at *
  have hce : decide (L.length = 0) = decide ((L.length : Int) = 0) := by rw [Bool.eq_iff_iff, decide_eq_true_iff, decide_eq_true_iff]; omega
  rw [hce] at a3
  refine Wr.go ?_
  repeat' ((first | (have ee := True.intro; refine Wr.mk ?_) | ((first | refine br_go ?_ ?_ | refine pick_go ?_ ?_) <;> intro ee f <;> (try simp only [BB] at f) <;> (try simp only [numOk, verOk] at f)) | (have ee := True.intro; first | refine dr_go mixed (id := 5) [([], [4], []), ([], [3], []), ([1], [15], []), ([0, 1, 2], [14, 16], []), ([0, 1, 2, 3], [17], []), ([0, 1, 2, 3, 4], [18], []), ([0, 1, 2, 3, 4, 5], [3, 19], []), ([0, 1, 2, 3, 4, 5, 6], [19, 20], []), ([0, 1, 2, 3, 4, 5], [4, 19], []), ([0, 1, 2, 3, 4, 5, 8], [19, 22], []), ([0, 1, 2, 3, 4, 5, 8, 9], [19, 23], []), ([0, 1, 2, 3, 4, 5, 6, 7, 8, 9, 10], [19, 21, 24], []), ([0, 1, 2, 3, 4, 5, 6, 7, 8, 9, 10, 11], [19, 25], []), ([0, 1, 2, 3, 4, 5, 6, 7, 8, 9, 10, 11, 12], [26], []), ([0, 1, 2, 3, 4, 5, 6, 7, 8, 9, 10, 11, 12, 13], [3, 27], []), ([0, 1, 2, 3, 4, 5, 6, 7, 8, 9, 10, 11, 12, 13, 14], [27, 28], []), ([0, 1, 2, 3, 4, 5, 6, 7, 8, 9, 10, 11, 12, 13], [3, 27], []), ([0, 1, 2, 3, 4, 5, 6, 7, 8, 9, 10, 11, 12, 13, 14, 15, 16], [27, 30], []), ([0, 1, 2, 3, 4, 5, 6, 7, 8, 9, 10, 11, 12, 13, 14, 15, 16, 17], [27, 29, 31], []), ([0, 1, 2, 3, 4, 5, 6, 7, 8, 9, 10, 11, 12, 13, 14, 15, 16, 17, 18], [27, 32], []), ([0, 1, 2, 3, 4, 5, 6, 7, 8, 9, 10, 11, 12, 13, 14, 15, 16, 17, 18, 19], [27, 33], [])] rfl rfl rfl ?_ | refine call_x (a1) rfl ⟨rfl⟩ ?_ | refine call_x (a2) rfl ⟨rfl⟩ ?_ | refine call_x (laws_sameFindings L L (by omega)) rfl ⟨rfl⟩ ?_ | refine call_x (a3) rfl ⟨rfl⟩ ?_ | refine call_x (a4) rfl ⟨rfl⟩ ?_ | refine call_x (a5) rfl ⟨rfl⟩ ?_ | refine call_x (laws_sameInt V V (by omega)) rfl ⟨rfl⟩ ?_ | refine call_x (a6) rfl ⟨rfl⟩ ?_)) <;> (try simp (maxSteps := 1000000) (disch := first | omega | (simp only [LN, numOk, verOk, dkP, fdP, beq_self_eq_true, bkd] <;> omega) | exact Ck.mk rfl) only [ee, VC, T, Nat.reduceMul, Nat.reduceAdd, Nat.reduceSub, Nat.reduceLT, Nat.reduceEqDiff, Nat.reduceLeDiff, Nat.reduceBEq, reduceCtorEq, Int.reduceToNat, ↓reduceIte, dkP, fdP, beq_self_eq_true, bkd]) <;> (try clear ee))
  refine lp_go (fun x : Nat => ⟨103, [(3, .ref 256 0), (4, .far (L.map fdP)), (5, .far (W.map .str)), (6, .int .i64 ((L.take x).filter cntB).length), (7, .int .i64 x)], [(256, .box 32 [.far (d.1.map ndP), .far (d.2.1.map enP), .far (d.2.2.1.map enP), .far (d.2.2.2.1.map .str), .int .i64 d.2.2.2.2.1, .int .i64 d.2.2.2.2.2])]⟩) (fun x => x ≤ L.length) (fun x => L.length - x) 0 ?_ (Nat.zero_le _) ?_
  · (simp (disch := first | omega | (simp only [LN, numOk, verOk] <;> omega) | exact Ck.mk rfl) only [SB, EQ, Nat.reduceMul, Nat.reduceAdd, Nat.reduceSub, Nat.reduceLT, Nat.reduceEqDiff, Nat.reduceLeDiff, Nat.reduceBEq, reduceCtorEq, Int.reduceToNat, ↓reduceIte]; try omega)
    all_goals (try exact ⟨rfl, rfl⟩)
    all_goals (try rfl)
  · intro x hx N hN
    have hnx : ((L.take x).filter cntB).length ≤ x := by
      have := List.length_filter_le cntB (L.take x)
      rw [List.length_take] at this
      omega
    by_cases hxl : x < L.length
    · have hg : ∀ j, j < L.length → (L.map fdP).getD j .junk = .agg [.str (L.getD j default).1, .int .i64 (L.getD j default).2] := fun j h => by
        rw [List.getD_eq_getElem?_getD, List.getElem?_map, List.getElem?_eq_getElem h, List.getD_eq_getElem?_getD, List.getElem?_eq_getElem h]; rfl
      have hj : ((x : Int) - 1).toNat = x - 1 := by omega
      have hsn := flt_snoc cntB L x hxl
      have hr := hrg _ (getD_mem L x hxl)
      have hF := impl_FindingNameN (L.getD x default).2 hr
      have hne : (nmF (L.getD x default).2 = ⟨#[63]⟩) = False := eq_false (nmF_ne _)
      have hc1 : ((L.getD x default).2 = 1 ∨ (L.getD x default).2 = 2) → ((L.take (x + 1)).filter cntB).length = ((L.take x).filter cntB).length + 1 := fun h => by
        rw [hsn, if_pos (by unfold cntB; exact decide_eq_true h), List.length_append, List.length_singleton]
      have hc0 : ¬ ((L.getD x default).2 = 1 ∨ (L.getD x default).2 = 2) → ((L.take (x + 1)).filter cntB).length = ((L.take x).filter cntB).length := fun h => by
        rw [hsn, if_neg (by unfold cntB; rw [decide_eq_false h]; decide), List.append_nil]
      have hac := fun h h0 => hac h x h0 hxl
      generalize ((L.take x).filter cntB).length = n at *
      refine Wr.go ?_
      repeat' ((first | (have ee := True.intro; refine Wr.mk ?_) | ((first | refine br_go ?_ ?_ | refine pick_go ?_ ?_) <;> intro ee f <;> (try simp only [BB] at f) <;> (try simp only [numOk, verOk] at f)) | (have ee := True.intro; first | refine dr_go mixed (id := 14) [([], [4], []), ([], [7], []), ([0, 1], [59, 60], []), ([0, 1, 2], [61], []), ([0, 1, 2, 3], [62], []), ([0, 1, 2, 3, 4], [63], []), ([0, 1, 2, 3, 4, 5], [64], []), ([0, 1, 2, 3, 4, 5, 6], [65], []), ([0, 1, 2, 3, 4, 5, 6, 7], [7, 66], []), ([0, 1, 2, 3, 4, 5, 6, 7, 8], [66, 67], []), ([0, 1, 2, 3, 4, 5, 6, 7, 8, 9], [66, 68], []), ([0, 1, 2, 3, 4, 5, 6, 7, 8, 9, 10], [4, 69], []), ([0, 1, 2, 3, 4, 5, 6, 7, 8, 9, 10], [7, 69], []), ([0, 1, 2, 3, 4, 5, 6, 7, 8, 9, 10, 12], [69, 71], []), ([0, 1, 2, 3, 4, 5, 6, 7, 8, 9, 10, 11, 12, 13], [69, 70, 72], []), ([0, 1, 2, 3, 4, 5, 6, 7, 8, 9, 10, 11, 12, 13, 14], [69, 73], []), ([0, 1, 2, 3, 4, 5, 6, 7, 8, 9, 10, 11, 12, 13, 14, 15], [69, 74], []), ([0, 1, 2, 3, 4, 5, 6, 7, 8, 9, 10], [4, 69], []), ([0, 1, 2, 3, 4, 5, 6, 7, 8, 9, 10], [7, 69], []), ([0, 1, 2, 3, 4, 5, 6, 7, 8, 9, 10, 17, 18], [69, 76, 77], []), ([0, 1, 2, 3, 4, 5, 6, 7, 8, 9, 10, 17, 18, 19], [69, 78], []), ([0, 1, 2, 3, 4, 5, 6, 7, 8, 9, 10, 17, 18, 19, 20], [69, 79], []), ([0, 1, 2, 3, 4, 5, 6, 7, 8, 9, 10, 11, 12, 13, 14, 15, 16, 17, 18, 19, 20, 21], [69, 75, 80], []), ([0, 1, 2, 3, 4, 5, 6, 7, 8, 9, 10, 11, 12, 13, 14, 15, 16, 17, 18, 19, 20, 21, 22], [66, 69, 81], []), ([0, 1, 2, 3, 4, 5, 6, 7, 8, 9, 10, 11, 12, 13, 14, 15, 16, 17, 18, 19, 20, 21, 22, 23], [66, 82], []), ([0, 1, 2, 3, 4, 5, 6, 7, 8, 9, 10, 11, 12, 13, 14, 15, 16, 17, 18, 19, 20, 21, 22, 23, 24], [3, 83], []), ([0, 1, 2, 3, 4, 5, 6, 7, 8, 9, 10, 11, 12, 13, 14, 15, 16, 17, 18, 19, 20, 21, 22, 23, 24, 25], [83, 84], []), ([0, 1, 2, 3, 4, 5, 6, 7, 8, 9, 10, 11, 12, 13, 14, 15, 16, 17, 18, 19, 20, 21, 22, 23, 24, 25, 26], [66, 83, 85], []), ([0, 1, 2, 3, 4, 5, 6, 7, 8, 9, 10, 11, 12, 13, 14, 15, 16, 17, 18, 19, 20, 21, 22, 23, 24, 25, 26, 27], [66, 86], [])] rfl rfl rfl ?_ | refine call_x (hF) rfl ⟨rfl⟩ ?_ | refine call_x (a7) rfl ⟨rfl⟩ ?_)) <;> (try simp (maxSteps := 1000000) (disch := first | omega | (simp only [LN, numOk, verOk, dkP, fdP, beq_self_eq_true, bkd, hg, hj, hne] <;> omega) | exact Ck.mk rfl) only [ee, VC, T, Nat.reduceMul, Nat.reduceAdd, Nat.reduceSub, Nat.reduceLT, Nat.reduceEqDiff, Nat.reduceLeDiff, Nat.reduceBEq, reduceCtorEq, Int.reduceToNat, ↓reduceIte, dkP, fdP, beq_self_eq_true, bkd, hg, hj, hne]) <;> (try clear ee))
      all_goals first
        | (refine hN (x + 1) _ (by omega) (by omega) ?_
           first | rw [hc1 (by omega)] | rw [hc0 (by omega)]
           (simp (disch := first | omega | (simp only [LN, numOk, verOk] <;> omega) | exact Ck.mk rfl) only [SB, EQ, Nat.reduceMul, Nat.reduceAdd, Nat.reduceSub, Nat.reduceLT, Nat.reduceEqDiff, Nat.reduceLeDiff, Nat.reduceBEq, reduceCtorEq, Int.reduceToNat, ↓reduceIte]; try omega))
        | (exfalso
           rename_i g1 g2
           have q := hac f (by omega)
           unfold sLt at q
           rw [g2] at q
           exact Bool.noConfusion q)
    · obtain rfl : x = L.length := by omega
      have hn3 : nmF 3 = ⟨#[111, 112, 101, 110]⟩ := rfl
      rw [List.take_length, hcn]
      refine Wr.go ?_
      repeat' ((first | (have ee := True.intro; refine Wr.mk ?_) | ((first | refine br_go ?_ ?_ | refine pick_go ?_ ?_) <;> intro ee f <;> (try simp only [BB] at f) <;> (try simp only [numOk, verOk] at f)) | (have ee := True.intro; first | refine dr_go mixed (id := 16) [([], [6], []), ([], [5], []), ([1], [89], []), ([0, 1, 2], [88, 90], []), ([0, 1, 2, 3], [91], []), ([0, 1, 2, 3, 4], [3, 92], []), ([0, 1, 2, 3, 4, 5], [92, 93], []), ([0, 1, 2, 3, 4], [3, 92], []), ([0, 1, 2, 3, 4, 5, 6, 7], [92, 95], []), ([0, 1, 2, 3, 4, 5, 6, 7, 8], [92, 94, 96], []), ([0, 1, 2, 3, 4, 5, 6, 7, 8, 9], [92, 97], []), ([0, 1, 2, 3, 4, 5, 6, 7, 8, 9, 10], [98], []), ([0, 1, 2, 3, 4, 5, 6, 7, 8, 9, 10, 11], [99], []), ([0, 1, 2, 3, 4, 5, 6, 7, 8, 9, 10, 11, 12], [99, 100], []), ([0, 1, 2, 3, 4, 5, 6, 7, 8, 9, 10, 11, 12, 13], [99, 101], []), ([0, 1, 2, 3, 4, 5, 6, 7, 8, 9, 10, 11, 12, 13, 14], [102], [])] rfl rfl rfl ?_ | refine call_x (a8) rfl ⟨rfl⟩ ?_ | refine call_x (a9) rfl ⟨rfl⟩ ?_ | refine call_x (impl_FindingNameN 3 (by decide)) rfl ⟨rfl⟩ ?_)) <;> (try simp (maxSteps := 1000000) (disch := first | omega | (simp only [LN, numOk, verOk, dkP, fdP, beq_self_eq_true, bkd, hn3] <;> omega) | exact Ck.mk rfl) only [ee, VC, T, Nat.reduceMul, Nat.reduceAdd, Nat.reduceSub, Nat.reduceLT, Nat.reduceEqDiff, Nat.reduceLeDiff, Nat.reduceBEq, reduceCtorEq, Int.reduceToNat, ↓reduceIte, dkP, fdP, beq_self_eq_true, bkd, hn3]) <;> (try clear ee))
      all_goals simp
end Go.Pv

/- What a law's contract in plain values says of its walk. -/
namespace Go.Pv

variable {P : Program}
theorem kp_below {Γ : Nat → Value} {w w' : World} (h : Kp (Ow Γ []) w w') : Go.RowKit.Below w.heap.size w w' :=
  ⟨h.os, h.tape, h.output, h.size, fun k hk => h.block k hk fun ⟨_, l, _⟩ => l.elim⟩
/-- Nothing is handed over. -/
def No : Bl := fun _ => False
def Ga : Nat → Value := fun _ => .bool false
/-- The arguments of a law. -/
def Lay (w : World) (args : List PV) (vs : List Value) : Prop := vs.length = args.length ∧ ∀ (i : Nat) (x : PV) (v : Value), args[i]? = some x → vs[i]? = some v → DR w No x v
theorem lay_nil {w : World} : Lay w [] [] := ⟨rfl, fun _ _ _ h => by simp at h⟩
theorem lay_cons {w : World} {x : PV} {v : Value} {xs : List PV} {vs : List Value} (h : DR w No x v) (k : Lay w xs vs) : Lay w (x :: xs) (v :: vs) :=
  ⟨congrArg (· + 1) k.1, fun i y u h1 h2 => by
    cases i with
    | zero => simp at h1 h2; obtain rfl := h1; obtain rfl := h2; exact h
    | succ i => exact k.2 i y u (by simpa using h1) (by simpa using h2)⟩
theorem Fn.law {f : FuncId} {args : List PV} {vs : List Value} {w : World} {b : Bool} (h : Fn P f args [] (.bool b) []) (hg : Glo w No No) (hl : Lay w args vs) :
    Calls P f vs.toArray w fun e w' => e = .returned (.bool b) ∧ Go.RowKit.Below w.heap.size w w' := by
  have no : ∀ b, ¬ Av No Ga [] b := fun b hb => hb.elim id fun ⟨_, l, _⟩ => l
  refine (h.run w No Ga vs.toArray ⟨fun _ h => h.elim, fun g cs e => ⟨(hg g cs e).1, fun ⟨_, l, _⟩ => l, (hg g cs e).2.2⟩⟩ (by simpa using hl.1) (fun i x hx => ?_) (fun _ => trivial) fun _ _ _ l => l.elim).mono ?_
  · have hi : i < vs.length := by
      rw [hl.1]
      exact (List.getElem?_eq_some_iff.1 hx).1
    have e := hl.2 i x vs[i] hx (List.getElem?_eq_getElem hi)
    have g : vs.toArray.getD i undef = vs[i] := by simp [Array.getD, hi]
    rw [g]
    exact .data (e.step (fun _ _ _ => rfl) fun b _ hb => (no b hb).elim)
  · rintro e w' ⟨v, Γ', rfl, h1, h2, _⟩
    refine ⟨?_, kp_below h1⟩
    cases h2 with
    | data h => cases h; rfl
end Go.Pv

/- A law's arguments, opened: whole numbers, texts, slices and structs of them. -/
namespace Go.Pv
open Go.RowKit Go.WideShapes

section
variable {H : Type} {enc : TypeId × Value → H} {P : Program} {w : World} {α β : Type}

/-- What is read at type t, out of k cells, is 'f a', for an a of which R holds. -/
def Opn (enc : TypeId × Value → H) (P : Program) (w : World) (t : TypeId) (k : Nat) (f : α → PV) (R : α → Prop) : Prop :=
  ∀ (fuel : Nat) (cs : List Value) (d : DataW H × List MemPlace), DataW.trod enc P w 0 (fun _ => true) true fuel t cs = some d →
    cs.length = k ∧ ∃ a, R a ∧ (flat (f a)).length = k ∧ ∀ (j : Nat) (y : PV), (flat (f a))[j]? = some y → DR w No y (cs.getD j undef)
theorem one_dr {x : PV} {v : Value} (hx : flat x = [x]) (h : DR w No x v) : (flat x).length = 1 ∧ ∀ (j : Nat) (y : PV), (flat x)[j]? = some y → DR w No y ([v].getD j undef) := by
  rw [hx]
  refine ⟨rfl, fun j y hy => ?_⟩
  cases j with
  | zero => cases hy; exact h
  | succ j => simp at hy
theorem opn_int {t : TypeId} {k : IntKind} (ht : P.underlying t = some (.int k)) : Opn enc P w t 1 (PV.int k) (fun n => (Lit.int k n).wf = true) := fun fuel cs d h => by
  obtain ⟨n, rfl, _, hw⟩ := DataW.trod_int ht h
  exact ⟨rfl, n, hw, one_dr rfl (.int k n)⟩
theorem all_list {Q : Nat → α → Prop} : ∀ (n : Nat), (∀ i, i < n → ∃ a, Q i a) → ∃ l : List α, l.length = n ∧ ∀ i a, l[i]? = some a → Q i a
  | 0, _ => ⟨[], rfl, fun i a h => by simp at h⟩
  | n + 1, h => by
    obtain ⟨l, h1, h2⟩ := all_list n fun i hi => h i (by omega)
    obtain ⟨a, ha⟩ := h n (by omega)
    refine ⟨l ++ [a], by simp [h1], fun i x hx => ?_⟩
    by_cases hi : i < l.length
    · rw [List.getElem?_append_left hi] at hx; exact h2 i x hx
    · rw [List.getElem?_append_right (by omega)] at hx
      by_cases e : i = l.length
      · subst e; rw [Nat.sub_self] at hx; cases hx; rw [h1]; exact ha
      · rw [show i - l.length = (i - l.length - 1) + 1 by omega] at hx; simp at hx
theorem opn_slice {t e : TypeId} {k : Nat} {f : α → PV} {R : α → Prop} (ht : P.underlying t = some (.slice e)) (hk : P.cellsOf e = k) (h0 : 0 < k) (he : Opn enc P w e k f R) :
    Opn enc P w t 1 (fun l : List α => .far (l.map f)) (fun l => l.length ≤ 9223372036854775807 ∧ ∀ a ∈ l, R a) := fun fuel cs d h => by
  rcases DataW.trod_slice ht h with ⟨rfl, _⟩ | ⟨a, len, cap, elems, rest, n, _, rfl, _, _, hl, hm, hlen, hel, _, _⟩
  · exact ⟨rfl, [], ⟨by simp, by simp⟩, one_dr rfl (.far0 _ _)⟩
  · refine ⟨rfl, ?_⟩
    rw [hk] at hel
    have each : ∀ i, i < len → ∃ x, R x ∧ (flat (f x)).length = k ∧ ∀ (j : Nat) (y : PV), (flat (f x))[j]? = some y → ∃ v, w.cell? ((a.add (i * k)).add j) = some v ∧ DR w No y v := fun i hi => by
      have h1 := hel i hi
      rw [List.getElem?_eq_getElem (by omega), Option.bind_eq_some_iff] at h1
      obtain ⟨cs, h2, h3⟩ := h1
      obtain ⟨h4, x, h5, h6, h7⟩ := he _ _ _ h3
      refine ⟨x, h5, h6, fun j y hy => ?_⟩
      have hj : j < k := by rw [← h6]; exact (List.getElem?_eq_some_iff.1 hy).1
      unfold World.cells? at h2
      rw [if_pos (Nat.zero_le _)] at h2
      have h8 := mapM_some_get h2 j j (by simp [hj])
      rw [List.getElem?_eq_getElem (by omega)] at h8
      refine ⟨_, h8, ?_⟩
      have := h7 j y hy
      rw [List.getD_eq_getElem?_getD, List.getElem?_eq_getElem (by omega)] at this
      exact this
    obtain ⟨l, h1, h2⟩ := all_list len each
    refine ⟨l, ⟨by rw [h1]; exact Nat.le_trans hl hm, fun x hx => ?_⟩, one_dr rfl ?_⟩
    · obtain ⟨i, hi⟩ := List.getElem?_of_mem hx
      exact (h2 i x hi).1
    · by_cases hz : len = 0
      · obtain rfl : l = [] := List.eq_nil_of_length_eq_zero (by omega)
        subst hz
        exact .far0 _ _
      · obtain ⟨β, o, spot⟩ := a
        have cell : ∀ (i : Nat) (x : α) (j : Nat) (y : PV), l[i]? = some x → (flat (f x))[j]? = some y → ∃ v, w.cell? ⟨β, o + i * k + j, if i * k = 0 ∧ j = 0 then spot else none⟩ = some v ∧ DR w No y v := fun i x j y hx hy => by
          obtain ⟨v, q1, q2⟩ := (h2 i x hx).2.2 j y hy
          refine ⟨v, ?_, q2⟩
          rw [← q1]
          unfold Addr.add
          by_cases e1 : i * k = 0 <;> by_cases e2 : j = 0 <;> simp [e1, e2]
        obtain ⟨x0, hx0⟩ : ∃ x, l[0]? = some x := ⟨l[0]'(by omega), List.getElem?_eq_getElem (by omega)⟩
        have hfl := (h2 0 x0 hx0).2.1
        obtain ⟨v, q1, _⟩ := cell 0 x0 0 ((flat (f x0))[0]'(by omega)) hx0 (List.getElem?_eq_getElem (by omega))
        simp only [Nat.zero_mul, true_and, and_self, if_true] at q1
        obtain ⟨c, t', fr, hw, hs⟩ : ∃ c t' fr, w.heap[β]? = some (.cells c t' fr) ∧ spot = none := by
          unfold World.cell? at q1
          split at q1
          · rename_i c t' fr hw
            refine ⟨c, t', fr, hw, ?_⟩
            cases spot with
            | none => rfl
            | some s => simp at q1
          · cases q1
        subst hs
        simp only [ite_self] at cell
        have cc : ∀ (i : Nat) (x : α) (j : Nat) (y : PV), l[i]? = some x → (flat (f x))[j]? = some y → o + i * k + j < c.size ∧ DR w No y (c.getD (o + i * k + j) undef) := fun i x j y hx hy => by
          obtain ⟨v, q1, q2⟩ := cell i x j y hx hy
          unfold World.cell? at q1
          simp only [hw] at q1
          have q3 := (Array.getElem?_eq_some_iff.1 (by simpa using q1 : c[o + i * k + j]? = some v)).1
          refine ⟨q3, ?_⟩
          have q4 : c[o + i * k + j]? = some v := by simpa using q1
          rw [Array.getD_eq_getD_getElem?, q4]
          exact q2
        have pick : ∀ (i : Nat) (x : PV), (l.map f)[i]? = some x → ∃ a, l[i]? = some a ∧ x = f a := fun i x hx => by
          rw [List.getElem?_map, Option.map_eq_some_iff] at hx
          obtain ⟨a, ha, rfl⟩ := hx
          exact ⟨a, ha, rfl⟩
        have key := DR.far (w := w) (A := No) (l.map f) β o cap k c t' fr (fun h => h) hw (by simpa [h1] using hl)
          (fun i x hx => by obtain ⟨a, ha, rfl⟩ := pick i x hx; exact (h2 i a ha).2.1)
          (fun i x j y hx hy => by obtain ⟨a, ha, rfl⟩ := pick i x hx; exact (cc i a j y ha hy).1)
          (fun i x j y hx hy => by obtain ⟨a, ha, rfl⟩ := pick i x hx; exact (cc i a j y ha hy).2)
        rw [List.length_map, h1] at key
        exact key
theorem arg_slice {t e : TypeId} {f : α → PV} {R : List α → Prop} {base : Nat} {v : Value} {d : DataW H} {ps : List MemPlace} (ht : P.underlying t = some (.slice e)) (h : Opn enc P w t 1 (fun l : List α => .far (l.map f)) R) (hval : Value.okWide P w .any base t v)
    (hd : DataW.Trod enc P w 0 (fun _ => true) true t v d ps) : ∃ l, R l ∧ DR w No (.far (l.map f)) v := by
  obtain ⟨a, len, cap, rfl⟩ := okWide_slice ht hval
  obtain ⟨fuel, hf⟩ := hd
  obtain ⟨h1, l, h2, h3, h4⟩ := h _ _ _ hf
  exact ⟨l, h2, h4 0 _ rfl⟩
end
end Go.Pv
