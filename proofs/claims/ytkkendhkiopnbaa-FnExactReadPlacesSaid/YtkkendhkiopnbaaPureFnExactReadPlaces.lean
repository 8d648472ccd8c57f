/- The program's ReadPlaces answers as the reference's, for all arguments, and shares no memory. -/
import Derived.Test.YtkkendhkiopnbaaQFnExactReadPlacesx4
import Derived.Test.YtkkendhkiopnbaaMath3
namespace Go.Proofs.Ytkkendhkiopnbaa.Pure
open Go.RowKit Go.Proofs.Ytkkendhkiopnbaa.QFnExactReadPlaces Go.Proofs.YtkkendhkiopnbaaW.PrintWords Go.Proofs.YtkkendhkiopnbaaW.PrintLast Go.Proofs.YtkkendhkiopnbaaW.PrintMore Go.Proofs.Ytkkendhkiopnbaa.Mth
set_option linter.unusedVariables false
set_option linter.unusedSimpArgs false

theorem spec_In (a b c : Int) : spec_l01In.f a b c = some (decide (b ≤ a ∧ a ≤ c)) := by
  unfold spec_l01In.f
  by_cases h : a ≥ b <;> simp [h]

theorem impl_In (a b c : Int) : impl_within.f a b c = some (decide (b ≤ a ∧ a ≤ c)) := by
  unfold impl_within.f
  by_cases h : a ≥ b <;> simp [h]

theorem impl_Num (n : Int) : impl_isNumber.f n = some (decide (numOk n)) := by
  unfold impl_isNumber.f numOk
  rw [impl_In]
  rfl

theorem spec_Var_loop : ∀ (d : Nat) (n : Int) (acc : List Int), 0 ≤ n → n < 128 ^ (d + 1) → acc.length + d ≤ 100 →
    Ev (fun k => spec_VarText.l0 k n acc) (strOfNums (acc ++ varL d n))
  | 0, n, acc, h0, h1, hl => by
    refine Ev.step (fun k => by rw [spec_VarText.l0]) ?_
    refine ev_neg (by omega) (ev_pos (by omega) (ev_eq rfl))
  | d + 1, n, acc, h0, h1, hl => by
    refine Ev.step (fun k => by rw [spec_VarText.l0]) ?_
    refine ev_ite (fun h => ev_pos (by omega) ?_) (fun h => ev_pos (by omega) (ev_eq ?_))
    · rw [or64]
      have hp : n / 128 < 128 ^ (d + 1) := by
        rw [Int.pow_succ] at h1
        omega
      have := spec_Var_loop d (n / 128) (acc ++ [n % 128 + 128]) (by omega) hp (by simp; omega)
      rw [List.append_assoc] at this
      rw [varL_gt d n h]
      exact this
    · rw [varL_ngt d n h]
theorem spec_Var_ev (n : Int) : Ev (fun k => spec_VarText.f k n) (varT n) := by
  unfold spec_VarText.f varT
  refine ev_now (spec_In _ _ _) ?_
  refine ev_ite (fun h => ?_) (fun h => ?_)
  · have h' := of_decide_eq_true h
    rw [if_neg (by omega)]
    exact spec_Var_loop 4 n [] h'.1 (by have : (128 : Int) ^ (4 + 1) = 34359738368 := by decide
                                        omega) (by simp)
  · rw [if_pos (by have h' := nd h; omega)]
    exact Ev.now _

theorem eqPlace_refl (a b : Int) : laws_eqPlace.f a b a b = some true := by unfold laws_eqPlace.f; rw [if_pos rfl, if_pos rfl]
theorem eqPlaceS_loop (xs : List S54) (hx : xs.length ≤ 140737488355328) : ∀ (d i : Nat), i + d = xs.length → Ev (fun k => laws_eqPlaceS.l0 k xs xs i) true
  | 0, i, hi => Ev.step (fun k => by rw [laws_eqPlaceS.l0]) (ev_neg (by omega) (Ev.now _))
  | d + 1, i, hi => by
    refine Ev.step (fun k => by rw [laws_eqPlaceS.l0]) (ev_pos (by omega) (ev_pos (by omega) (ev_pos (by omega) (ev_now (eqPlace_refl _ _) (ev_pos rfl ?_)))))
    rw [w64 (by omega) (by omega)]
    exact eqPlaceS_loop xs hx d (i + 1) (by omega)
theorem eqPlaceS_ev (xs : List S54) (hx : xs.length ≤ 140737488355328) : Ev (fun k => laws_eqPlaceS.f k xs xs) true := by
  unfold laws_eqPlaceS.f
  exact ev_pos rfl (eqPlaceS_loop xs hx xs.length 0 (by omega))

def seqP : Nat → Int → List S54
  | 0, _ => []
  | d + 1, m => ⟨m, m + 1⟩ :: seqP d (m + 2)
theorem seqP_length : ∀ (d : Nat) (m : Int), (seqP d m).length = d
  | 0, _ => rfl
  | d + 1, m => by simp [seqP, seqP_length d]
theorem seqP_snoc : ∀ (d : Nat) (m : Int), seqP (d + 1) m = seqP d m ++ [⟨m + 2 * d, m + 2 * d + 1⟩]
  | 0, m => by simp [seqP]
  | d + 1, m => by
    rw [show seqP (d + 1 + 1) m = ⟨m, m + 1⟩ :: seqP (d + 1) (m + 2) from rfl, seqP_snoc d (m + 2), show seqP (d + 1) m = ⟨m, m + 1⟩ :: seqP d (m + 2) from rfl,
      show m + 2 + 2 * (d : Int) = m + 2 * ((d + 1 : Nat) : Int) by omega]
    rfl
theorem seqP_get : ∀ (d : Nat) (m : Int) (i : Nat), i < d → rd_T54 (seqP d m) i = ⟨m + 2 * i, m + 2 * i + 1⟩
  | d + 1, m, 0, _ => by simp [rd_T54, seqP]
  | d + 1, m, i + 1, h => by
    have := seqP_get d (m + 2) i (by omega)
    unfold rd_T54 at this ⊢
    rw [Int.toNat_natCast] at this ⊢
    rw [show seqP (d + 1) m = ⟨m, m + 1⟩ :: seqP d (m + 2) from rfl, List.getD_cons_succ, this, show m + 2 + 2 * (i : Int) = m + 2 * ((i + 1 : Nat) : Int) by omega]
theorem rdP_mid (a : List S54) (x : S54) (b : List S54) (i : Nat) (h : a.length = i) : rd_T54 (a ++ x :: b) i = x := by
  subst h
  unfold rd_T54
  simp [List.getD_eq_getElem?_getD]
theorem markPlace_loop (n : Nat) (hn : n ≤ 140737488355328) (m0 : Int) (hm : 0 ≤ m0 ∧ m0 ≤ 1152921504606846976) : ∀ (d i : Nat) (ys : List S54), ys.length = d → i + d = n →
    Ev (fun k => laws_markPlaceS.l0 k (seqP i m0 ++ ys) (m0 + 2 * i) i) (m0 + 2 * n, seqP n m0)
  | 0, i, ys, hy, hi => by
    obtain rfl : ys = [] := List.eq_nil_of_length_eq_zero hy
    refine Ev.step (fun k => by rw [laws_markPlaceS.l0]) (ev_neg (by simp [seqP_length] <;> omega) (ev_eq ?_))
    obtain rfl : i = n := by omega
    simp
  | d + 1, i, y :: ys, hy, hi => by
    refine Ev.step (fun k => by rw [laws_markPlaceS.l0]) (ev_pos (by simp [seqP_length] <;> omega) (ev_pos (by omega) (ev_now rfl ?_)))
    rw [w64 (x := m0 + 2 * i + 1) (by omega) (by omega), w64 (x := m0 + 2 * i + 1 + 1) (by omega) (by omega), w64 (x := (i : Int) + 1) (by omega) (by omega), Int.toNat_natCast]
    rw [set_mid _ _ _ _ i (seqP_length _ _), set_mid _ _ _ _ i (seqP_length _ _), rdP_mid _ _ _ i (seqP_length _ _)]
    have := markPlace_loop n hn m0 hm d (i + 1) ys (by simpa using hy) (by omega)
    rw [seqP_snoc, List.append_assoc, show m0 + 2 * ((i + 1 : Nat) : Int) = m0 + 2 * i + 1 + 1 by omega, Int.natCast_add] at this
    exact this
theorem markPlace_ev (ys : List S54) (hn : ys.length ≤ 140737488355328) (m0 : Int) (hm : 0 ≤ m0 ∧ m0 ≤ 1152921504606846976) : Ev (fun k => laws_markPlaceS.f k ys m0) (m0 + 2 * ys.length, seqP ys.length m0) := by
  unfold laws_markPlaceS.f
  have := markPlace_loop ys.length hn m0 hm ys.length 0 ys rfl (by omega)
  rw [show m0 + 2 * ((0 : Nat) : Int) = m0 by simp] at this
  exact this
theorem heldPlace_loop (n : Nat) (hn : n ≤ 140737488355328) (m0 : Int) (hm : 0 ≤ m0 ∧ m0 ≤ 1152921504606846976) : ∀ (d i : Nat), i + d = n →
    Ev (fun k => laws_heldPlaceS.l0 k (seqP n m0) (m0 + 2 * i) i) (m0 + 2 * n)
  | 0, i, hi => by
    refine Ev.step (fun k => by rw [laws_heldPlaceS.l0]) (ev_neg (by rw [seqP_length]; omega) (ev_eq (by omega)))
  | d + 1, i, hi => by
    refine Ev.step (fun k => by rw [laws_heldPlaceS.l0]) (ev_pos (by rw [seqP_length]; omega) (ev_pos (by omega) ?_))
    rw [seqP_get n m0 i (by omega)]
    rw [w64 (x := m0 + 2 * i + 1) (by omega) (by omega), w64 (x := m0 + 2 * i + 1 + 1) (by omega) (by omega), w64 (x := (i : Int) + 1) (by omega) (by omega)]
    refine ev_pos rfl (ev_pos rfl ?_)
    have := heldPlace_loop n hn m0 hm d (i + 1) (by omega)
    rw [show m0 + 2 * ((i + 1 : Nat) : Int) = m0 + 2 * i + 1 + 1 by omega, Int.natCast_add] at this
    exact this
theorem heldPlace_ev (n : Nat) (hn : n ≤ 140737488355328) (m0 : Int) (hm : 0 ≤ m0 ∧ m0 ≤ 1152921504606846976) : Ev (fun k => laws_heldPlaceS.f k (seqP n m0) m0) (m0 + 2 * n) := by
  unfold laws_heldPlaceS.f
  have := heldPlace_loop n hn m0 hm n 0 (by omega)
  rw [show m0 + 2 * ((0 : Nat) : Int) = m0 by simp] at this
  exact this

theorem wrapU (x : Int) (h0 : 0 ≤ x) (h1 : x ≤ 9223372036854775807) : IntKind.u64.wrap x = x := by
  simp only [IntKind.wrap, IntKind.bits, IntKind.signed]
  simp
  omega
theorem acc_or (b : ByteArray) (a i : Nat) (hi : i ≤ 4) (h : a + i < b.size) :
    Go.bits .or .i64 (acc (seg b a i)) (shl .i64 (bt b ((a + i : Nat) : Int) % 128) (7 * (i : Int))) = acc (seg b a (i + 1)) := by
  have hl := seg_length b a i (by omega)
  have hr := acc_range (seg b a i)
  rw [hl] at hr
  have hp : (128 : Int) ^ i = 2 ^ (7 * i) := by rw [Int.pow_mul]; rfl
  rw [hp] at hr
  have h28 : (2 : Int) ^ (7 * i) ≤ 2 ^ 28 := by exact_mod_cast Nat.pow_le_pow_right (by decide : 0 < 2) (by omega : 7 * i ≤ 28)
  rw [shl7 _ i hi (by omega) (by omega), or_low (7 * i) _ _ hr.1 hr.2 (by omega) (by
    have h4 : bt b ((a + i : Nat) : Int) % 128 * 2 ^ (7 * i) ≤ 127 * 2 ^ 28 := Int.mul_le_mul (by omega) h28 (Int.pow_nonneg (by decide)) (by decide)
    omega) (by omega), seg_snoc b a i h, acc_snoc, hl, hp]
theorem impl_ReadVar_loop (b : ByteArray) (hb : b.size ≤ 140737488355328) (a : Nat) : ∀ (d i : Nat), i + d = 5 → (0 < i → a + i ≤ b.size) → a ≤ 9223372036854775807 →
    Ev (fun k => impl_ReadVar.l0 k b a (acc (seg b a i)) i) (rvI b a d i)
  | 0, i, hi, ha, h63 => by
    refine Ev.step (fun k => by rw [impl_ReadVar.l0]) ?_
    exact ev_neg (by omega) (ev_eq rfl)
  | d + 1, i, hi, ha, h63 => by
    refine Ev.step (fun k => by rw [impl_ReadVar.l0]) ?_
    refine ev_pos (by omega) (ev_now (impl_In _ _ _) ?_)
    unfold rvI
    rw [w64 (x := (b.size : Int) - 1) (by omega) (by omega), w64 (x := (b.size : Int) - 1 - i) (by omega) (by omega)]
    by_cases h : a + i < b.size
    · have hbr := bt_range b ((a + i : Nat) : Int)
      have e1 : wrap64 ((a : Int) + i) = ((a + i : Nat) : Int) := by rw [w64 (by omega) (by omega)]; omega
      rw [if_pos h, e1, w64 (x := bt b ((a + i : Nat) : Int)) (by omega) (by omega), w64 (x := 7 * (i : Int)) (by omega) (by omega), and_127, acc_or b a i (by omega) h]
      refine ev_pos (decide_eq_true (by omega)) (ev_pos (by omega) (ev_pos (by omega) (ev_pos (by omega) ?_)))
      refine ev_ite (fun h1 => ?_) (fun h1 => ?_)
      · rw [if_pos h1, w64 (x := (i : Int) + 1) (by omega) (by omega)]
        have := impl_ReadVar_loop b hb a d (i + 1) (by omega) (fun _ => by omega) h63
        rw [Int.natCast_add] at this
        exact this
      · rw [if_neg h1]
        have hn0 := (acc_range (seg b a (i + 1))).1
        have e2 : wrap64 (((a + i : Nat) : Int) + 1) = ((a + i + 1 : Nat) : Int) := by rw [w64 (by omega) (by omega)]; omega
        rw [e2]
        refine ev_ite (fun h2 => ev_ite (fun h3 => ev_eq ?_) (fun h3 => ev_now (impl_Num _) (ev_ite (fun h4 => ev_eq ?_) (fun h4 => ev_eq ?_)))) (fun h2 => ev_now (impl_Num _) (ev_ite (fun h4 => ev_eq ?_) (fun h4 => ev_eq ?_)))
        · rw [if_pos (.inl ⟨by omega, h3⟩)]
        · have h5 := of_decide_eq_true h4
          unfold numOk at h5
          rw [if_neg (by omega)]
        · have h5 := nd h4
          unfold numOk at h5
          rw [if_pos (.inr (by omega))]
        · have h5 := of_decide_eq_true h4
          unfold numOk at h5
          rw [if_neg (by omega)]
        · have h5 := nd h4
          unfold numOk at h5
          rw [if_pos (.inr (by omega))]
    · rw [if_neg h]
      exact ev_neg (by rw [decide_eq_true_iff]; omega) (Ev.now _)
theorem impl_ReadVar_ev (b : ByteArray) (hb : b.size ≤ 140737488355328) (a : Int) (ha : a ≤ 9223372036854775807) : Ev (fun k => impl_ReadVar.f k b a) (rv b a) := by
  unfold impl_ReadVar.f rv
  by_cases h : 0 ≤ a
  · rw [if_pos h]
    have := impl_ReadVar_loop b hb a.toNat 5 0 rfl (fun h => absurd h (by decide)) (by omega)
    rw [show ((a.toNat : Nat) : Int) = a by omega] at this
    exact this
  · rw [if_neg h]
    refine Ev.step (fun k => by rw [impl_ReadVar.l0]) ?_
    refine ev_pos (by decide) (ev_now (impl_In _ _ _) ?_)
    exact ev_neg (by rw [decide_eq_true_iff]; omega) (Ev.now _)

theorem wrapU' (x : Int) (h0 : 0 ≤ x) (h1 : x ≤ 9223372036854775807) : IntKind.u64.wrap x = x := by
  simp only [IntKind.wrap, IntKind.bits, IntKind.signed]
  simp
  omega
theorem acc_or' (b : ByteArray) (a i : Nat) (hi : i ≤ 4) (h : a + i < b.size) :
    Go.bits .or .i64 (acc (seg b a i)) (shl .i64 (bt b ((a + i : Nat) : Int) % 128) (7 * (i : Int))) = acc (seg b a (i + 1)) := by
  have hl := seg_length b a i (by omega)
  have hr := acc_range (seg b a i)
  rw [hl] at hr
  have hp : (128 : Int) ^ i = 2 ^ (7 * i) := by rw [Int.pow_mul]; rfl
  rw [hp] at hr
  have h28 : (2 : Int) ^ (7 * i) ≤ 2 ^ 28 := by exact_mod_cast Nat.pow_le_pow_right (by decide : 0 < 2) (by omega : 7 * i ≤ 28)
  rw [shl7 _ i hi (by omega) (by omega), or_low (7 * i) _ _ hr.1 hr.2 (by omega) (by
    have h4 : bt b ((a + i : Nat) : Int) % 128 * 2 ^ (7 * i) ≤ 127 * 2 ^ 28 := Int.mul_le_mul (by omega) h28 (Int.pow_nonneg (by decide)) (by decide)
    omega) (by omega), seg_snoc b a i h, acc_snoc, hl, hp]
theorem spec_ReadVar_loop (b : ByteArray) (hb : b.size ≤ 140737488355328) (a : Nat) (ha : a ≤ b.size) : ∀ (d i : Nat), i + d = 5 → a + i ≤ b.size → (∀ y ∈ seg b a i, 128 ≤ y ∧ y ≤ 255) →
    Ev (fun k => spec_ReadVar.l0 k b a (acc (seg b a i)) i) (rvI b a d i)
  | 0, i, hi, hai, hs => by
    refine Ev.step (fun k => by rw [spec_ReadVar.l0]) ?_
    refine ev_neg (by omega) ?_
    refine Ev.step (fun k => by rw [spec_ReadVar.j1]) ?_
    exact ev_neg (by decide) (ev_eq rfl)
  | d + 1, i, hi, hai, hs => by
    have e1 : wrap64 ((a : Int) + i) = ((a + i : Nat) : Int) := by rw [w64 (by omega) (by omega)]; omega
    refine Ev.step (fun k => by rw [spec_ReadVar.l0]) ?_
    refine ev_pos (by omega) ?_
    rw [e1]
    refine Ev.step (fun k => by rw [spec_ReadVar.j1]) ?_
    unfold rvI
    by_cases h : a + i < b.size
    · have hbr := bt_range b ((a + i : Nat) : Int)
      rw [if_pos h, e1, w64 (x := bt b ((a + i : Nat) : Int)) (by omega) (by omega), w64 (x := 7 * (i : Int)) (by omega) (by omega), wrapU' (7 * (i : Int)) (by omega) (by omega), and_127, acc_or' b a i (by omega) h]
      refine ev_pos (decide_eq_true (by omega)) (ev_pos (by omega) (ev_pos (by omega) (ev_pos (by omega) ?_)))
      refine ev_ite (fun h1 => ?_) (fun h1 => ?_)
      · rw [if_neg (by omega)]
        have hn0 := (acc_range (seg b a (i + 1))).1
        have e2 : wrap64 (((a + i : Nat) : Int) + 1) = ((a + i + 1 : Nat) : Int) := by rw [w64 (by omega) (by omega)]; omega
        have hl := seg_length b a i (by omega)
        rw [e2]
        refine Ev.bind (spec_Var_ev _) (ev_ite (fun h2 => ev_eq ?_) (fun h2 => ev_pos (by omega) (ev_pos (by omega) (ev_pos (by omega) (ev_ite (fun h3 => ev_eq ?_) (fun h3 => ev_eq ?_))))))
        · rw [toList_nil_iff] at h2
          rw [if_pos (.inr (by
            rcases Int.lt_or_le 1000000000 (acc (seg b a (i + 1))) with h4 | h4
            · exact h4
            · exact absurd h2 (by have := varT_pos _ hn0 h4; omega)))]
        all_goals
          rw [toList_nil_iff] at h2
          have hle : acc (seg b a (i + 1)) ≤ 1000000000 := by
            rcases Int.lt_or_le 1000000000 (acc (seg b a (i + 1))) with h4 | h4
            · exact absurd (by unfold varT; rw [if_pos (.inr h4)]; rfl) h2
            · exact h4
          rw [toList_eq_iff, show (a : Int).toNat = a by omega, show ((a + i + 1 : Nat) : Int).toNat = a + (i + 1) by omega] at h3
          have hiff : varT (acc (seg b a (i + 1))) = b.extract a (a + (i + 1)) ↔ ¬ (0 < i ∧ bt b ((a + i : Nat) : Int) = 0) := by
            have hc := varL_canon (seg b a i) (bt b ((a + i : Nat) : Int)) (by omega) hs hbr.1 (by omega)
            rw [← seg_snoc b a i h, hl] at hc
            rw [← hc]
            have hv : varT (acc (seg b a (i + 1))) = strOfNums (varL 4 (acc (seg b a (i + 1)))) := by unfold varT; rw [if_neg (by omega)]
            constructor
            · intro h5
              have := congrArg bytesOf h5
              rw [hv, bytesOf_strOf _ (varL_range 4 _ hn0), extract_seg] at this
              exact this
            · intro h5
              apply bytesOf_inj
              rw [hv, bytesOf_strOf _ (varL_range 4 _ hn0), extract_seg]
              exact h5
          rw [hiff] at h3
        · rw [if_neg (by omega)]
        · rw [if_pos (.inl (Classical.not_not.1 h3))]
      · rw [if_pos (by omega), w64 (x := (i : Int) + 1) (by omega) (by omega)]
        have := spec_ReadVar_loop b hb a ha d (i + 1) (by omega) (by omega) (by
          rw [seg_snoc b a i h]
          intro y hy
          rcases List.mem_append.1 hy with hy | hy
          · exact hs y hy
          · rw [List.mem_singleton.1 hy]; omega)
        rw [Int.natCast_add] at this
        exact this
    · rw [if_neg h]
      exact ev_neg (by rw [decide_eq_true_iff]; omega) (Ev.now _)
theorem spec_ReadVar_ev (b : ByteArray) (hb : b.size ≤ 140737488355328) (a : Int) : Ev (fun k => spec_ReadVar.f k b a) (rv b a) := by
  unfold spec_ReadVar.f rv
  refine ev_now (spec_In _ _ _) (ev_ite (fun h => ?_) (fun h => ev_eq ?_))
  · have h' := of_decide_eq_true h
    rw [if_pos h'.1]
    have := spec_ReadVar_loop b hb a.toNat (by omega) 5 0 rfl (by omega) (by unfold seg; simp)
    rw [show ((a.toNat : Nat) : Int) = a by omega] at this
    exact this
  · have h' := nd h
    by_cases h0 : 0 ≤ a
    · rw [if_pos h0]
      unfold rvI
      rw [if_neg (by omega)]
    · rw [if_neg h0]

def mkP' (a b : Int) : S54 := ⟨a, b⟩
theorem spec_ReadPlaces_loop (b : ByteArray) (hb : b.size ≤ 1073741824) (no : List S54) (n : Int) (hn : n ≤ 1000) : ∀ (d : Nat) (e : Int) (acc : List S54) (i c a : Int), i = n - d → 0 ≤ i → acc.length = i.toNat → 0 ≤ c ∧ c ≤ 1000000000 * i → 0 ≤ a ∧ a ≤ 1000000000 * i →
    Ev (fun k => spec_ReadPlaces.l0 k b no n e acc i c a) (match vars b (2 * d) e with | some q => (acc ++ prs mkP' c a q.1, q.2, true) | none => (no, 0, false))
  | 0, e, acc, i, c, a, hi, h0, hl, hc, ha => by
    refine Ev.step (fun k => by rw [spec_ReadPlaces.l0]) ?_
    refine ev_neg (by omega) (ev_eq ?_)
    simp [vars, prs]
  | d + 1, e, acc, i, c, a, hi, h0, hl, hc, ha => by
    refine Ev.step (fun k => by rw [spec_ReadPlaces.l0]) ?_
    refine ev_pos (by omega) (Ev.bind (spec_ReadVar_ev b (by omega) e) ?_)
    rw [show 2 * (d + 1) = (2 * d + 1) + 1 by omega]
    refine ev_ite (fun h1 => ?_) (fun h1 => ev_eq ?_)
    · have r1 := rv_range b e h1
      refine Ev.bind (spec_ReadVar_ev b (by omega) _) (ev_ite (fun h2 => ?_) (fun h2 => ev_eq ?_))
      · have r2 := rv_range b _ h2
        rw [w64 (x := c + (rv b e).1) (by omega) (by omega), w64 (x := a + (rv b (rv b e).2.1).1) (by omega) (by omega), w64 (x := i + 1) (by omega) (by omega)]
        refine ev_pos (by omega) ?_
        have ih := spec_ReadPlaces_loop b hb no n hn d (rv b (rv b e).2.1).2.1 (acc ++ [mkP' (c + (rv b e).1) (a + (rv b (rv b e).2.1).1)]) (i + 1) (c + (rv b e).1) (a + (rv b (rv b e).2.1).1) (by omega) (by omega) (by simp; omega) (by omega) (by omega)
        refine ev_cast ?_ ih
        simp only [vars, h1, h2, if_true]
        cases vars b (2 * d) (rv b (rv b e).2.1).2.1 with
        | none => rfl
        | some q => simp [prs]
      · simp only [vars, h1, if_true, if_neg h2]
        rfl
    · simp only [vars, if_neg h1]
theorem spec_ReadPlaces_ev (b : ByteArray) (hb : b.size ≤ 1073741824) (a : Int) : Ev (fun k => spec_ReadPlaces.f k b a) (rPlaces mkP' b a) := by
  unfold spec_ReadPlaces.f rPlaces
  refine ev_now rfl (Ev.bind (spec_ReadVar_ev b (by omega) a) (ev_ite (fun h => ?_) (fun h => ?_)))
  · have r1 := rv_range b a h
    refine Ev.step (fun k => by rw [spec_ReadPlaces.j0]) ?_
    refine ev_ite (fun h1 => ev_eq ?_) (fun h1 => ?_)
    · have := of_decide_eq_true h1
      rw [if_neg (by omega)]
    · have := nd h1
      rw [if_pos ⟨h, by omega⟩]
      exact spec_ReadPlaces_loop b hb [] (rv b a).1 (by omega) (rv b a).1.toNat (rv b a).2.1 [] 0 0 0 (by omega) (by omega) rfl (by omega) (by omega)
  · refine Ev.step (fun k => by rw [spec_ReadPlaces.j0]) ?_
    refine ev_pos rfl (ev_eq ?_)
    rw [if_neg (fun x => h x.1)]

theorem impl_readVars_loop (b : ByteArray) (hb : b.size ≤ 1073741824) (n : Int) (hn : n ≤ 2000) : ∀ (d : Nat) (e : Int) (acc : List Int) (i : Int), i = n - d → 0 ≤ i → acc.length = i.toNat → e ≤ 9223372036854775807 →
    Ev (fun k => impl_readVars.l0 k b e acc n i) (match vars b d e with | some q => (acc ++ q.1, q.2, true) | none => ([], 0, false))
  | 0, e, acc, i, hi, h0, hl, he => by
    refine Ev.step (fun k => by rw [impl_readVars.l0]) ?_
    refine ev_neg (by omega) (ev_eq ?_)
    simp [vars]
  | d + 1, e, acc, i, hi, h0, hl, he => by
    refine Ev.step (fun k => by rw [impl_readVars.l0]) ?_
    refine ev_pos (by omega) (Ev.bind (impl_ReadVar_ev b (by omega) e he) (ev_ite (fun h1 => ?_) (fun h1 => ev_eq ?_)))
    · have r1 := rv_range b e h1
      rw [w64 (x := i + 1) (by omega) (by omega)]
      refine ev_pos (by omega) ?_
      have ih := impl_readVars_loop b hb n hn d (rv b e).2.1 (acc ++ [(rv b e).1]) (i + 1) (by omega) (by omega) (by simp; omega) (by omega)
      refine ev_cast ?_ ih
      simp only [vars, h1, if_true]
      cases vars b d (rv b e).2.1 with
      | none => rfl
      | some q => simp
    · simp only [vars, if_neg h1]
theorem impl_pairs_loop (xs : List Int) (hx : xs.length ≤ 2000) (hr : ∀ x ∈ xs, 0 ≤ x ∧ x ≤ 1000000000) (e : Int) : ∀ (d i : Nat) (acc : List S54) (c a : Int), i + 2 * d = xs.length → acc.length ≤ i → 0 ≤ c ∧ c ≤ 1000000000 * i → 0 ≤ a ∧ a ≤ 1000000000 * i →
    Ev (fun k => impl_ReadPlaces.l0 k xs e acc i c a) (acc ++ prs mkP' c a (xs.drop i), e, true)
  | 0, i, acc, c, a, hi, hl, hc, ha => by
    refine Ev.step (fun k => by rw [impl_ReadPlaces.l0]) ?_
    refine ev_neg (by omega) (ev_eq ?_)
    rw [List.drop_of_length_le (by omega)]
    simp [prs]
  | d + 1, i, acc, c, a, hi, hl, hc, ha => by
    refine Ev.step (fun k => by rw [impl_ReadPlaces.l0]) ?_
    have h1 := hr _ (rdOf_mem 0 xs i (by omega))
    have h2 := hr _ (rdOf_mem 0 xs (i + 1) (by omega))
    have e1 : wrap64 ((i : Int) + 1) = ((i + 1 : Nat) : Int) := by rw [w64 (by omega) (by omega)]; omega
    have e2 : wrap64 ((i : Int) + 2) = ((i + 2 : Nat) : Int) := by rw [w64 (by omega) (by omega)]; omega
    have r1 : rd xs (i : Int) = rdOf 0 xs (i : Int) := rfl
    have r2 : rd xs ((i + 1 : Nat) : Int) = rdOf 0 xs ((i + 1 : Nat) : Int) := rfl
    rw [e1, e2, w64 (x := c + rd xs (i : Int)) (by omega) (by omega), w64 (x := a + rd xs ((i + 1 : Nat) : Int)) (by omega) (by omega)]
    refine ev_pos (by omega) (ev_pos (by omega) (ev_pos (by omega) (ev_pos (by omega) (ev_pos (by omega) ?_))))
    have ih := impl_pairs_loop xs hx hr e d (i + 2) (acc ++ [mkP' (c + rd xs (i : Int)) (a + rd xs ((i + 1 : Nat) : Int))]) (c + rd xs (i : Int)) (a + rd xs ((i + 1 : Nat) : Int)) (by omega) (by simp; omega) (by omega) (by omega)
    rw [rd_drop xs i (by omega), rd_drop xs (i + 1) (by omega)]
    rw [List.append_assoc] at ih
    exact ih
theorem impl_ReadPlaces_ev (b : ByteArray) (hb : b.size ≤ 1073741824) (a : Int) (ha : a ≤ 9223372036854775807) : Ev (fun k => impl_ReadPlaces.f k b a) (rPlaces mkP' b a) := by
  unfold impl_ReadPlaces.f rPlaces
  refine Ev.bind (impl_ReadVar_ev b (by omega) a ha) (ev_ite (fun h => ?_) (fun h => ?_))
  · have r1 := rv_range b a h
    refine Ev.step (fun k => by rw [impl_ReadPlaces.j0]) ?_
    refine ev_ite (fun h1 => ev_eq ?_) (fun h1 => ?_)
    · have := of_decide_eq_true h1
      rw [if_neg (by omega)]
    · have := nd h1
      rw [if_pos ⟨h, by omega⟩, w64 (x := 2 * (rv b a).1) (by omega) (by omega)]
      have hv := impl_readVars_loop b hb (2 * (rv b a).1) (by omega) (2 * (rv b a).1.toNat) (rv b a).2.1 [] 0 (by omega) (by omega) rfl (by omega)
      have hv' : Ev (fun k => impl_readVars.f k b (rv b a).2.1 (2 * (rv b a).1)) _ := hv
      cases hs : vars b (2 * (rv b a).1.toNat) (rv b a).2.1 with
      | none =>
        rw [hs] at hv'
        exact Ev.bind hv' (ev_neg (by decide) (Ev.now _))
      | some q =>
        rw [hs] at hv'
        obtain ⟨k1, k2, _, _⟩ := vars_some b _ _ q.1 q.2 hs
        refine Ev.bind hv' (ev_pos rfl ?_)
        exact impl_pairs_loop q.1 (by omega) k2 q.2 (rv b a).1.toNat 0 [] 0 0 (by omega) (by simp) (by omega) (by omega)
  · refine Ev.step (fun k => by rw [impl_ReadPlaces.j0]) ?_
    refine ev_pos rfl (ev_eq ?_)
    rw [if_neg (fun x => h x.1)]
theorem rPlaces_len (b : ByteArray) (a : Int) : (rPlaces mkP' b a).1.length ≤ 2000 := by
  unfold rPlaces
  split
  · rename_i h
    cases hs : vars b (2 * (rv b a).1.toNat) (rv b a).2.1 with
    | none => simp
    | some q =>
      have k1 := (vars_some b _ _ q.1 q.2 hs).1
      have := prs_length mkP' 0 0 q.1
      simp only
      omega
  · simp

theorem FnExactReadPlaces : laws_FnExactReadPlaces.Pure := by
  intro b a _ ha
  refine EvP.holds ?_
  unfold laws_FnExactReadPlaces.f
  refine EvP.ite (fun _ => EvP.now rfl) (fun h => ?_)
  have e1 := spec_ReadPlaces_ev b (by omega) a
  have e2 := impl_ReadPlaces_ev b (by omega) a (wf64 ha).2
  have hp := rPlaces_len b a
  generalize rPlaces mkP' b a = q at e1 e2 hp
  have hm := heldPlace_ev q.1.length (by omega) 1 (by decide)
  refine EvP.call e1 (EvP.call e2 (EvP.call (eqPlaceS_ev _ (by omega)) (EvP.pos rfl (EvP.pos rfl ?_))))
  refine EvP.step (fun k => by rw [laws_FnExactReadPlaces.j0]) ?_
  refine EvP.neg (by simp) (EvP.call (markPlace_ev _ (by omega) 1 (by decide)) (EvP.call hm (EvP.neg (by omega) (EvP.pos rfl ?_))))
  refine EvP.call e2 (EvP.call (eqPlaceS_ev _ (by omega)) (EvP.pos rfl (EvP.pos rfl ?_)))
  refine EvP.step (fun k => by rw [laws_FnExactReadPlaces.j1]) ?_
  exact EvP.neg (by simp) (EvP.call hm (EvP.neg (by omega) (EvP.pos rfl (EvP.now rfl))))

end Go.Proofs.Ytkkendhkiopnbaa.Pure
