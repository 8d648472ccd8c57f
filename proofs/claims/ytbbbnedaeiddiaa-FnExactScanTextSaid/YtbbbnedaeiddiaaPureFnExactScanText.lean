/- The program's ScanText answers as the reference's, for every text, and shares no memory. -/
import Derived.Test.YtbbbnedaeiddiaaQFnExactScanTextx12
import Derived.Test.YtbbbnedaeiddiaaMath3
namespace Go.Proofs.Ytbbbnedaeiddiaa.Pure
open Go.RowKit Go.Proofs.Ytbbbnedaeiddiaa.QFnExactScanText Go.Proofs.YtbbbnedaeiddiaaW.PrintWords Go.Proofs.YtbbbnedaeiddiaaW.PrintLast Go.Proofs.YtbbbnedaeiddiaaW.PrintMore Go.Proofs.Ytbbbnedaeiddiaa.Mth
set_option linter.unusedVariables false
set_option linter.unusedSimpArgs false

theorem spec_In (a b c : Int) : spec_l01In.f a b c = some (decide (b ≤ a ∧ a ≤ c)) := by
  unfold spec_l01In.f
  by_cases h : a ≥ b <;> simp [h]

theorem impl_In (a b c : Int) : impl_within.f a b c = some (decide (b ≤ a ∧ a ≤ c)) := by
  unfold impl_within.f
  by_cases h : a ≥ b <;> simp [h]

theorem spec_Fix_loop (w : Int) (hw : w ≤ 8) : ∀ (d : Nat) (n : Int) (acc : List Int) (i : Int), i = w - d → 0 ≤ i → acc.length = i.toNat →
    Ev (fun k => spec_FixText.l0 k n w acc i) (if n / 256 ^ d > 0 then ⟨#[]⟩ else strOfNums (acc ++ fixL d n))
  | 0, n, acc, i, hi, h0, hl => by
    refine Ev.step (fun k => by rw [spec_FixText.l0]) ?_
    refine ev_neg (by omega) ?_
    have e : n / 256 ^ 0 = n := by simp
    rw [e]
    refine ev_ite (fun h => ev_eq (by rw [if_pos h])) (fun h => ev_eq (by rw [if_neg h]; simp [fixL]))
  | d + 1, n, acc, i, hi, h0, hl => by
    refine Ev.step (fun k => by rw [spec_FixText.l0]) ?_
    refine ev_pos (by omega) (ev_pos (by omega) ?_)
    rw [w64 (by omega) (by omega)]
    have := spec_Fix_loop w hw d (n / 256) (acc ++ [n % 256]) (i + 1) (by omega) (by omega) (by simp; omega)
    rw [div_div, List.append_assoc] at this
    exact this
theorem spec_Fix (n w : Int) : Ev (fun k => spec_FixText.f k n w) (fixT n w) := by
  unfold spec_FixText.f fixT
  refine ev_ite (fun h => ?_) (fun h => ?_)
  · rw [if_pos (.inl h)]
    refine Ev.step (fun k => by rw [spec_FixText.j0]) ?_
    exact ev_pos rfl (ev_eq rfl)
  · refine ev_now (spec_In _ _ _) ?_
    refine Ev.step (fun k => by rw [spec_FixText.j0]) ?_
    by_cases hw : 1 ≤ w ∧ w ≤ 8
    · refine ev_neg (by simp [hw]) ?_
      have := spec_Fix_loop w hw.2 w.toNat n [] 0 (by omega) (by omega) rfl
      refine ev_cast ?_ this
      by_cases hb : n / 256 ^ w.toNat > 0
      · rw [if_pos hb, if_pos (by simp [hb])]
      · rw [if_neg hb, if_neg (by simp only [not_or]; exact ⟨h, by omega, by omega, hb⟩)]
        rfl
    · refine ev_pos (by simp [hw]) (ev_eq ?_)
      rw [if_pos (by omega)]

theorem shr_pow (n : Int) (d : Nat) (h : d ≤ 8) : shr .i64 n (8 * (d : Int)) = n / 256 ^ d := by
  unfold shr
  rw [show (8 * (d : Int)).toNat = 8 * d by omega, show IntKind.bits .i64 = 64 from rfl, Nat.min_eq_left (by omega), Int.pow_mul]
  rfl
theorem impl_Fix_loop (w : Nat) (hw : w ≤ 8) (n : Int) : ∀ (d i : Nat), i + d = w →
    Ev (fun k => impl_FixText.l0 k n (fixL i n ++ List.replicate d 0) (w : Int) (i : Int)) (strOfNums (fixL w n))
  | 0, i, h => by
    obtain rfl : i = w := by omega
    refine Ev.step (fun k => by rw [impl_FixText.l0]) ?_
    refine ev_neg (by omega) (ev_eq (by simp))
  | d + 1, i, h => by
    refine Ev.step (fun k => by rw [impl_FixText.l0]) ?_
    have e : wrap64 (8 * (i : Int)) = 8 * (i : Int) := w64 (by omega) (by omega)
    refine ev_pos (by omega) (ev_pos (by omega) (ev_pos (by omega) (ev_pos (by simp [fixL_length]; omega) ?_)))
    rw [e, shr_pow n i (by omega), w64 (by omega) (by omega)]
    have := impl_Fix_loop w hw n d (i + 1) (by omega)
    rw [fixL_snoc] at this
    have e2 : (fixL i n ++ List.replicate (d + 1) 0).set ((i : Int).toNat) (n / 256 ^ i % 256) = fixL i n ++ [n / 256 ^ i % 256] ++ List.replicate d 0 := by
      rw [Int.toNat_natCast, List.set_append_right _ _ (by rw [fixL_length]; omega), fixL_length, Nat.sub_self, List.replicate_succ]
      simp
    rw [e2]
    exact this
theorem impl_Fix (n w : Int) (hn : n ≤ 9223372036854775807) : Ev (fun k => impl_FixText.f k n w) (fixT n w) := by
  unfold impl_FixText.f fixT
  have go : ∀ b : Bool, 1 ≤ w → w ≤ 8 → Ev (fun k => impl_FixText.j0 k n w b) (if b = true then ⟨#[]⟩ else strOfNums (fixL w.toNat n)) := by
    intro b h1 h2
    refine Ev.step (fun k => by rw [impl_FixText.j0]) ?_
    refine ev_ite (fun h => ev_eq (by rw [if_pos h])) (fun h => ?_)
    rw [if_neg h]
    refine ev_pos (by omega) (ev_pos (by omega) (ev_now rfl ?_))
    have := impl_Fix_loop w.toNat (by omega) n w.toNat 0 (by omega)
    rw [show fixL 0 n = [] from rfl, List.nil_append, show ((w.toNat : Nat) : Int) = w by omega] at this
    rw [List.length_replicate, show ((w.toNat : Nat) : Int) = w by omega]
    exact this
  refine ev_ite (fun h => ?_) (fun h => ?_)
  · rw [if_pos (.inl h)]
    refine Ev.step (fun k => by rw [impl_FixText.j0]) ?_
    exact ev_pos rfl (ev_eq rfl)
  · refine ev_now (impl_In _ _ _) ?_
    by_cases hw : 1 ≤ w ∧ w ≤ 8
    · refine ev_pos (by simp [hw]) ?_
      refine ev_ite (fun h8 => ?_) (fun h8 => ?_)
      · have e : wrap64 (8 * w) = 8 * ((w.toNat : Nat) : Int) := by rw [w64 (by omega) (by omega)]; omega
        rw [e, shr_pow n w.toNat (by omega)]
        refine ev_pos (by omega) (ev_cast ?_ (go _ hw.1 hw.2))
        have hnn : 0 ≤ n / 256 ^ w.toNat := Int.ediv_nonneg (by omega) (Int.pow_nonneg (by decide))
        by_cases hb : n / 256 ^ w.toNat > 0
        · rw [if_pos (by simp; omega), if_pos (by simp [hb])]
        · have hz : n / 256 ^ w.toNat = 0 := by omega
          rw [if_neg (by simp [hz]), if_neg (by simp only [not_or]; exact ⟨h, by omega, by omega, hb⟩)]
      · refine ev_cast ?_ (go _ hw.1 hw.2)
        obtain rfl : w = 8 := by omega
        have hz : n / 256 ^ (8 : Int).toNat = 0 := by
          rw [show (256 : Int) ^ (8 : Int).toNat = 18446744073709551616 by decide]
          omega
        rw [if_neg (by simp), if_neg (by simp only [not_or]; exact ⟨h, by omega, by omega, by omega⟩)]
    · refine ev_neg (by simp [hw]) ?_
      refine Ev.step (fun k => by rw [impl_FixText.j0]) ?_
      refine ev_pos rfl (ev_eq ?_)
      rw [if_pos (by omega)]

theorem spec_SumByte_loop : ∀ (d n : Nat) (i : Int), d ≤ 8 → n < 4294967296 → i = 8 - d → Ev (fun k => spec_SumByte.l0 k n i) ((stps d n : Nat) : Int)
  | 0, n, i, h9, hn, hi => by
    refine Ev.step (fun k => by rw [spec_SumByte.l0]) ?_
    exact ev_neg (by omega) (ev_eq rfl)
  | d + 1, n, i, h9, hn, hi => by
    refine Ev.step (fun k => by rw [spec_SumByte.l0]) ?_
    by_cases h8 : i < 8
    · refine ev_pos h8 ?_
      have hh : (n : Int) / 2 = ((n / 2 : Nat) : Int) := by omega
      rw [and_1, hh, w64 (by omega) (by omega), show (2197175160 : Int) = ((2197175160 : Nat) : Int) from rfl, xor64 _ _ (by omega) (by decide)]
      have hs := spec_SumByte_loop d (stp n) (i + 1) (by omega) (stp_lt hn) (by omega)
      refine ev_ite (fun h => ?_) (fun h => ?_)
      · rw [show stp n = (n / 2) ^^^ 2197175160 by unfold stp; rw [if_pos (by omega)]] at hs
        refine ev_cast ?_ hs
        show _ = ((stps d (stp n) : Nat) : Int)
        rw [show stp n = (n / 2) ^^^ 2197175160 by unfold stp; rw [if_pos (by omega)]]
      · rw [show stp n = n / 2 by unfold stp; rw [if_neg (by omega)]] at hs
        refine ev_cast ?_ hs
        show _ = ((stps d (stp n) : Nat) : Int)
        rw [show stp n = n / 2 by unfold stp; rw [if_neg (by omega)]]
    · exact absurd (by omega) h8
theorem spec_SumByte_ev (s b : Nat) (hs : s < 4294967296) (hb : b < 256) : Ev (fun k => spec_SumByte.f k s b) ((sb s b : Nat) : Int) := by
  unfold spec_SumByte.f
  rw [and_all, and_255, show (s : Int) % 4294967296 = s by omega, show (b : Int) % 256 = b by omega, xor64 _ _ hs (by omega)]
  exact spec_SumByte_loop 8 _ 0 (Nat.le_refl _) (xlt hs (by omega)) (by omega)
theorem spec_SumMore_loop (t : ByteArray) (ht : t.size ≤ 9223372036854775806) : ∀ (d i s : Nat), i + d = t.size → s < 4294967296 →
    Ev (fun k => spec_SumMore.l0 k t s i) ((sm s ((bl t).drop i) ^^^ 4294967295 : Nat) : Int)
  | 0, i, s, hi, hs => by
    refine Ev.step (fun k => by rw [spec_SumMore.l0]) ?_
    refine ev_neg (by omega) (ev_eq ?_)
    rw [show (4294967295 : Int) = ((4294967295 : Nat) : Int) from rfl, xor64 _ _ hs (by decide), List.drop_of_length_le (by rw [bl_length]; omega)]
    rfl
  | d + 1, i, s, hi, hs => by
    refine Ev.step (fun k => by rw [spec_SumMore.l0]) ?_
    refine ev_pos (by omega) (ev_pos (by omega) ?_)
    have hb := bl_getD_lt t i
    rw [bt_bl t i (by omega), w64 (by omega) (by omega), w64 (by omega) (by omega), bl_drop t i (by omega)]
    refine Ev.bind (spec_SumByte_ev s _ hs hb) ?_
    have := spec_SumMore_loop t ht d (i + 1) (sb s ((bl t).getD i 0)) (by omega) (sb_lt hs (by omega))
    rw [Int.natCast_add] at this
    exact this
theorem spec_SumMore_ev (s : Int) (t : ByteArray) (ht : t.size ≤ 9223372036854775806) : Ev (fun k => spec_SumMore.f k s t) (sumMore s t) := by
  unfold spec_SumMore.f
  have h0 : (s % 4294967296).toNat < 4294967296 := by omega
  rw [and_all, show s % 4294967296 = (((s % 4294967296).toNat : Nat) : Int) by omega, show (4294967295 : Int) = ((4294967295 : Nat) : Int) from rfl, xor64 _ _ h0 (by decide)]
  exact spec_SumMore_loop t ht t.size 0 _ (by omega) (xlt h0 (by decide))
theorem spec_SumOf_ev (t : ByteArray) (ht : t.size ≤ 9223372036854775806) : Ev (fun k => spec_SumOf.f k t) (sumOf t) := by
  unfold spec_SumOf.f
  exact Ev.bind (spec_SumMore_ev 0 t ht) (Ev.now _)

theorem impl_sumByte_loop : ∀ (d n : Nat) (i : Int), d ≤ 8 → n < 4294967296 → i = 8 - d → Ev (fun k => impl_sumByte.l0 k n i) ((stps d n : Nat) : Int)
  | 0, n, i, h9, hn, hi => by
    refine Ev.step (fun k => by rw [impl_sumByte.l0]) ?_
    exact ev_neg (by omega) (ev_eq rfl)
  | d + 1, n, i, h9, hn, hi => by
    refine Ev.step (fun k => by rw [impl_sumByte.l0]) ?_
    refine ev_pos (by omega) ?_
    have hh : (n : Int) / 2 = ((n / 2 : Nat) : Int) := by omega
    rw [and32_1 n hn, hh, w64 (by omega) (by omega), show (2197175160 : Int) = ((2197175160 : Nat) : Int) from rfl, xor32 _ _ (by omega) (by decide)]
    have hs := impl_sumByte_loop d (stp n) (i + 1) (by omega) (stp_lt hn) (by omega)
    refine ev_cast (a := ((stps d (stp n) : Nat) : Int)) rfl ?_
    refine ev_ite (fun h => ?_) (fun h => ?_)
    · rw [show stp n = (n / 2) ^^^ 2197175160 by unfold stp; rw [if_pos (by omega)]] at hs ⊢
      exact hs
    · rw [show stp n = n / 2 by unfold stp; rw [if_neg (by omega)]] at hs ⊢
      exact hs
theorem impl_sumByte_ev (s b : Nat) (hs : s < 4294967296) (hb : b < 256) : Ev (fun k => impl_sumByte.f k s b) ((sb s b : Nat) : Int) := by
  unfold impl_sumByte.f
  rw [show (b : Int) % 4294967296 = b by omega, xor32 _ _ hs (by omega)]
  exact impl_sumByte_loop 8 _ 0 (Nat.le_refl _) (xlt hs (by omega)) (by omega)
theorem impl_SumMore_loop (t : ByteArray) (ht : t.size ≤ 9223372036854775806) : ∀ (d i s : Nat), i + d = t.size → s < 4294967296 →
    Ev (fun k => impl_SumMore.l0 k t s t.size i) ((sm s ((bl t).drop i) ^^^ 4294967295 : Nat) : Int)
  | 0, i, s, hi, hs => by
    refine Ev.step (fun k => by rw [impl_SumMore.l0]) ?_
    refine ev_neg (by omega) (ev_eq ?_)
    have hlt : sm s ((bl t).drop i) ^^^ 4294967295 < 4294967296 := xlt (sm_lt _ hs (fun x hx => bl_lt t x (List.mem_of_mem_drop hx))) (by decide)
    rw [List.drop_of_length_le (by rw [bl_length]; omega)] at hlt ⊢
    rw [show (4294967295 : Int) = ((4294967295 : Nat) : Int) from rfl, xor32 _ _ hs (by decide), w64 (by omega) (by have : s ^^^ 4294967295 < 4294967296 := hlt; omega)]
    rfl
  | d + 1, i, s, hi, hs => by
    refine Ev.step (fun k => by rw [impl_SumMore.l0]) ?_
    refine ev_pos (by omega) (ev_pos (by omega) (ev_pos (by omega) ?_))
    have hb := bl_getD_lt t i
    rw [bt_bl t i (by omega), w64 (by omega) (by omega), bl_drop t i (by omega)]
    refine Ev.bind (impl_sumByte_ev s _ hs hb) ?_
    have := impl_SumMore_loop t ht d (i + 1) (sb s ((bl t).getD i 0)) (by omega) (sb_lt hs (by omega))
    rw [Int.natCast_add] at this
    exact this
theorem impl_SumMore_ev (s : Int) (t : ByteArray) (ht : t.size ≤ 9223372036854775806) : Ev (fun k => impl_SumMore.f k s t) (sumMore s t) := by
  unfold impl_SumMore.f
  have h0 : (s % 4294967296).toNat < 4294967296 := by omega
  rw [show s % 4294967296 = (((s % 4294967296).toNat : Nat) : Int) by omega, show (4294967295 : Int) = ((4294967295 : Nat) : Int) from rfl, xor32 _ _ h0 (by decide)]
  exact impl_SumMore_loop t ht t.size 0 _ (by omega) (xlt h0 (by decide))

theorem impl_SumOf_ev (t : ByteArray) (ht : t.size ≤ 9223372036854775806) : Ev (fun k => impl_SumOf.f k t) (sumOf t) := by
  unfold impl_SumOf.f
  exact Ev.bind (impl_SumMore_ev 0 t ht) (Ev.now _)

theorem impl_Ver (v : Int) : impl_isVersion.f v = some (decide (verOk v)) := by
  unfold impl_isVersion.f verOk
  by_cases h : v = 1 <;> simp [h]
  rw [Bool.eq_iff_iff]; simp

theorem impl_Num (n : Int) : impl_isNumber.f n = some (decide (numOk n)) := by
  unfold impl_isNumber.f numOk
  rw [impl_In]
  rfl

theorem spec_Var_loop : ∀ (d : Nat) (n : Int) (acc : List Int), 0 ≤ n → n < 128 ^ (d + 1) → acc.length + d ≤ 100 →
    Ev (fun k => spec_VarText.l0 k n acc) (strOfNums (acc ++ varL d n))
  | 0, n, acc, h0, h1, hl => by
    refine Ev.step (fun k => by rw [spec_VarText.l0]) ?_
    refine ev_neg (by omega) (ev_pos (by omega) (ev_eq rfl))
  | d + 1, n, acc, h0, h1, hl => by
    refine Ev.step (fun k => by rw [spec_VarText.l0]) ?_
    refine ev_ite (fun h => ev_pos (by omega) ?_) (fun h => ev_pos (by omega) (ev_eq ?_))
    · rw [or64]
      have hp : n / 128 < 128 ^ (d + 1) := by
        rw [Int.pow_succ] at h1
        omega
      have := spec_Var_loop d (n / 128) (acc ++ [n % 128 + 128]) (by omega) hp (by simp; omega)
      rw [List.append_assoc] at this
      rw [varL_gt d n h]
      exact this
    · rw [varL_ngt d n h]
theorem spec_Var_ev (n : Int) : Ev (fun k => spec_VarText.f k n) (varT n) := by
  unfold spec_VarText.f varT
  refine ev_now (spec_In _ _ _) ?_
  refine ev_ite (fun h => ?_) (fun h => ?_)
  · have h' := of_decide_eq_true h
    rw [if_neg (by omega)]
    exact spec_Var_loop 4 n [] h'.1 (by have : (128 : Int) ^ (4 + 1) = 34359738368 := by decide
                                        omega) (by simp)
  · rw [if_pos (by have h' := nd h; omega)]
    exact Ev.now _

theorem impl_Var_loop : ∀ (d : Nat) (n : Int) (acc : List Int), 0 ≤ n → n < 128 ^ (d + 1) → acc.length + d ≤ 100 →
    Ev (fun k => impl_VarText.l0 k n acc) (strOfNums (acc ++ varL d n))
  | 0, n, acc, h0, h1, hl => by
    refine Ev.step (fun k => by rw [impl_VarText.l0]) ?_
    refine ev_neg (by omega) (ev_pos (by omega) (ev_eq rfl))
  | d + 1, n, acc, h0, h1, hl => by
    refine Ev.step (fun k => by rw [impl_VarText.l0]) ?_
    refine ev_ite (fun h => ev_pos (by omega) ?_) (fun h => ev_pos (by omega) (ev_eq ?_))
    · rw [orU8]
      have hp : n / 128 < 128 ^ (d + 1) := by
        rw [Int.pow_succ] at h1
        omega
      have := impl_Var_loop d (n / 128) (acc ++ [n % 128 + 128]) (by omega) hp (by simp; omega)
      rw [List.append_assoc] at this
      rw [varL_gt d n (by omega)]
      exact this
    · rw [varL_ngt d n (by omega)]
theorem impl_Var_ev (n : Int) : Ev (fun k => impl_VarText.f k n) (varT n) := by
  unfold impl_VarText.f varT
  refine ev_now (impl_Num _) ?_
  refine ev_ite (fun h => ?_) (fun h => ?_)
  · have h' := of_decide_eq_true h
    unfold numOk at h'
    rw [if_neg (by omega)]
    exact impl_Var_loop 4 n [] h'.1 (by have : (128 : Int) ^ (4 + 1) = 34359738368 := by decide
                                        omega) (by simp)
  · rw [if_pos (by have h' := nd h; unfold numOk at h'; omega)]
    exact Ev.now _

theorem impl_sized_ev (p n : Int) (hp : p ≤ 9223372036854775807) (hn : n ≤ 9223372036854775807) : Ev (fun k => impl_sized.f k p n) (sizedT p n) := by
  unfold impl_sized.f sizedT
  have h1 := fixT_le n 4
  have h2 := fixT_le p 8
  have h3 := fixT_le (sumOf (fixT p 8 ++ fixT n 4)) 4
  have hs : (fixT p 8 ++ fixT n 4).size ≤ 9223372036854775806 := by rw [ByteArray.size_append]; omega
  refine Ev.bind (impl_Fix n 4 hn) (Ev.bind (impl_Fix p 8 hp) (ev_pos (by omega) ?_))
  refine Ev.bind (impl_SumOf_ev _ hs) (Ev.bind (impl_Fix _ 4 (by have := sumMore_range 0 (fixT p 8 ++ fixT n 4); unfold sumOf; omega)) (ev_pos (by omega) (Ev.now _)))

theorem spec_EndMark_ev (v p : Int) : Ev (fun k => spec_EndMark.f k v p) (endMark v p) := by
  unfold spec_EndMark.f
  have go : ∀ b : Bool, Ev (fun k => spec_EndMark.j0 k v p b) (if b = true then ⟨#[]⟩ else if v = 1 then ⟨#[255, 255, 255, 255, 15]⟩ else sizedT p 4294967295) := by
    intro b
    refine Ev.step (fun k => by rw [spec_EndMark.j0]) ?_
    refine ev_ite (fun h => ev_eq (by rw [if_pos h])) (fun h => ?_)
    rw [if_neg h]
    refine ev_ite (fun h => ev_eq (by rw [if_pos h])) (fun h => ?_)
    rw [if_neg h]
    unfold sizedT
    have h1 := fixT_le 4294967295 4
    have h2 := fixT_le p 8
    have h3 := fixT_le (sumOf (fixT p 8 ++ fixT 4294967295 4)) 4
    have hs : (fixT p 8 ++ fixT 4294967295 4).size ≤ 9223372036854775806 := by rw [ByteArray.size_append]; omega
    refine Ev.bind (spec_Fix 4294967295 4) (Ev.bind (spec_Fix p 8) (ev_pos (by omega) ?_))
    exact Ev.bind (spec_SumOf_ev _ hs) (Ev.bind (spec_Fix _ 4) (ev_pos (by omega) (Ev.now _)))
  unfold endMark
  refine ev_now (spec_In _ _ _) ?_
  refine ev_ite (fun h => ev_now (spec_In _ _ _) (ev_cast ?_ (go _))) (fun h => ev_cast ?_ (go _))
  · have h' := of_decide_eq_true h
    by_cases hp : 0 ≤ p ∧ p ≤ 1000000000
    · rw [if_pos (show verOk v ∧ numOk p from ⟨by unfold verOk; omega, hp⟩), if_neg (by simp [hp])]
    · rw [if_neg (show ¬ (verOk v ∧ numOk p) from fun x => hp x.2), if_pos (by simp only [hp]; rfl)]
  · have h' : ¬ (1 ≤ v ∧ v ≤ 2) := nd h
    rw [if_neg (show ¬ (verOk v ∧ numOk p) from fun x => by have := x.1; unfold verOk at this; omega), if_pos rfl]

theorem impl_EndMark_ev (v p : Int) (hp : p ≤ 9223372036854775807) : Ev (fun k => impl_EndMark.f k v p) (endMark v p) := by
  unfold impl_EndMark.f
  have go : ∀ b : Bool, Ev (fun k => impl_EndMark.j0 k v p b) (if b = true then ⟨#[]⟩ else if v = 1 then ⟨#[255, 255, 255, 255, 15]⟩ else sizedT p 4294967295) := by
    intro b
    refine Ev.step (fun k => by rw [impl_EndMark.j0]) ?_
    refine ev_ite (fun h => ev_eq (by rw [if_pos h])) (fun h => ?_)
    rw [if_neg h]
    refine ev_ite (fun h => ev_eq (by rw [if_pos h])) (fun h => ?_)
    rw [if_neg h]
    exact Ev.bind (impl_sized_ev p 4294967295 hp (by decide)) (Ev.now _)
  unfold endMark
  refine ev_now (impl_Ver _) ?_
  refine ev_ite (fun h => ev_now (impl_Num _) (ev_cast ?_ (go _))) (fun h => ev_cast ?_ (go _))
  · have h' := of_decide_eq_true h
    by_cases hp : numOk p
    · rw [if_pos (show verOk v ∧ numOk p from ⟨h', hp⟩), if_neg (by simp [hp])]
    · rw [if_neg (show ¬ (verOk v ∧ numOk p) from fun x => hp x.2), if_pos (by simp only [hp]; rfl)]
  · have h' : ¬ verOk v := nd h
    rw [if_neg (show ¬ (verOk v ∧ numOk p) from fun x => h' x.1), if_pos rfl]

theorem hasPrefix_eq (s p : ByteArray) : stringslite_HasPrefix.f s p = some (decide (p.size ≤ s.size ∧ s.extract 0 p.size = p)) := by
  unfold stringslite_HasPrefix.f
  by_cases h : p.size ≤ s.size
  · rw [if_pos (by omega), if_pos (by omega), if_pos (by omega), toList_beq, Int.toNat_natCast]
    simp [h]
  · rw [if_neg (by omega)]
    simp [h]
theorem strings_HasPrefix_eq (s p : ByteArray) : strings_HasPrefix.f s p = some (decide (p.size ≤ s.size ∧ s.extract 0 p.size = p)) := by
  unfold strings_HasPrefix.f
  rw [hasPrefix_eq]
  rfl
theorem impl_hasAt_eq (b : ByteArray) (a : Int) (t : ByteArray) : impl_hasAt.f b a t = some (hasAt b a t) := by
  unfold impl_hasAt.f hasAt
  rw [impl_In]
  by_cases h : 0 ≤ a ∧ a ≤ (b.size : Int)
  · rw [decide_eq_true h, Option.bind_some, if_pos rfl, if_pos h.1, if_pos h.2, strings_HasPrefix_eq, Option.bind_some]
    congr 1
    rw [decide_eq_decide, ByteArray.size_extract, ByteArray.extract_extract]
    by_cases hs : a + t.size ≤ (b.size : Int)
    · rw [show min (a.toNat + t.size) b.size = a.toNat + t.size by omega]
      constructor
      · rintro ⟨_, h2⟩
        exact ⟨h.1, hs, by simpa using h2⟩
      · rintro ⟨_, _, h2⟩
        exact ⟨by omega, by simpa using h2⟩
    · exact ⟨fun h' => absurd h'.1 (by omega), fun h' => absurd h'.2.1 hs⟩
  · rw [decide_eq_false h, Option.bind_some, if_neg (by decide)]
    congr 1
    rw [eq_comm, decide_eq_false_iff_not]
    intro h'
    exact h ⟨h'.1, by omega⟩

theorem spec_MarkAt_ev (v p : Int) (b : ByteArray) (a : Int) (hb : b.size ≤ 140737488355328) : Ev (fun k => spec_MarkAt.f k v p b a) (markAt v p b a) := by
  unfold spec_MarkAt.f markAt
  have hm := endMark_le v p
  refine Ev.bind (spec_EndMark_ev v p) ?_
  refine ev_ite (fun h => ev_eq ?_) (fun h => ?_)
  · rw [toList_nil_iff] at h
    simp [h]
  · rw [toList_nil_iff] at h
    rw [decide_eq_true h, Bool.true_and]
    unfold hasAt
    refine ev_now (spec_In _ _ _) ?_
    rw [w64 (x := (b.size : Int) - _) (by omega) (by omega)]
    by_cases h1 : 0 ≤ a ∧ a ≤ (b.size : Int) - ((endMark v p).size : Int)
    · have e : wrap64 (a + ((endMark v p).size : Int)) = a + ((endMark v p).size : Int) := w64 (by omega) (by omega)
      rw [e]
      refine ev_pos (decide_eq_true h1) (ev_pos h1.1 (ev_pos (by omega) (ev_pos (by omega) (ev_eq ?_))))
      rw [toList_beq, decide_eq_decide, show (a + ((endMark v p).size : Int)).toNat = a.toNat + (endMark v p).size by omega]
      exact ⟨fun h2 => ⟨h1.1, by omega, h2⟩, fun h2 => h2.2.2⟩
    · refine ev_neg (by simp [h1]) (ev_eq ?_)
      rw [eq_comm, decide_eq_false_iff_not]
      intro h2
      exact h1 ⟨h2.1, by omega⟩

theorem impl_MarkAt_ev (v p : Int) (b : ByteArray) (a : Int) (hp : p ≤ 9223372036854775807) : Ev (fun k => impl_MarkAt.f k v p b a) (markAt v p b a) := by
  unfold impl_MarkAt.f markAt
  refine Ev.bind (impl_EndMark_ev v p hp) ?_
  refine ev_ite (fun h => ev_eq ?_) (fun h => ev_now (impl_hasAt_eq _ _ _) (ev_eq ?_))
  · rw [toList_nil_iff] at h
    simp [h]
  · rw [toList_nil_iff] at h
    simp [h]

theorem spec_FrameText_ev (v p : Int) (r : ByteArray) (hr : r.size ≤ 140737488355328) : Ev (fun k => spec_FrameText.f k v p r) (frameT v p r) := by
  unfold spec_FrameText.f
  have go : ∀ b : Bool, Ev (fun k => spec_FrameText.j0 k v p r b) (if b = true then ⟨#[]⟩ else (if v = 1 then varT r.size else sizedT p r.size) ++ r ++ fixT (sumOf r) 4) := by
    intro b
    refine Ev.step (fun k => by rw [spec_FrameText.j0]) ?_
    refine ev_ite (fun h => ev_eq (by rw [if_pos h])) (fun h => ?_)
    rw [if_neg h]
    have h1 := sizedT_le p r.size
    have h2 := varT_le r.size
    have h3 := fixT_le (sumOf r) 4
    refine Ev.bind (spec_SumOf_ev r (by omega)) (Ev.bind (spec_Fix _ 4) ?_)
    refine ev_ite (fun h => ?_) (fun h => ?_)
    · rw [if_pos h]
      refine Ev.bind (spec_Var_ev _) (ev_pos (by omega) (ev_pos ?_ (Ev.now _)))
      rw [ByteArray.size_append]; omega
    · rw [if_neg h]
      unfold sizedT at h1 ⊢
      have g1 := fixT_le r.size 4
      have g2 := fixT_le p 8
      have g3 := fixT_le (sumOf (fixT p 8 ++ fixT r.size 4)) 4
      have hs : (fixT p 8 ++ fixT (r.size : Int) 4).size ≤ 9223372036854775806 := by rw [ByteArray.size_append]; omega
      refine Ev.bind (spec_Fix _ 4) (Ev.bind (spec_Fix p 8) (ev_pos (by omega) ?_))
      refine Ev.bind (spec_SumOf_ev _ hs) (Ev.bind (spec_Fix _ 4) (ev_pos (by omega) (ev_pos ?_ (ev_pos ?_ (Ev.now _)))))
      · omega
      · rw [ByteArray.size_append]; omega
  unfold frameT
  refine ev_now (spec_In _ _ _) ?_
  refine ev_ite (fun h => ev_now (spec_In _ _ _) (ev_ite (fun h2 => ev_cast ?_ (go _)) (fun h2 => ev_cast ?_ (go _)))) (fun h => ev_cast ?_ (go _))
  · have h' := of_decide_eq_true h
    have h2' := of_decide_eq_true h2
    by_cases hr : r.size ≤ 60
    · rw [if_neg (by simp; omega), if_pos (show verOk v ∧ numOk p ∧ r.size ≤ 60 from ⟨by unfold verOk; omega, h2', hr⟩)]
    · rw [if_pos (by simp; omega), if_neg (show ¬ (verOk v ∧ numOk p ∧ r.size ≤ 60) from fun x => hr x.2.2)]
  · have h2' : ¬ (0 ≤ p ∧ p ≤ 1000000000) := nd h2
    rw [if_pos rfl, if_neg (show ¬ (verOk v ∧ numOk p ∧ r.size ≤ 60) from fun x => h2' x.2.1)]
  · have h' : ¬ (1 ≤ v ∧ v ≤ 2) := nd h
    rw [if_pos rfl, if_neg (show ¬ (verOk v ∧ numOk p ∧ r.size ≤ 60) from fun x => by have := x.1; unfold verOk at this; omega)]

theorem impl_FrameText_ev (v p : Int) (r : ByteArray) (hp : p ≤ 9223372036854775807) (hr : r.size ≤ 140737488355328) : Ev (fun k => impl_FrameText.f k v p r) (frameT v p r) := by
  unfold impl_FrameText.f
  have go : ∀ b : Bool, Ev (fun k => impl_FrameText.j0 k v p r b) (if b = true then ⟨#[]⟩ else (if v = 2 then sizedT p r.size else varT r.size) ++ r ++ fixT (sumOf r) 4) := by
    intro b
    refine Ev.step (fun k => by rw [impl_FrameText.j0]) ?_
    refine ev_ite (fun h => ev_eq (by rw [if_pos h])) (fun h => ?_)
    rw [if_neg h]
    have h1 := sizedT_le p r.size
    have h2 := varT_le r.size
    have h3 := fixT_le (sumOf r) 4
    have h4 : sumOf r ≤ 9223372036854775807 := by have := sumMore_range 0 r; unfold sumOf; omega
    refine Ev.bind (impl_Var_ev _) ?_
    refine ev_ite (fun h => ?_) (fun h => ?_)
    · rw [if_pos h]
      refine Ev.bind (impl_sized_ev p r.size hp (by omega)) (ev_pos (by omega) ?_)
      refine Ev.bind (impl_SumOf_ev r (by omega)) (Ev.bind (impl_Fix _ 4 h4) (ev_pos ?_ (Ev.now _)))
      rw [ByteArray.size_append]; omega
    · rw [if_neg h]
      refine ev_pos (by omega) ?_
      refine Ev.bind (impl_SumOf_ev r (by omega)) (Ev.bind (impl_Fix _ 4 h4) (ev_pos ?_ (Ev.now _)))
      rw [ByteArray.size_append]; omega
  unfold frameT
  refine ev_now (impl_Ver _) ?_
  refine ev_ite (fun h => ev_now (impl_Num _) (ev_ite (fun h2 => ev_cast ?_ (go _)) (fun h2 => ev_cast ?_ (go _)))) (fun h => ev_cast ?_ (go _))
  · have h' := of_decide_eq_true h
    have h2' := of_decide_eq_true h2
    have e : (if v = 2 then sizedT p r.size else varT r.size) = (if v = 1 then varT r.size else sizedT p r.size) := by
      rcases h' with rfl | rfl <;> simp
    rw [e]
    by_cases hr : r.size ≤ 60
    · rw [if_neg (by simp; omega), if_pos (show verOk v ∧ numOk p ∧ r.size ≤ 60 from ⟨h', h2', hr⟩)]
    · rw [if_pos (by simp; omega), if_neg (show ¬ (verOk v ∧ numOk p ∧ r.size ≤ 60) from fun x => hr x.2.2)]
  · have h2' : ¬ numOk p := nd h2
    rw [if_pos rfl, if_neg (show ¬ (verOk v ∧ numOk p ∧ r.size ≤ 60) from fun x => h2' x.2.1)]
  · have h' : ¬ verOk v := nd h
    rw [if_pos rfl, if_neg (show ¬ (verOk v ∧ numOk p ∧ r.size ≤ 60) from fun x => h' x.1)]

theorem eqInt_loop (xs : List Int) (hx : xs.length ≤ 140737488355328) : ∀ (d i : Nat), i + d = xs.length → Ev (fun k => laws_eqIntS.l0 k xs xs i) true
  | 0, i, hi => Ev.step (fun k => by rw [laws_eqIntS.l0]) (ev_neg (by omega) (Ev.now _))
  | d + 1, i, hi => by
    refine Ev.step (fun k => by rw [laws_eqIntS.l0]) (ev_pos (by omega) (ev_pos (by omega) (ev_pos (by omega) (ev_pos rfl ?_))))
    rw [w64 (by omega) (by omega)]
    exact eqInt_loop xs hx d (i + 1) (by omega)
theorem eqInt_ev (xs : List Int) (hx : xs.length ≤ 140737488355328) : Ev (fun k => laws_eqIntS.f k xs xs) true := by
  unfold laws_eqIntS.f
  exact ev_pos rfl (eqInt_loop xs hx xs.length 0 (by omega))

theorem markInt_loop (n : Nat) (hn : n ≤ 140737488355328) (m0 : Int) (hm : 0 ≤ m0 ∧ m0 ≤ 1152921504606846976) : ∀ (d i : Nat) (ys : List Int), ys.length = d → i + d = n →
    Ev (fun k => laws_markIntS.l0 k (seqL i m0 ++ ys) (m0 + i) i) (m0 + n, seqL n m0)
  | 0, i, ys, hy, hi => by
    obtain rfl : ys = [] := List.eq_nil_of_length_eq_zero hy
    refine Ev.step (fun k => by rw [laws_markIntS.l0]) (ev_neg (by simp [seqL_length] <;> omega) (ev_eq ?_))
    obtain rfl : i = n := by omega
    simp
  | d + 1, i, y :: ys, hy, hi => by
    refine Ev.step (fun k => by rw [laws_markIntS.l0]) (ev_pos (by simp [seqL_length] <;> omega) (ev_pos (by omega) ?_))
    rw [w64 (x := m0 + i + 1) (by omega) (by omega), w64 (x := (i : Int) + 1) (by omega) (by omega), Int.toNat_natCast, set_mid _ _ _ _ i (seqL_length _ _)]
    have := markInt_loop n hn m0 hm d (i + 1) ys (by simpa using hy) (by omega)
    rw [seqL_snoc, List.append_assoc, Int.natCast_add, ← Int.add_assoc] at this
    exact this
theorem markInt_ev (ys : List Int) (hn : ys.length ≤ 140737488355328) (m0 : Int) (hm : 0 ≤ m0 ∧ m0 ≤ 1152921504606846976) : Ev (fun k => laws_markIntS.f k ys m0) (m0 + ys.length, seqL ys.length m0) := by
  unfold laws_markIntS.f
  have := markInt_loop ys.length hn m0 hm ys.length 0 ys rfl (by omega)
  rw [show m0 + ((0 : Nat) : Int) = m0 by simp] at this
  exact this

theorem heldInt_loop (n : Nat) (hn : n ≤ 140737488355328) (m0 : Int) (hm : 0 ≤ m0 ∧ m0 ≤ 1152921504606846976) : ∀ (d i : Nat), i + d = n →
    Ev (fun k => laws_heldIntS.l0 k (seqL n m0) (m0 + i) i) (m0 + n)
  | 0, i, hi => by
    refine Ev.step (fun k => by rw [laws_heldIntS.l0]) (ev_neg (by rw [seqL_length]; omega) (ev_eq (by omega)))
  | d + 1, i, hi => by
    refine Ev.step (fun k => by rw [laws_heldIntS.l0]) (ev_pos (by rw [seqL_length]; omega) (ev_pos (by omega) (ev_pos (seqL_get n m0 i (by omega)) ?_)))
    rw [w64 (x := m0 + i + 1) (by omega) (by omega), w64 (x := (i : Int) + 1) (by omega) (by omega)]
    have := heldInt_loop n hn m0 hm d (i + 1) (by omega)
    rw [Int.natCast_add, ← Int.add_assoc] at this
    exact this
theorem heldInt_ev (n : Nat) (hn : n ≤ 140737488355328) (m0 : Int) (hm : 0 ≤ m0 ∧ m0 ≤ 1152921504606846976) : Ev (fun k => laws_heldIntS.f k (seqL n m0) m0) (m0 + n) := by
  unfold laws_heldIntS.f
  have := heldInt_loop n hn m0 hm n 0 (by omega)
  rw [show m0 + ((0 : Nat) : Int) = m0 by simp] at this
  exact this

theorem wrapU (x : Int) (h0 : 0 ≤ x) (h1 : x ≤ 9223372036854775807) : IntKind.u64.wrap x = x := by
  simp only [IntKind.wrap, IntKind.bits, IntKind.signed]
  simp
  omega
theorem acc_or (b : ByteArray) (a i : Nat) (hi : i ≤ 4) (h : a + i < b.size) :
    Go.bits .or .i64 (acc (seg b a i)) (shl .i64 (bt b ((a + i : Nat) : Int) % 128) (7 * (i : Int))) = acc (seg b a (i + 1)) := by
  have hl := seg_length b a i (by omega)
  have hr := acc_range (seg b a i)
  rw [hl] at hr
  have hp : (128 : Int) ^ i = 2 ^ (7 * i) := by rw [Int.pow_mul]; rfl
  rw [hp] at hr
  have h28 : (2 : Int) ^ (7 * i) ≤ 2 ^ 28 := by exact_mod_cast Nat.pow_le_pow_right (by decide : 0 < 2) (by omega : 7 * i ≤ 28)
  rw [shl7 _ i hi (by omega) (by omega), or_low (7 * i) _ _ hr.1 hr.2 (by omega) (by
    have h4 : bt b ((a + i : Nat) : Int) % 128 * 2 ^ (7 * i) ≤ 127 * 2 ^ 28 := Int.mul_le_mul (by omega) h28 (Int.pow_nonneg (by decide)) (by decide)
    omega) (by omega), seg_snoc b a i h, acc_snoc, hl, hp]
theorem impl_ReadVar_loop (b : ByteArray) (hb : b.size ≤ 140737488355328) (a : Nat) : ∀ (d i : Nat), i + d = 5 → (0 < i → a + i ≤ b.size) → a ≤ 9223372036854775807 →
    Ev (fun k => impl_ReadVar.l0 k b a (acc (seg b a i)) i) (rvI b a d i)
  | 0, i, hi, ha, h63 => by
    refine Ev.step (fun k => by rw [impl_ReadVar.l0]) ?_
    exact ev_neg (by omega) (ev_eq rfl)
  | d + 1, i, hi, ha, h63 => by
    refine Ev.step (fun k => by rw [impl_ReadVar.l0]) ?_
    refine ev_pos (by omega) (ev_now (impl_In _ _ _) ?_)
    unfold rvI
    rw [w64 (x := (b.size : Int) - 1) (by omega) (by omega), w64 (x := (b.size : Int) - 1 - i) (by omega) (by omega)]
    by_cases h : a + i < b.size
    · have hbr := bt_range b ((a + i : Nat) : Int)
      have e1 : wrap64 ((a : Int) + i) = ((a + i : Nat) : Int) := by rw [w64 (by omega) (by omega)]; omega
      rw [if_pos h, e1, w64 (x := bt b ((a + i : Nat) : Int)) (by omega) (by omega), w64 (x := 7 * (i : Int)) (by omega) (by omega), and_127, acc_or b a i (by omega) h]
      refine ev_pos (decide_eq_true (by omega)) (ev_pos (by omega) (ev_pos (by omega) (ev_pos (by omega) ?_)))
      refine ev_ite (fun h1 => ?_) (fun h1 => ?_)
      · rw [if_pos h1, w64 (x := (i : Int) + 1) (by omega) (by omega)]
        have := impl_ReadVar_loop b hb a d (i + 1) (by omega) (fun _ => by omega) h63
        rw [Int.natCast_add] at this
        exact this
      · rw [if_neg h1]
        have hn0 := (acc_range (seg b a (i + 1))).1
        have e2 : wrap64 (((a + i : Nat) : Int) + 1) = ((a + i + 1 : Nat) : Int) := by rw [w64 (by omega) (by omega)]; omega
        rw [e2]
        refine ev_ite (fun h2 => ev_ite (fun h3 => ev_eq ?_) (fun h3 => ev_now (impl_Num _) (ev_ite (fun h4 => ev_eq ?_) (fun h4 => ev_eq ?_)))) (fun h2 => ev_now (impl_Num _) (ev_ite (fun h4 => ev_eq ?_) (fun h4 => ev_eq ?_)))
        · rw [if_pos (.inl ⟨by omega, h3⟩)]
        · have h5 := of_decide_eq_true h4
          unfold numOk at h5
          rw [if_neg (by omega)]
        · have h5 := nd h4
          unfold numOk at h5
          rw [if_pos (.inr (by omega))]
        · have h5 := of_decide_eq_true h4
          unfold numOk at h5
          rw [if_neg (by omega)]
        · have h5 := nd h4
          unfold numOk at h5
          rw [if_pos (.inr (by omega))]
    · rw [if_neg h]
      exact ev_neg (by rw [decide_eq_true_iff]; omega) (Ev.now _)
theorem impl_ReadVar_ev (b : ByteArray) (hb : b.size ≤ 140737488355328) (a : Int) (ha : a ≤ 9223372036854775807) : Ev (fun k => impl_ReadVar.f k b a) (rv b a) := by
  unfold impl_ReadVar.f rv
  by_cases h : 0 ≤ a
  · rw [if_pos h]
    have := impl_ReadVar_loop b hb a.toNat 5 0 rfl (fun h => absurd h (by decide)) (by omega)
    rw [show ((a.toNat : Nat) : Int) = a by omega] at this
    exact this
  · rw [if_neg h]
    refine Ev.step (fun k => by rw [impl_ReadVar.l0]) ?_
    refine ev_pos (by decide) (ev_now (impl_In _ _ _) ?_)
    exact ev_neg (by rw [decide_eq_true_iff]; omega) (Ev.now _)

theorem wrapU' (x : Int) (h0 : 0 ≤ x) (h1 : x ≤ 9223372036854775807) : IntKind.u64.wrap x = x := by
  simp only [IntKind.wrap, IntKind.bits, IntKind.signed]
  simp
  omega
theorem acc_or' (b : ByteArray) (a i : Nat) (hi : i ≤ 4) (h : a + i < b.size) :
    Go.bits .or .i64 (acc (seg b a i)) (shl .i64 (bt b ((a + i : Nat) : Int) % 128) (7 * (i : Int))) = acc (seg b a (i + 1)) := by
  have hl := seg_length b a i (by omega)
  have hr := acc_range (seg b a i)
  rw [hl] at hr
  have hp : (128 : Int) ^ i = 2 ^ (7 * i) := by rw [Int.pow_mul]; rfl
  rw [hp] at hr
  have h28 : (2 : Int) ^ (7 * i) ≤ 2 ^ 28 := by exact_mod_cast Nat.pow_le_pow_right (by decide : 0 < 2) (by omega : 7 * i ≤ 28)
  rw [shl7 _ i hi (by omega) (by omega), or_low (7 * i) _ _ hr.1 hr.2 (by omega) (by
    have h4 : bt b ((a + i : Nat) : Int) % 128 * 2 ^ (7 * i) ≤ 127 * 2 ^ 28 := Int.mul_le_mul (by omega) h28 (Int.pow_nonneg (by decide)) (by decide)
    omega) (by omega), seg_snoc b a i h, acc_snoc, hl, hp]
theorem spec_ReadVar_loop (b : ByteArray) (hb : b.size ≤ 140737488355328) (a : Nat) (ha : a ≤ b.size) : ∀ (d i : Nat), i + d = 5 → a + i ≤ b.size → (∀ y ∈ seg b a i, 128 ≤ y ∧ y ≤ 255) →
    Ev (fun k => spec_ReadVar.l0 k b a (acc (seg b a i)) i) (rvI b a d i)
  | 0, i, hi, hai, hs => by
    refine Ev.step (fun k => by rw [spec_ReadVar.l0]) ?_
    refine ev_neg (by omega) ?_
    refine Ev.step (fun k => by rw [spec_ReadVar.j1]) ?_
    exact ev_neg (by decide) (ev_eq rfl)
  | d + 1, i, hi, hai, hs => by
    have e1 : wrap64 ((a : Int) + i) = ((a + i : Nat) : Int) := by rw [w64 (by omega) (by omega)]; omega
    refine Ev.step (fun k => by rw [spec_ReadVar.l0]) ?_
    refine ev_pos (by omega) ?_
    rw [e1]
    refine Ev.step (fun k => by rw [spec_ReadVar.j1]) ?_
    unfold rvI
    by_cases h : a + i < b.size
    · have hbr := bt_range b ((a + i : Nat) : Int)
      rw [if_pos h, e1, w64 (x := bt b ((a + i : Nat) : Int)) (by omega) (by omega), w64 (x := 7 * (i : Int)) (by omega) (by omega), wrapU' (7 * (i : Int)) (by omega) (by omega), and_127, acc_or' b a i (by omega) h]
      refine ev_pos (decide_eq_true (by omega)) (ev_pos (by omega) (ev_pos (by omega) (ev_pos (by omega) ?_)))
      refine ev_ite (fun h1 => ?_) (fun h1 => ?_)
      · rw [if_neg (by omega)]
        have hn0 := (acc_range (seg b a (i + 1))).1
        have e2 : wrap64 (((a + i : Nat) : Int) + 1) = ((a + i + 1 : Nat) : Int) := by rw [w64 (by omega) (by omega)]; omega
        have hl := seg_length b a i (by omega)
        rw [e2]
        refine Ev.bind (spec_Var_ev _) (ev_ite (fun h2 => ev_eq ?_) (fun h2 => ev_pos (by omega) (ev_pos (by omega) (ev_pos (by omega) (ev_ite (fun h3 => ev_eq ?_) (fun h3 => ev_eq ?_))))))
        · rw [toList_nil_iff] at h2
          rw [if_pos (.inr (by
            rcases Int.lt_or_le 1000000000 (acc (seg b a (i + 1))) with h4 | h4
            · exact h4
            · exact absurd h2 (by have := varT_pos _ hn0 h4; omega)))]
        all_goals
          rw [toList_nil_iff] at h2
          have hle : acc (seg b a (i + 1)) ≤ 1000000000 := by
            rcases Int.lt_or_le 1000000000 (acc (seg b a (i + 1))) with h4 | h4
            · exact absurd (by unfold varT; rw [if_pos (.inr h4)]; rfl) h2
            · exact h4
          rw [toList_eq_iff, show (a : Int).toNat = a by omega, show ((a + i + 1 : Nat) : Int).toNat = a + (i + 1) by omega] at h3
          have hiff : varT (acc (seg b a (i + 1))) = b.extract a (a + (i + 1)) ↔ ¬ (0 < i ∧ bt b ((a + i : Nat) : Int) = 0) := by
            have hc := varL_canon (seg b a i) (bt b ((a + i : Nat) : Int)) (by omega) hs hbr.1 (by omega)
            rw [← seg_snoc b a i h, hl] at hc
            rw [← hc]
            have hv : varT (acc (seg b a (i + 1))) = strOfNums (varL 4 (acc (seg b a (i + 1)))) := by unfold varT; rw [if_neg (by omega)]
            constructor
            · intro h5
              have := congrArg bytesOf h5
              rw [hv, bytesOf_strOf _ (varL_range 4 _ hn0), extract_seg] at this
              exact this
            · intro h5
              apply bytesOf_inj
              rw [hv, bytesOf_strOf _ (varL_range 4 _ hn0), extract_seg]
              exact h5
          rw [hiff] at h3
        · rw [if_neg (by omega)]
        · rw [if_pos (.inl (Classical.not_not.1 h3))]
      · rw [if_pos (by omega), w64 (x := (i : Int) + 1) (by omega) (by omega)]
        have := spec_ReadVar_loop b hb a ha d (i + 1) (by omega) (by omega) (by
          rw [seg_snoc b a i h]
          intro y hy
          rcases List.mem_append.1 hy with hy | hy
          · exact hs y hy
          · rw [List.mem_singleton.1 hy]; omega)
        rw [Int.natCast_add] at this
        exact this
    · rw [if_neg h]
      exact ev_neg (by rw [decide_eq_true_iff]; omega) (Ev.now _)
theorem spec_ReadVar_ev (b : ByteArray) (hb : b.size ≤ 140737488355328) (a : Int) : Ev (fun k => spec_ReadVar.f k b a) (rv b a) := by
  unfold spec_ReadVar.f rv
  refine ev_now (spec_In _ _ _) (ev_ite (fun h => ?_) (fun h => ev_eq ?_))
  · have h' := of_decide_eq_true h
    rw [if_pos h'.1]
    have := spec_ReadVar_loop b hb a.toNat (by omega) 5 0 rfl (by omega) (by unfold seg; simp)
    rw [show ((a.toNat : Nat) : Int) = a by omega] at this
    exact this
  · have h' := nd h
    by_cases h0 : 0 ≤ a
    · rw [if_pos h0]
      unfold rvI
      rw [if_neg (by omega)]
    · rw [if_neg h0]

theorem impl_ReadFix_loop (b : ByteArray) (hb : b.size ≤ 140737488355328) (a w : Nat) (hw : w ≤ 8) (ha : a + w ≤ b.size) : ∀ (d i : Nat), i + d = w → i ≤ 7 →
    Ev (fun k => impl_ReadFix.l0 k b a (le (seg b a i)) w i) (if le (seg b a w) < 2 ^ 63 then (le (seg b a w), true) else (0, false))
  | 0, i, hi, h7 => by
    obtain rfl : i = w := by omega
    have hr := le_range (seg b a i) (seg_range _ _ _)
    rw [seg_length b a i (by omega)] at hr
    have h256 : (256 : Int) ^ i ≤ 256 ^ 7 := pow_mono 256 (by decide) h7
    refine Ev.step (fun k => by rw [impl_ReadFix.l0]) ?_
    refine ev_neg (by omega) (ev_neg (by omega) (ev_eq ?_))
    rw [if_pos (by omega)]
  | d + 1, i, hi, h7 => by
    have hbr := bt_range b ((a + i : Nat) : Int)
    have e1 : wrap64 ((a : Int) + i) = ((a + i : Nat) : Int) := by rw [w64 (by omega) (by omega)]; omega
    have hr := le_range (seg b a i) (seg_range _ _ _)
    have hl := seg_length b a i (by omega)
    rw [hl] at hr
    have hp : (256 : Int) ^ i = 2 ^ (8 * i) := by rw [Int.pow_mul]; rfl
    have hs : le (seg b a (i + 1)) = le (seg b a i) + bt b ((a + i : Nat) : Int) * 256 ^ i := by rw [seg_snoc b a i (by omega), le_snoc, hl]
    refine Ev.step (fun k => by rw [impl_ReadFix.l0]) ?_
    refine ev_pos (by omega) ?_
    rw [e1, w64 (x := bt b ((a + i : Nat) : Int)) (by omega) (by omega), w64 (x := 8 * (i : Int)) (by omega) (by omega), w64 (x := (i : Int) + 1) (by omega) (by omega)]
    refine ev_pos (by omega) (ev_pos (by omega) (ev_pos (by omega) ?_))
    by_cases h6 : i ≤ 6
    · rw [hp] at hr hs
      have h48 : (2 : Int) ^ (8 * i) ≤ 2 ^ 48 := by exact_mod_cast Nat.pow_le_pow_right (by decide : 0 < 2) (by omega : 8 * i ≤ 48)
      rw [shl8 _ i h6 (by omega) (by omega), or_low (8 * i) _ _ hr.1 hr.2 (by omega) (by
        have h4 : bt b ((a + i : Nat) : Int) * 2 ^ (8 * i) ≤ 255 * 2 ^ 48 := Int.mul_le_mul (by omega) h48 (Int.pow_nonneg (by decide)) (by decide)
        omega) (by omega), ← hs]
      have := impl_ReadFix_loop b hb a w hw ha d (i + 1) (by omega) (by omega)
      rw [Int.natCast_add] at this
      exact this
    · obtain rfl : i = 7 := by omega
      obtain rfl : w = 8 := by omega
      have h56 : (256 : Int) ^ 7 = 2 ^ 56 := by decide
      rw [h56] at hr hs
      rw [show (8 * ((7 : Nat) : Int)) = 56 by rfl, or_top _ _ hr.1 hr.2 hbr.1 (by omega)]
      refine Ev.step (fun k => by rw [impl_ReadFix.l0]) ?_
      refine ev_neg (by omega) ?_
      by_cases h128 : bt b ((a + 7 : Nat) : Int) < 128
      · rw [if_pos h128]
        refine ev_neg (by omega) (ev_eq ?_)
        rw [hs, if_pos (by omega)]
      · rw [if_neg h128]
        refine ev_pos (by omega) (ev_eq ?_)
        rw [hs, if_neg (by omega)]
theorem impl_ReadFix_ev (b : ByteArray) (hb : b.size ≤ 140737488355328) (a w : Int) : Ev (fun k => impl_ReadFix.f k b a w) (rfix b a w) := by
  unfold impl_ReadFix.f rfix
  refine ev_now (impl_In _ _ _) (ev_ite (fun h => ?_) (fun h => Ev.step (fun k => by rw [impl_ReadFix.j0]) (ev_pos rfl (ev_eq ?_))))
  · have h' := of_decide_eq_true h
    rw [w64 (x := (b.size : Int) - w) (by omega) (by omega)]
    refine ev_now (impl_In _ _ _) (Ev.step (fun k => by rw [impl_ReadFix.j0]) ?_)
    by_cases h1 : 0 ≤ a ∧ a ≤ (b.size : Int) - w
    · refine ev_neg (bnf h1) ?_
      rw [if_pos ⟨h', h1⟩]
      have := impl_ReadFix_loop b hb a.toNat w.toNat (by omega) (by omega) w.toNat 0 (by omega) (by omega)
      rw [show ((a.toNat : Nat) : Int) = a by omega, show ((w.toNat : Nat) : Int) = w by omega] at this
      exact this
    · refine ev_pos (bnt h1) (ev_eq ?_)
      rw [if_neg (fun x => h1 x.2)]
  · have h' := nd h
    rw [if_neg (fun x => h' x.1)]

theorem le_top (b : ByteArray) (a w : Nat) (ha : a + w ≤ b.size) (i : Nat) (hi : i ≤ w) : le (seg b (a + i) (w - i)) ≤ le (seg b a w) := by
  induction i with
  | zero => exact Int.le_refl _
  | succ i ih =>
    have h1 := ih (by omega)
    have e : w - i = (w - (i + 1)) + 1 := by omega
    rw [e, seg_cons b (a + i) (w - (i + 1)) (by omega)] at h1
    have hbr := bt_range b ((a + i : Nat) : Int)
    have hr := le_range (seg b (a + i + 1) (w - (i + 1))) (seg_range _ _ _)
    simp only [le] at h1
    rw [show a + (i + 1) = a + i + 1 by omega]
    omega
theorem spec_ReadFix_loop (b : ByteArray) (hb : b.size ≤ 140737488355328) (a w : Nat) (hw : w ≤ 8) (ha : a + w ≤ b.size) (hlt : le (seg b a w) < 2 ^ 63) : ∀ (i : Nat) (j : Int), j = (i : Int) - 1 → i ≤ w →
    Ev (fun k => spec_ReadFix.l0 k b a (le (seg b (a + i) (w - i))) j) (le (seg b a w), true)
  | 0, j, hj, hi => by
    refine Ev.step (fun k => by rw [spec_ReadFix.l0]) ?_
    refine ev_neg (by omega) (ev_eq rfl)
  | i + 1, j, hj, hi => by
    obtain rfl : j = (i : Int) := by omega
    have hbr := bt_range b ((a + i : Nat) : Int)
    have e1 : wrap64 ((a : Int) + i) = ((a + i : Nat) : Int) := by rw [w64 (by omega) (by omega)]; omega
    have hr := le_range (seg b (a + (i + 1)) (w - (i + 1))) (seg_range _ _ _)
    have ht := le_top b a w ha i (by omega)
    have e : w - i = (w - (i + 1)) + 1 := by omega
    have e2 : le (seg b (a + i) (w - i)) = bt b ((a + i : Nat) : Int) + 256 * le (seg b (a + (i + 1)) (w - (i + 1))) := by
      rw [e, seg_cons b (a + i) (w - (i + 1)) (by omega)]
      rfl
    refine Ev.step (fun k => by rw [spec_ReadFix.l0]) ?_
    refine ev_pos (by omega) ?_
    rw [e1, w64 (x := bt b ((a + i : Nat) : Int)) (by omega) (by omega), w64 (x := le (seg b (a + (i + 1)) (w - (i + 1))) * 256) (by omega) (by omega), w64 (x := (i : Int) - 1) (by omega) (by omega),
      or_high _ _ hr.1 hbr.1 (by omega) (by omega)]
    refine ev_pos (by omega) (ev_pos (by omega) ?_)
    have := spec_ReadFix_loop b hb a w hw ha hlt i _ rfl (by omega)
    rw [e2, Int.add_comm, Int.mul_comm 256] at this
    exact this
theorem spec_ReadFix_ev (b : ByteArray) (hb : b.size ≤ 140737488355328) (a w : Int) : Ev (fun k => spec_ReadFix.f k b a w) (rfix b a w) := by
  unfold spec_ReadFix.f rfix
  refine ev_now (spec_In _ _ _) (ev_ite (fun h => ?_) (fun h => Ev.step (fun k => by rw [spec_ReadFix.j0]) (ev_pos rfl (ev_eq ?_))))
  · have h' := of_decide_eq_true h
    rw [w64 (x := (b.size : Int) - w) (by omega) (by omega)]
    refine ev_now (spec_In _ _ _) (Ev.step (fun k => by rw [spec_ReadFix.j0]) ?_)
    by_cases h1 : 0 ≤ a ∧ a ≤ (b.size : Int) - w
    · refine ev_neg (bnf h1) ?_
      rw [if_pos ⟨h', h1⟩]
      have loop : le (seg b a.toNat w.toNat) < 2 ^ 63 → Ev (fun k => spec_ReadFix.l0 k b a 0 (wrap64 (w - 1))) (le (seg b a.toNat w.toNat), true) := by
        intro hlt
        have := spec_ReadFix_loop b hb a.toNat w.toNat (by omega) (by omega) hlt w.toNat _ rfl (Nat.le_refl _)
        rw [Nat.sub_self, show ((a.toNat : Nat) : Int) = a by omega, show ((w.toNat : Nat) : Int) = w by omega] at this
        rw [w64 (by omega) (by omega)]
        exact this
      have hr := le_range (seg b a.toNat w.toNat) (seg_range _ _ _)
      rw [seg_length b a.toNat w.toNat (by omega)] at hr
      refine ev_ite (fun h8 => ?_) (fun h8 => ?_)
      · subst h8
        have hbr := bt_range b ((a.toNat + 7 : Nat) : Int)
        have e7 : wrap64 (a + 7) = ((a.toNat + 7 : Nat) : Int) := by rw [w64 (by omega) (by omega)]; omega
        have hs : le (seg b a.toNat (8 : Int).toNat) = le (seg b a.toNat 7) + bt b ((a.toNat + 7 : Nat) : Int) * 256 ^ 7 := by
          rw [show (8 : Int).toNat = 7 + 1 by decide, seg_snoc b a.toNat 7 (by omega), le_snoc, seg_length b a.toNat 7 (by omega)]
        have hr7 := le_range (seg b a.toNat 7) (seg_range _ _ _)
        rw [seg_length b a.toNat 7 (by omega)] at hr7
        have h56 : (256 : Int) ^ 7 = 2 ^ 56 := by decide
        rw [h56] at hs hr7
        rw [e7]
        refine ev_pos (by omega) (ev_pos (by omega) (Ev.step (fun k => by rw [spec_ReadFix.j1]) (ev_ite (fun h9 => ev_eq ?_) (fun h9 => ?_))))
        · have := of_decide_eq_true h9
          rw [if_neg (by omega)]
        · have := nd h9
          rw [if_pos (by omega)]
          exact loop (by omega)
      · have h256 : (256 : Int) ^ w.toNat ≤ 256 ^ 7 := pow_mono 256 (by decide) (by omega : w.toNat ≤ 7)
        rw [if_pos (by omega)]
        exact Ev.step (fun k => by rw [spec_ReadFix.j1]) (ev_neg (by decide) (loop (by omega)))
    · refine ev_pos (bnt h1) (ev_eq ?_)
      rw [if_neg (fun x => h1 x.2)]
  · have h' := nd h
    rw [if_neg (fun x => h' x.1)]

theorem spec_HeadOk_eq (v s b l : Int) : spec_HeadOk.f v s b l = some (decide (headOk v s b l)) := by
  unfold spec_HeadOk.f headOk verOk numOk
  rw [spec_In, spec_In, spec_In, spec_In]
  by_cases h1 : 1 ≤ v ∧ v ≤ 2
  · have h1' : v = 1 ∨ v = 2 := by omega
    by_cases h2 : 1 ≤ s ∧ s ≤ 20
    · by_cases h3 : 0 ≤ b ∧ b ≤ 1000000000 <;> simp [h1, h1', h2, h3]
    · simp [h1, h2]
  · have h1' : ¬ (v = 1 ∨ v = 2) := by omega
    simp [h1, h1']

theorem impl_HeadOk_eq (v s b l : Int) : impl_HeadOk.f v s b l = some (decide (headOk v s b l)) := by
  unfold impl_HeadOk.f headOk
  rw [impl_Ver, impl_In, impl_Num, impl_In]
  by_cases h1 : verOk v
  · by_cases h2 : 1 ≤ s ∧ s ≤ 20
    · by_cases h3 : numOk b <;> simp [h1, h2, h3]
    · simp [h1, h2]
  · simp [h1]

theorem spec_HeadText_ev (v s b l : Int) : Ev (fun k => spec_HeadText.f k v s b l) (headT v s b l) := by
  unfold spec_HeadText.f headT
  have h1 := fixT_le v 1
  have h2 := fixT_le s 1
  have h3 := fixT_le b 8
  have h4 := fixT_le l 4
  have h5 := hdBody_le v s b l
  have h6 := fixT_le (sumOf (hdBody v s b l)) 4
  have z4 : (⟨#[83, 69, 71, 77]⟩ : ByteArray).size = 4 := rfl
  have z2 : (⟨#[0, 0]⟩ : ByteArray).size = 2 := rfl
  refine ev_now (spec_HeadOk_eq v s b l) (ev_ite (fun h => ?_) (fun h => ev_eq (by rw [if_neg (nd h)])))
  rw [if_pos (of_decide_eq_true h)]
  refine Ev.bind (spec_Fix v 1) (ev_pos (by omega) (Ev.bind (spec_Fix s 1) (ev_pos (by simp only [ByteArray.size_append]; omega) (ev_pos (by simp only [ByteArray.size_append]; omega) (Ev.bind (spec_Fix b 8) (ev_pos (by simp only [ByteArray.size_append]; omega)
    (Ev.bind (spec_Fix l 4) (ev_pos (by simp only [ByteArray.size_append]; omega) ?_))))))))
  refine Ev.bind (spec_SumOf_ev (hdBody v s b l) (by omega)) (Ev.bind (spec_Fix _ 4) (ev_pos ?_ (Ev.now _)))
  show (hdBody v s b l).size + _ ≤ _
  omega

theorem impl_HeadText_ev (v s b l : Int) (hv : v ≤ 9223372036854775807) (hs : s ≤ 9223372036854775807) (hb : b ≤ 9223372036854775807) (hl : l ≤ 9223372036854775807) : Ev (fun k => impl_HeadText.f k v s b l) (headT v s b l) := by
  unfold impl_HeadText.f headT
  have h1 := fixT_le v 1
  have h2 := fixT_le s 1
  have h3 := fixT_le b 8
  have h4 := fixT_le l 4
  have h5 := hdBody_le v s b l
  have h6 := fixT_le (sumOf (hdBody v s b l)) 4
  have z4 : (⟨#[83, 69, 71, 77]⟩ : ByteArray).size = 4 := rfl
  have z2 : (⟨#[0, 0]⟩ : ByteArray).size = 2 := rfl
  have e0 : Ev (fun k => impl_FixText.f k 0 2) (⟨#[0, 0]⟩ : ByteArray) := fixT0 ▸ impl_Fix 0 2 (by decide)
  refine ev_now (impl_HeadOk_eq v s b l) (ev_ite (fun h => ?_) (fun h => ev_eq (by rw [if_neg (nd h)])))
  rw [if_pos (of_decide_eq_true h)]
  refine Ev.bind (impl_Fix v 1 hv) (ev_pos (by omega) (Ev.bind (impl_Fix s 1 hs) (ev_pos (by simp only [ByteArray.size_append]; omega) (Ev.bind e0 (ev_pos (by simp only [ByteArray.size_append]; omega) (Ev.bind (impl_Fix b 8 hb) (ev_pos (by simp only [ByteArray.size_append]; omega)
    (Ev.bind (impl_Fix l 4 hl) (ev_pos (by simp only [ByteArray.size_append]; omega) ?_)))))))))
  have h7 := sumMore_range 0 (hdBody v s b l)
  refine Ev.bind (impl_SumOf_ev (hdBody v s b l) (by omega)) (Ev.bind (impl_Fix (sumOf (hdBody v s b l)) 4 (by unfold sumOf; omega)) (ev_pos ?_ (Ev.now _)))
  show (hdBody v s b l).size + _ ≤ _
  omega

theorem spec_ReadHead_ev (b : ByteArray) (hb : b.size ≤ 140737488355328) : Ev (fun k => spec_ReadHead.f k b) (rHead b) := by
  unfold spec_ReadHead.f rHead
  have r1 := rfix_range b 8 8
  have r2 := rfix_range b 16 4
  have b4 := bt_range b 4
  have b5 := bt_range b 5
  refine ev_ite (fun h => ev_eq (by rw [if_pos (by omega)])) (fun h => ?_)
  rw [if_neg (by omega), w64 (x := bt b 4) (by omega) (by omega), w64 (x := bt b 5) (by omega) (by omega)]
  refine Ev.bind (spec_ReadFix_ev b hb 8 8) (Ev.bind (spec_ReadFix_ev b hb 16 4) (ev_pos (by omega) (ev_pos (by omega) (ev_ite (fun h1 => ?_) (fun h1 => ev_eq (by rw [if_neg (fun x => h1 x.1)]))))))
  refine Ev.bind (spec_HeadText_ev (bt b 4) (bt b 5) (rfix b 8 8).1 (rfix b 16 4).1) (ev_pos (by decide) (ev_pos (by omega) (ev_ite (fun h2 => ev_eq ?_) (fun h2 => ev_eq ?_))))
  · rw [toList_eq_iff] at h2
    rw [if_pos ⟨h1, h2⟩]
  · rw [toList_eq_iff] at h2
    rw [if_neg (fun x => h2 x.2)]

theorem impl_ReadHead_ev (b : ByteArray) (hb : b.size ≤ 140737488355328) : Ev (fun k => impl_ReadHead.f k b) (rHead b) := by
  unfold impl_ReadHead.f rHead
  have r1 := rfix_range b 8 8
  have r2 := rfix_range b 16 4
  have b4 := bt_range b 4
  have b5 := bt_range b 5
  refine ev_ite (fun h => ev_eq (by rw [if_pos (by omega)])) (fun h => ?_)
  rw [if_neg (by omega), w64 (x := bt b 4) (by omega) (by omega), w64 (x := bt b 5) (by omega) (by omega)]
  refine Ev.bind (impl_ReadFix_ev b hb 8 8) (Ev.bind (impl_ReadFix_ev b hb 16 4) (ev_pos (by omega) (ev_pos (by omega) (ev_ite (fun h1 => ?_) (fun h1 => ev_eq (by rw [if_neg (fun x => h1 x.1)]))))))
  refine Ev.bind (impl_HeadText_ev (bt b 4) (bt b 5) (rfix b 8 8).1 (rfix b 16 4).1 (by omega) (by omega) (by omega) (by omega)) (ev_pos (by decide) (ev_pos (by omega) (ev_ite (fun h2 => ev_eq ?_) (fun h2 => ev_eq ?_))))
  · rw [toList_eq_iff] at h2
    rw [if_pos ⟨h1, h2⟩]
  · rw [toList_eq_iff] at h2
    rw [if_neg (fun x => h2 x.2)]

theorem spec_ReadFrame_ev (v p : Int) (b : ByteArray) (hb : b.size ≤ 140737488355328) (a : Int) : Ev (fun k => spec_ReadFrame.f k v p b a) (rFrame v p b a) := by
  unfold spec_ReadFrame.f
  have bad : ∀ k, spec_ReadFrame.j0 (k + 1) v p b a true = some ((⟨#[]⟩ : ByteArray), (0 : Int), false) := fun k => by rw [spec_ReadFrame.j0, if_pos rfl]
  have no : ¬ (verOk v ∧ numOk p ∧ 0 ≤ a ∧ a ≤ b.size) → Ev (fun k => spec_ReadFrame.j0 k v p b a true) (rFrame v p b a) := by
    intro h
    refine Ev.step bad (ev_eq ?_)
    unfold rFrame rFrameQ
    rw [if_neg (fun x => h x.1)]
  have two : ∀ (q : Int × Int × Bool), verOk v → numOk p → 0 ≤ a → a ≤ b.size → (q.2.2 = true → 0 ≤ q.1 ∧ a ≤ q.2.1 ∧ q.2.1 ≤ 9223372036854775807 ∧ q.1 ≤ 9223372036854775807) → Ev (fun k => spec_ReadFrame.j1 k v p b a q.1 q.2.1 q.2.2) (rFrameQ v p b a q) := by
    rintro ⟨n, f, o⟩ hv hp h0 h1 hq
    dsimp only at hq ⊢
    have fin : ∀ c : Bool, (c = false → o = true ∧ n ≤ 60 ∧ f + n ≤ b.size) → (c = true → ¬ (o = true ∧ n ≤ 60 ∧ f + n ≤ b.size)) → Ev (fun k => spec_ReadFrame.j2 k v p b a n f c) (rFrameQ v p b a (n, f, o)) := by
      intro c hc hc'
      unfold rFrameQ
      dsimp only
      refine Ev.step (fun k => by rw [spec_ReadFrame.j2]) ?_
      refine ev_ite (fun h => ev_eq ?_) (fun h => ?_)
      · have := hc' h
        rw [if_neg (fun x => this ⟨x.2.1, x.2.2.1, x.2.2.2.1⟩)]
      · obtain ⟨c1, c2, c3⟩ := hc (by simpa using h)
        obtain ⟨q1, q2, q3, q4⟩ := hq c1
        have ew : wrap64 (f + n) = f + n := w64 (by omega) (by omega)
        have hl := frameT_le v p (b.extract f.toNat (f + n).toNat)
        have e2 : wrap64 (a + ((frameT v p (b.extract f.toNat (f + n).toNat)).size : Int)) = a + ((frameT v p (b.extract f.toNat (f + n).toNat)).size : Int) := w64 (by omega) (by omega)
        rw [ew]
        refine ev_pos (by omega) (ev_pos (by omega) (ev_pos c3 (Ev.bind (spec_FrameText_ev v p _ (by rw [ByteArray.size_extract]; omega)) ?_)))
        rw [w64 (x := (b.size : Int) - a) (by omega) (by omega), e2]
        have hh := hasAt_iff b a (frameT v p (b.extract f.toNat (f + n).toNat))
        refine ev_ite (fun h5 => ev_eq ?_) (fun h5 => ev_pos h0 (ev_pos (by omega) (ev_pos (by omega) (ev_ite (fun h6 => ev_eq ?_) (fun h6 => ev_eq ?_)))))
        · rw [if_neg (fun x => by have := hh.1 x.2.2.2.2; omega)]
        · rw [toList_eq_iff, show (a + ((frameT v p (b.extract f.toNat (f + n).toNat)).size : Int)).toNat = a.toNat + (frameT v p (b.extract f.toNat (f + n).toNat)).size by omega] at h6
          rw [if_pos ⟨⟨hv, hp, h0, h1⟩, c1, c2, c3, hh.2 ⟨h0, by omega, h6⟩⟩]
        · rw [toList_eq_iff, show (a + ((frameT v p (b.extract f.toNat (f + n).toNat)).size : Int)).toNat = a.toNat + (frameT v p (b.extract f.toNat (f + n).toNat)).size by omega] at h6
          rw [if_neg (fun x => h6 (hh.1 x.2.2.2.2).2.2)]
    refine Ev.step (fun k => by rw [spec_ReadFrame.j1]) ?_
    refine ev_ite (fun h => ev_ite (fun h2 => ?_) (fun h2 => ?_)) (fun h => ?_)
    · exact fin true (fun x => by cases x) (fun _ x => by omega)
    · obtain ⟨q1, q2, q3, q4⟩ := hq h
      rw [w64 (x := (b.size : Int) - n) (by omega) (by omega)]
      refine fin _ (fun x => ⟨h, by omega, ?_⟩) (fun x y => ?_)
      · have := of_decide_eq_false x
        omega
      · have := of_decide_eq_true x
        omega
    · exact fin true (fun x => by cases x) (fun _ x => h x.1)
  refine ev_now (spec_In _ _ _) (ev_ite (fun h1 => ev_now (spec_In _ _ _) (ev_ite (fun h2 => ev_now (spec_In _ _ _) ?_) (fun h2 => ?_))) (fun h1 => ?_))
  · have h1' := of_decide_eq_true h1
    have h2' := of_decide_eq_true h2
    have hv : verOk v := by unfold verOk; omega
    by_cases h3 : 0 ≤ a ∧ a ≤ (b.size : Int)
    · rw [decide_eq_true h3]
      refine Ev.step (fun k => by rw [spec_ReadFrame.j0]) ?_
      refine ev_neg (by decide) (Ev.bind (spec_ReadVar_ev b hb a) ?_)
      unfold rFrame fq
      have r1 := rfix_range b a 4
      refine ev_ite (fun h4 => ?_) (fun h4 => ?_)
      · rw [if_pos h4, w64 (x := a + 8) (by omega) (by omega)]
        refine Ev.bind (spec_ReadFix_ev b hb a 4) ?_
        exact two ((rfix b a 4).1, a + 8, (rfix b a 4).2) hv h2' h3.1 h3.2 (fun _ => ⟨r1.1, by show a ≤ a + 8; omega, by show a + 8 ≤ _; omega, by show (rfix b a 4).1 ≤ _; omega⟩)
      · rw [if_neg h4]
        exact two (rv b a) hv h2' h3.1 h3.2 (fun x => by have := rv_range b a x; omega)
    · rw [decide_eq_false h3]
      exact no (fun x => h3 x.2.2)
  · have h2' := nd h2
    exact no (fun x => h2' x.2.1)
  · have h1' := nd h1
    exact no (fun x => by have := x.1; unfold verOk at this; omega)

theorem impl_ReadFrame_ev (v p : Int) (b : ByteArray) (hb : b.size ≤ 140737488355328) (a : Int) (hp : p ≤ 9223372036854775807) (ha : a ≤ 9223372036854775807) : Ev (fun k => impl_ReadFrame.f k v p b a) (rFrame v p b a) := by
  unfold impl_ReadFrame.f rFrame fq
  have two : ∀ (n f f' : Int) (o : Bool), (o = true → f = f' ∧ 0 ≤ a ∧ a ≤ b.size ∧ 0 ≤ n ∧ a ≤ f ∧ n ≤ 9223372036854775807) → Ev (fun k => impl_ReadFrame.j0 k v p b a n f' o) (rFrameQ v p b a (n, f, o)) := by
    intro n f f' o hq
    have fin : ∀ c : Bool, (c = false → o = true ∧ n ≤ 60 ∧ f + n ≤ b.size) → (c = true → ¬ (o = true ∧ n ≤ 60 ∧ f + n ≤ b.size)) → Ev (fun k => impl_ReadFrame.j1 k v p b a n f' c) (rFrameQ v p b a (n, f, o)) := by
      intro c hc hc'
      unfold rFrameQ
      dsimp only
      refine Ev.step (fun k => by rw [impl_ReadFrame.j1]) ?_
      refine ev_ite (fun h => ev_eq ?_) (fun h => ?_)
      · have := hc' h
        rw [if_neg (fun x => this ⟨x.2.1, x.2.2.1, x.2.2.2.1⟩)]
      · obtain ⟨c1, c2, c3⟩ := hc (by simpa using h)
        obtain ⟨rfl, q0, q1, q2, q3, q4⟩ := hq c1
        have ew : wrap64 (f + n) = f + n := w64 (by omega) (by omega)
        have hl := frameT_le v p (b.extract f.toNat (f + n).toNat)
        rw [ew]
        refine ev_pos (by omega) (ev_pos (by omega) (ev_pos c3 (Ev.bind (impl_FrameText_ev v p _ hp (by rw [ByteArray.size_extract]; omega)) ?_)))
        rw [w64 (x := a + ((frameT v p (b.extract f.toNat (f + n).toNat)).size : Int)) (by omega) (by omega)]
        refine ev_ite (fun h5 => ev_eq ?_) (fun h5 => ev_now (impl_hasAt_eq _ _ _) (ev_ite (fun h6 => ev_eq ?_) (fun h6 => ev_eq ?_)))
        · rw [toList_nil_iff] at h5
          rw [if_neg (fun x => ?_)]
          have := frameT_pos v p (b.extract f.toNat (f + n).toNat) x.1.1 x.1.2.1 (by rw [ByteArray.size_extract]; omega)
          omega
        · rw [toList_nil_iff] at h5
          have hvp : verOk v ∧ numOk p := by
            by_cases hx : verOk v ∧ numOk p ∧ (b.extract f.toNat (f + n).toNat).size ≤ 60
            · exact ⟨hx.1, hx.2.1⟩
            · exfalso
              apply h5
              unfold frameT
              rw [if_neg hx]
              rfl
          rw [if_pos ⟨⟨hvp.1, hvp.2, q0, q1⟩, c1, c2, c3, h6⟩]
        · rw [if_neg (fun x => h6 x.2.2.2.2)]
    refine Ev.step (fun k => by rw [impl_ReadFrame.j0]) ?_
    refine ev_ite (fun h => ev_ite (fun h2 => ?_) (fun h2 => ev_ite (fun h3 => ?_) (fun h3 => ?_))) (fun h => ?_)
    · exact fin true (fun x => by cases x) (fun _ x => by omega)
    · obtain ⟨rfl, q0, q1, q2, q3, q4⟩ := hq h
      exact fin true (fun x => by cases x) (fun _ x => by omega)
    · obtain ⟨rfl, q0, q1, q2, q3, q4⟩ := hq h
      rw [w64 (x := (b.size : Int) - f) (by omega) (by omega)]
      refine fin _ (fun x => ⟨h, by omega, ?_⟩) (fun x y => ?_)
      · have := of_decide_eq_false x
        omega
      · have := of_decide_eq_true x
        omega
    · exact fin true (fun x => by cases x) (fun _ x => h x.1)
  have r1 := rfix_range b a 4
  refine ev_ite (fun h4 => ?_) (fun h4 => ?_)
  · rw [if_pos h4]
    refine Ev.bind (impl_ReadFix_ev b hb a 4) ?_
    refine two (rfix b a 4).1 (a + 8) (wrap64 (a + 8)) (rfix b a 4).2 (fun x => ?_)
    have hx : 0 ≤ a ∧ a ≤ (b.size : Int) - 4 := by
      unfold rfix at x
      split at x
      · rename_i h; exact h.2
      · simp at x
    rw [w64 (by omega) (by omega)]
    exact ⟨rfl, by omega, by omega, r1.1, by omega, by omega⟩
  · rw [if_neg h4]
    refine Ev.bind (impl_ReadVar_ev b hb a ha) ?_
    exact two (rv b a).1 (rv b a).2.1 (rv b a).2.1 (rv b a).2.2 (fun x => by have := rv_range b a x; exact ⟨rfl, by omega, by omega, by omega, by omega, by omega⟩)

theorem spec_Scan_loop (b : ByteArray) (hb : b.size ≤ 1073741824) (v s base l v0 s0 base0 l0 : Int) (hbase : 0 ≤ base ∧ base ≤ 1000000000) : ∀ (d : Nat) (rs : List ByteArray) (os : List Int) (e : Int), ScInv b rs os e → (b.size : Int) < e + d →
    Ev (fun k => spec_ScanText.l0 k b v s base l true v0 s0 base0 l0 rs os e false) (true, v0, s0, base0, l0, scanGo v base b d rs os e)
  | 0, rs, os, e, hi, hd => by
    have := hi.2.2.1
    omega
  | d + 1, rs, os, e, hi, hd => by
    obtain ⟨h1, h2, h3, h4, h5, h6⟩ := hi
    refine Ev.step (fun k => by rw [spec_ScanText.l0]) ?_
    have ew : wrap64 (base + (rs.length : Int)) = base + rs.length := w64 (by omega) (by omega)
    rw [ew]
    unfold scanGo
    refine Ev.bind (spec_MarkAt_ev v (base + rs.length) b e (by omega)) (ev_ite (fun h => ev_eq (by rw [if_pos h])) (fun h => ?_))
    rw [if_neg h]
    refine Ev.bind (spec_ReadFrame_ev v (base + rs.length) b (by omega) e) (ev_ite (fun h7 => ?_) (fun h7 => ev_eq (by rw [if_neg h7])))
    rw [if_pos h7]
    have hs := scInv_step v base b rs os e ⟨h1, h2, h3, h4, h5, h6⟩ h7
    obtain ⟨_, _, _, _, _, _, k2, _⟩ := rFrame_ok _ _ _ _ h7
    exact ev_pos (by omega) (ev_pos (by omega) (spec_Scan_loop b hb v s base l v0 s0 base0 l0 hbase d _ _ _ hs (by omega)))
theorem spec_Scan_ev (b : ByteArray) (hb : b.size ≤ 1073741824) : Ev (fun k => spec_ScanText.f k b) (scan b) := by
  unfold spec_ScanText.f scan
  refine Ev.bind (spec_ReadHead_ev b (by omega)) (ev_ite (fun h => ?_) (fun h => ev_eq (by rw [if_neg h])))
  rw [if_pos h]
  have hk := rHead_ok b h
  have h2 := hk.2.1
  unfold headOk numOk at h2
  exact spec_Scan_loop b hb _ _ _ _ _ _ _ _ h2.2.2.1 (b.size + 1) [] [] 24 ⟨rfl, by decide, by omega, by simp, by simp, by simp⟩ (by omega)

theorem impl_Scan_loop (b : ByteArray) (hb : b.size ≤ 1073741824) (v s base l v0 s0 base0 l0 : Int) (hbase : 0 ≤ base ∧ base ≤ 1000000000) : ∀ (d : Nat) (rs : List ByteArray) (os : List Int) (e : Int), ScInv b rs os e → (b.size : Int) < e + d →
    Ev (fun k => impl_ScanText.l0 k b v s base l true v0 s0 base0 l0 rs os e false) (true, v0, s0, base0, l0, scanGo v base b d rs os e)
  | 0, rs, os, e, hi, hd => by
    have := hi.2.2.1
    omega
  | d + 1, rs, os, e, hi, hd => by
    obtain ⟨h1, h2, h3, h4, h5, h6⟩ := hi
    refine Ev.step (fun k => by rw [impl_ScanText.l0]) ?_
    have ew : wrap64 (base + (rs.length : Int)) = base + rs.length := w64 (by omega) (by omega)
    rw [ew]
    unfold scanGo
    refine Ev.bind (impl_MarkAt_ev v (base + rs.length) b e (by omega)) (ev_ite (fun h => ev_eq (by rw [if_pos h])) (fun h => ?_))
    rw [if_neg h]
    refine Ev.bind (impl_ReadFrame_ev v (base + rs.length) b (by omega) e (by omega) (by omega)) (ev_ite (fun h7 => ?_) (fun h7 => ev_eq (by rw [if_neg h7])))
    rw [if_pos h7]
    have hs := scInv_step v base b rs os e ⟨h1, h2, h3, h4, h5, h6⟩ h7
    obtain ⟨_, _, _, _, _, _, k2, _⟩ := rFrame_ok _ _ _ _ h7
    exact ev_pos (by omega) (ev_pos (by omega) (impl_Scan_loop b hb v s base l v0 s0 base0 l0 hbase d _ _ _ hs (by omega)))
theorem impl_Scan_ev (b : ByteArray) (hb : b.size ≤ 1073741824) : Ev (fun k => impl_ScanText.f k b) (scan b) := by
  unfold impl_ScanText.f scan
  refine Ev.bind (impl_ReadHead_ev b (by omega)) (ev_ite (fun h => ?_) (fun h => ev_eq (by rw [if_neg h])))
  rw [if_pos h]
  have hk := rHead_ok b h
  have h2 := hk.2.1
  unfold headOk numOk at h2
  exact impl_Scan_loop b hb _ _ _ _ _ _ _ _ h2.2.2.1 (b.size + 1) [] [] 24 ⟨rfl, by decide, by omega, by simp, by simp, by simp⟩ (by omega)

theorem eqStr_loop (xs : List ByteArray) (hx : xs.length ≤ 140737488355328) : ∀ (d i : Nat), i + d = xs.length → Ev (fun k => laws_eqStringS.l0 k xs xs i) true
  | 0, i, hi => Ev.step (fun k => by rw [laws_eqStringS.l0]) (ev_neg (by omega) (Ev.now _))
  | d + 1, i, hi => by
    refine Ev.step (fun k => by rw [laws_eqStringS.l0]) (ev_pos (by omega) (ev_pos (by omega) (ev_pos (by omega) (ev_pos rfl ?_))))
    rw [w64 (by omega) (by omega)]
    exact eqStr_loop xs hx d (i + 1) (by omega)
theorem eqStr_ev (xs : List ByteArray) (hx : xs.length ≤ 140737488355328) : Ev (fun k => laws_eqStringS.f k xs xs) true := by
  unfold laws_eqStringS.f
  exact ev_pos rfl (eqStr_loop xs hx xs.length 0 (by omega))

def mtl : Nat → Int → ByteArray → ByteArray
  | 0, _, o => o
  | d + 1, k, o => if 0 < k then mtl d (k / 10) (strOfNums [(48 + k % 10) % 256] ++ o) else o
/-- The letter m and the digits. -/
def markT (k : Int) : ByteArray := ⟨#[109]⟩ ++ mtl 20 k ⟨#[]⟩
theorem mtl_zero (d : Nat) (o : ByteArray) : mtl d 0 o = o := by
  cases d with
  | zero => rfl
  | succ d => unfold mtl; rw [if_neg (by decide)]
theorem markText_loop : ∀ (d : Nat) (k : Int) (o : ByteArray), 0 ≤ k → k ≤ 9223372036854775807 → k < 10 ^ d → o.size + d ≤ 1000000 → Ev (fun q => laws_markText.l0 q k o) (⟨#[109]⟩ ++ mtl d k o)
  | 0, k, o, h0, h6, h1, h2 => by
    obtain rfl : k = 0 := by
      simp only [Int.pow_zero] at h1
      omega
    refine Ev.step (fun q => by rw [laws_markText.l0]) ?_
    exact ev_neg (by decide) (ev_pos (by omega) (Ev.now _))
  | d + 1, k, o, h0, h6, h1, h2 => by
    refine Ev.step (fun q => by rw [laws_markText.l0]) ?_
    refine ev_ite (fun h => ?_) (fun h => ?_)
    · have e1 : Int.tmod k 10 = k % 10 := Int.tmod_eq_emod_of_nonneg h0
      have e2 : Int.tdiv k 10 = k / 10 := Int.tdiv_eq_ediv_of_nonneg h0
      rw [e1, e2, w64 (x := 48 + k % 10) (by omega) (by omega), w64 (x := k / 10) (by omega) (by omega)]
      have es : (strOfNums [(48 + k % 10) % 256]).size = 1 := by rw [strOfNums_size]; rfl
      have hp : k / 10 < 10 ^ d := by rw [Int.pow_succ] at h1; omega
      refine ev_now rfl (ev_pos (by rw [es]; omega) ?_)
      have := markText_loop d (k / 10) (strOfNums [(48 + k % 10) % 256] ++ o) (by omega) (by omega) hp (by rw [ByteArray.size_append, es]; omega)
      rw [show mtl (d + 1) k o = mtl d (k / 10) (strOfNums [(48 + k % 10) % 256] ++ o) by rw [mtl, if_pos (show 0 < k from h)]]
      exact this
    · obtain rfl : k = 0 := by omega
      rw [mtl_zero]
      exact ev_pos (by omega) (Ev.now _)
theorem markText_ev (k : Int) (h0 : 0 < k) (h1 : k ≤ 9223372036854775807) : Ev (fun q => laws_markText.f q k) (markT k) := by
  unfold laws_markText.f
  refine ev_neg (by omega) ?_
  have h3 : (10 : Int) ^ 20 = 100000000000000000000 := by decide
  exact markText_loop 20 k _ (by omega) h1 (by omega) (by decide)
/-- So many of them, one behind the other. -/
def seqT (n : Nat) (m : Int) : List ByteArray := (seqL n m).map markT
theorem seqT_length (n : Nat) (m : Int) : (seqT n m).length = n := by unfold seqT; rw [List.length_map, seqL_length]
theorem seqT_snoc (n : Nat) (m : Int) : seqT (n + 1) m = seqT n m ++ [markT (m + n)] := by unfold seqT; rw [seqL_snoc, List.map_append]; rfl
theorem seqT_get (n : Nat) (m : Int) (i : Nat) (h : i < n) : rdOf ByteArray.empty (seqT n m) i = markT (m + i) := by
  have := seqL_get n m i h
  unfold rd at this
  unfold rdOf seqT
  rw [Int.toNat_natCast] at this ⊢
  rw [List.getD_eq_getElem?_getD, List.getElem?_map]
  have h2 : i < (seqL n m).length := by rw [seqL_length]; exact h
  rw [List.getElem?_eq_getElem h2]
  rw [List.getD_eq_getElem?_getD, List.getElem?_eq_getElem h2] at this
  simp only [Option.getD_some] at this
  simp only [Option.map_some, Option.getD_some, this]

theorem markStr_loop (n : Nat) (hn : n ≤ 140737488355328) (m0 : Int) (hm : 0 < m0 ∧ m0 ≤ 1152921504606846976) : ∀ (d i : Nat) (ys : List ByteArray), ys.length = d → i + d = n →
    Ev (fun k => laws_markStringS.l0 k (seqT i m0 ++ ys) (m0 + i) i) (m0 + n, seqT n m0)
  | 0, i, ys, hy, hi => by
    obtain rfl : ys = [] := List.eq_nil_of_length_eq_zero hy
    refine Ev.step (fun k => by rw [laws_markStringS.l0]) (ev_neg (by simp [seqT_length] <;> omega) (ev_eq ?_))
    obtain rfl : i = n := by omega
    simp
  | d + 1, i, y :: ys, hy, hi => by
    refine Ev.step (fun k => by rw [laws_markStringS.l0]) ?_
    refine ev_pos (by simp [seqT_length] <;> omega) ?_
    refine Ev.bind (markText_ev (m0 + i) (by omega) (by omega)) ?_
    refine ev_pos (Int.natCast_nonneg i) ?_
    rw [w64 (x := m0 + i + 1) (by omega) (by omega), w64 (x := (i : Int) + 1) (by omega) (by omega), Int.toNat_natCast, set_mid _ _ _ _ i (seqT_length _ _)]
    have := markStr_loop n hn m0 hm d (i + 1) ys (by simpa using hy) (by omega)
    rw [seqT_snoc, List.append_assoc, Int.natCast_add, ← Int.add_assoc] at this
    exact this
theorem markStr_ev (ys : List ByteArray) (hn : ys.length ≤ 140737488355328) (m0 : Int) (hm : 0 < m0 ∧ m0 ≤ 1152921504606846976) : Ev (fun k => laws_markStringS.f k ys m0) (m0 + ys.length, seqT ys.length m0) := by
  unfold laws_markStringS.f
  have := markStr_loop ys.length hn m0 hm ys.length 0 ys rfl (by omega)
  rw [show m0 + ((0 : Nat) : Int) = m0 by simp] at this
  exact this

theorem heldStr_loop (n : Nat) (hn : n ≤ 140737488355328) (m0 : Int) (hm : 0 < m0 ∧ m0 ≤ 1152921504606846976) : ∀ (d i : Nat), i + d = n →
    Ev (fun k => laws_heldStringS.l0 k (seqT n m0) (m0 + i) i) (m0 + n)
  | 0, i, hi => by
    refine Ev.step (fun k => by rw [laws_heldStringS.l0]) (ev_neg (by rw [seqT_length]; omega) (ev_eq (by omega)))
  | d + 1, i, hi => by
    refine Ev.step (fun k => by rw [laws_heldStringS.l0]) ?_
    refine ev_pos (by rw [seqT_length]; omega) (ev_pos (Int.natCast_nonneg i) ?_)
    refine Ev.bind (markText_ev (m0 + i) (by omega) (by omega)) ?_
    refine ev_pos (congrArg ByteArray.toList (seqT_get n m0 i (by omega))) ?_
    rw [w64 (x := m0 + i + 1) (by omega) (by omega), w64 (x := (i : Int) + 1) (by omega) (by omega)]
    have := heldStr_loop n hn m0 hm d (i + 1) (by omega)
    rw [Int.natCast_add, ← Int.add_assoc] at this
    exact this
theorem heldStr_ev (n : Nat) (hn : n ≤ 140737488355328) (m0 : Int) (hm : 0 < m0 ∧ m0 ≤ 1152921504606846976) : Ev (fun k => laws_heldStringS.f k (seqT n m0) m0) (m0 + n) := by
  unfold laws_heldStringS.f
  have := heldStr_loop n hn m0 hm n 0 (by omega)
  rw [show m0 + ((0 : Nat) : Int) = m0 by simp] at this
  exact this

theorem eqHead_refl (a b c d : Int) : laws_eqHead.f a b c d a b c d = some true := by unfold laws_eqHead.f; rw [if_pos rfl, if_pos rfl, if_pos rfl, if_pos rfl]

theorem eqScan_ev (a0 : Bool) (a1 a2 a3 a4 : Int) (xs : List ByteArray) (ys : List Int) (e : Int) (m : Bool) (hx : xs.length ≤ 140737488355328) (hy : ys.length ≤ 140737488355328) :
    Ev (fun k => laws_eqScan.f k a0 a1 a2 a3 a4 xs ys e m a0 a1 a2 a3 a4 xs ys e m) true := by
  unfold laws_eqScan.f
  refine ev_neg (by simp) (ev_now (eqHead_refl _ _ _ _) (ev_pos rfl ?_))
  exact Ev.bind (eqStr_ev xs hx) (ev_pos rfl (Ev.bind (eqInt_ev ys hy) (ev_pos rfl (ev_pos rfl (ev_neg (by simp) (Ev.now _))))))

theorem markScan_ev (a0 : Bool) (a1 a2 a3 a4 : Int) (xs : List ByteArray) (ys : List Int) (e : Int) (m : Bool) (hx : xs.length ≤ 1099511627776) (hy : ys.length ≤ 1099511627776) :
    Ev (fun k => laws_markScan.f k a0 a1 a2 a3 a4 xs ys e m 1) (1 + xs.length + ys.length, seqT xs.length 1, seqL ys.length (1 + xs.length)) := by
  unfold laws_markScan.f
  exact Ev.bind (markStr_ev xs (by omega) 1 (by decide)) (Ev.bind (markInt_ev ys (by omega) (1 + xs.length) (by omega)) (Ev.now _))

theorem heldScan_ev (a0 : Bool) (a1 a2 a3 a4 : Int) (n m : Nat) (e : Int) (k0 : Bool) (hn : n ≤ 1099511627776) (hm : m ≤ 1099511627776) :
    Ev (fun k => laws_heldScan.f k a0 a1 a2 a3 a4 (seqT n 1) (seqL m (1 + n)) e k0 1) (1 + n + m) := by
  unfold laws_heldScan.f
  exact Ev.bind (heldStr_ev n (by omega) 1 (by decide)) (ev_neg (by omega) (Ev.bind (heldInt_ev m (by omega) (1 + n) (by omega)) (ev_neg (by omega) (Ev.now _))))

theorem FnExactScanText : laws_FnExactScanText.Pure := by
  intro b hb
  refine Ev.rounds ?_
  unfold laws_FnExactScanText.f
  refine ev_ite (fun _ => Ev.now _) (fun h => ?_)
  have hl := scan_recsLen b
  have ho := scan_offsLen b
  refine Ev.bind (spec_Scan_ev b (by omega)) (Ev.bind (impl_Scan_ev b (by omega)) (Ev.bind (eqScan_ev _ _ _ _ _ _ _ _ _ (by omega) (by omega)) (ev_pos rfl (Ev.bind (markScan_ev _ _ _ _ _ _ _ _ _ (by omega) (by omega)) ?_))))
  refine Ev.bind (heldScan_ev _ _ _ _ _ _ _ _ _ (by omega) (by omega)) (ev_neg (by omega) (ev_pos rfl ?_))
  refine Ev.bind (impl_Scan_ev b (by omega)) (Ev.bind (eqScan_ev _ _ _ _ _ _ _ _ _ (by omega) (by omega)) (ev_pos rfl ?_))
  exact Ev.bind (heldScan_ev _ _ _ _ _ _ _ _ _ (by omega) (by omega)) (ev_neg (by omega) (ev_pos rfl (Ev.now _)))

end Go.Proofs.Ytbbbnedaeiddiaa.Pure
