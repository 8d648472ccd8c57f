/- The program's FrameText answers as the reference's, for all arguments. -/
import Derived.Test.YtaifdajdopghoaaQFnExactFrameTextx3
import Derived.Test.YtaifdajdopghoaaMath
namespace Go.Proofs.Ytaifdajdopghoaa.Pure
open Go.RowKit Go.Proofs.Ytaifdajdopghoaa.QFnExactFrameText Go.Proofs.YtaifdajdopghoaaW.PrintWords Go.Proofs.YtaifdajdopghoaaW.PrintLast Go.Proofs.YtaifdajdopghoaaW.PrintMore Go.Proofs.Ytaifdajdopghoaa.Mth
set_option linter.unusedVariables false
set_option linter.unusedSimpArgs false

theorem spec_In (a b c : Int) : spec_l01In.f a b c = some (decide (b ≤ a ∧ a ≤ c)) := by
  unfold spec_l01In.f
  by_cases h : a ≥ b <;> simp [h]

theorem impl_In (a b c : Int) : impl_within.f a b c = some (decide (b ≤ a ∧ a ≤ c)) := by
  unfold impl_within.f
  by_cases h : a ≥ b <;> simp [h]

theorem spec_Fix_loop (w : Int) (hw : w ≤ 8) : ∀ (d : Nat) (n : Int) (acc : List Int) (i : Int), i = w - d → 0 ≤ i → acc.length = i.toNat →
    Ev (fun k => spec_FixText.l0 k n w acc i) (if n / 256 ^ d > 0 then ⟨#[]⟩ else strOfNums (acc ++ fixL d n))
  | 0, n, acc, i, hi, h0, hl => by
    refine Ev.step (fun k => by rw [spec_FixText.l0]) ?_
    refine ev_neg (by omega) ?_
    have e : n / 256 ^ 0 = n := by simp
    rw [e]
    refine ev_ite (fun h => ev_eq (by rw [if_pos h])) (fun h => ev_eq (by rw [if_neg h]; simp [fixL]))
  | d + 1, n, acc, i, hi, h0, hl => by
    refine Ev.step (fun k => by rw [spec_FixText.l0]) ?_
    refine ev_pos (by omega) (ev_pos (by omega) ?_)
    rw [w64 (by omega) (by omega)]
    have := spec_Fix_loop w hw d (n / 256) (acc ++ [n % 256]) (i + 1) (by omega) (by omega) (by simp; omega)
    rw [div_div, List.append_assoc] at this
    exact this
theorem spec_Fix (n w : Int) : Ev (fun k => spec_FixText.f k n w) (fixT n w) := by
  unfold spec_FixText.f fixT
  refine ev_ite (fun h => ?_) (fun h => ?_)
  · rw [if_pos (.inl h)]
    refine Ev.step (fun k => by rw [spec_FixText.j0]) ?_
    exact ev_pos rfl (ev_eq rfl)
  · refine ev_now (spec_In _ _ _) ?_
    refine Ev.step (fun k => by rw [spec_FixText.j0]) ?_
    by_cases hw : 1 ≤ w ∧ w ≤ 8
    · refine ev_neg (by simp [hw]) ?_
      have := spec_Fix_loop w hw.2 w.toNat n [] 0 (by omega) (by omega) rfl
      refine ev_cast ?_ this
      by_cases hb : n / 256 ^ w.toNat > 0
      · rw [if_pos hb, if_pos (by simp [hb])]
      · rw [if_neg hb, if_neg (by simp only [not_or]; exact ⟨h, by omega, by omega, hb⟩)]
        rfl
    · refine ev_pos (by simp [hw]) (ev_eq ?_)
      rw [if_pos (by omega)]

theorem shr_pow (n : Int) (d : Nat) (h : d ≤ 8) : shr .i64 n (8 * (d : Int)) = n / 256 ^ d := by
  unfold shr
  rw [show (8 * (d : Int)).toNat = 8 * d by omega, show IntKind.bits .i64 = 64 from rfl, Nat.min_eq_left (by omega), Int.pow_mul]
  rfl
theorem impl_Fix_loop (w : Nat) (hw : w ≤ 8) (n : Int) : ∀ (d i : Nat), i + d = w →
    Ev (fun k => impl_FixText.l0 k n (fixL i n ++ List.replicate d 0) (w : Int) (i : Int)) (strOfNums (fixL w n))
  | 0, i, h => by
    obtain rfl : i = w := by omega
    refine Ev.step (fun k => by rw [impl_FixText.l0]) ?_
    refine ev_neg (by omega) (ev_eq (by simp))
  | d + 1, i, h => by
    refine Ev.step (fun k => by rw [impl_FixText.l0]) ?_
    have e : wrap64 (8 * (i : Int)) = 8 * (i : Int) := w64 (by omega) (by omega)
    refine ev_pos (by omega) (ev_pos (by omega) (ev_pos (by omega) (ev_pos (by simp [fixL_length]; omega) ?_)))
    rw [e, shr_pow n i (by omega), w64 (by omega) (by omega)]
    have := impl_Fix_loop w hw n d (i + 1) (by omega)
    rw [fixL_snoc] at this
    have e2 : (fixL i n ++ List.replicate (d + 1) 0).set ((i : Int).toNat) (n / 256 ^ i % 256) = fixL i n ++ [n / 256 ^ i % 256] ++ List.replicate d 0 := by
      rw [Int.toNat_natCast, List.set_append_right _ _ (by rw [fixL_length]; omega), fixL_length, Nat.sub_self, List.replicate_succ]
      simp
    rw [e2]
    exact this
theorem impl_Fix (n w : Int) (hn : n ≤ 9223372036854775807) : Ev (fun k => impl_FixText.f k n w) (fixT n w) := by
  unfold impl_FixText.f fixT
  have go : ∀ b : Bool, 1 ≤ w → w ≤ 8 → Ev (fun k => impl_FixText.j0 k n w b) (if b = true then ⟨#[]⟩ else strOfNums (fixL w.toNat n)) := by
    intro b h1 h2
    refine Ev.step (fun k => by rw [impl_FixText.j0]) ?_
    refine ev_ite (fun h => ev_eq (by rw [if_pos h])) (fun h => ?_)
    rw [if_neg h]
    refine ev_pos (by omega) (ev_pos (by omega) (ev_now rfl ?_))
    have := impl_Fix_loop w.toNat (by omega) n w.toNat 0 (by omega)
    rw [show fixL 0 n = [] from rfl, List.nil_append, show ((w.toNat : Nat) : Int) = w by omega] at this
    rw [List.length_replicate, show ((w.toNat : Nat) : Int) = w by omega]
    exact this
  refine ev_ite (fun h => ?_) (fun h => ?_)
  · rw [if_pos (.inl h)]
    refine Ev.step (fun k => by rw [impl_FixText.j0]) ?_
    exact ev_pos rfl (ev_eq rfl)
  · refine ev_now (impl_In _ _ _) ?_
    by_cases hw : 1 ≤ w ∧ w ≤ 8
    · refine ev_pos (by simp [hw]) ?_
      refine ev_ite (fun h8 => ?_) (fun h8 => ?_)
      · have e : wrap64 (8 * w) = 8 * ((w.toNat : Nat) : Int) := by rw [w64 (by omega) (by omega)]; omega
        rw [e, shr_pow n w.toNat (by omega)]
        refine ev_pos (by omega) (ev_cast ?_ (go _ hw.1 hw.2))
        have hnn : 0 ≤ n / 256 ^ w.toNat := Int.ediv_nonneg (by omega) (Int.pow_nonneg (by decide))
        by_cases hb : n / 256 ^ w.toNat > 0
        · rw [if_pos (by simp; omega), if_pos (by simp [hb])]
        · have hz : n / 256 ^ w.toNat = 0 := by omega
          rw [if_neg (by simp [hz]), if_neg (by simp only [not_or]; exact ⟨h, by omega, by omega, hb⟩)]
      · refine ev_cast ?_ (go _ hw.1 hw.2)
        obtain rfl : w = 8 := by omega
        have hz : n / 256 ^ (8 : Int).toNat = 0 := by
          rw [show (256 : Int) ^ (8 : Int).toNat = 18446744073709551616 by decide]
          omega
        rw [if_neg (by simp), if_neg (by simp only [not_or]; exact ⟨h, by omega, by omega, by omega⟩)]
    · refine ev_neg (by simp [hw]) ?_
      refine Ev.step (fun k => by rw [impl_FixText.j0]) ?_
      refine ev_pos rfl (ev_eq ?_)
      rw [if_pos (by omega)]

theorem spec_SumByte_loop : ∀ (d n : Nat) (i : Int), d ≤ 8 → n < 4294967296 → i = 8 - d → Ev (fun k => spec_SumByte.l0 k n i) ((stps d n : Nat) : Int)
  | 0, n, i, h9, hn, hi => by
    refine Ev.step (fun k => by rw [spec_SumByte.l0]) ?_
    exact ev_neg (by omega) (ev_eq rfl)
  | d + 1, n, i, h9, hn, hi => by
    refine Ev.step (fun k => by rw [spec_SumByte.l0]) ?_
    by_cases h8 : i < 8
    · refine ev_pos h8 ?_
      have hh : (n : Int) / 2 = ((n / 2 : Nat) : Int) := by omega
      rw [and_1, hh, w64 (by omega) (by omega), show (2197175160 : Int) = ((2197175160 : Nat) : Int) from rfl, xor64 _ _ (by omega) (by decide)]
      have hs := spec_SumByte_loop d (stp n) (i + 1) (by omega) (stp_lt hn) (by omega)
      refine ev_ite (fun h => ?_) (fun h => ?_)
      · rw [show stp n = (n / 2) ^^^ 2197175160 by unfold stp; rw [if_pos (by omega)]] at hs
        refine ev_cast ?_ hs
        show _ = ((stps d (stp n) : Nat) : Int)
        rw [show stp n = (n / 2) ^^^ 2197175160 by unfold stp; rw [if_pos (by omega)]]
      · rw [show stp n = n / 2 by unfold stp; rw [if_neg (by omega)]] at hs
        refine ev_cast ?_ hs
        show _ = ((stps d (stp n) : Nat) : Int)
        rw [show stp n = n / 2 by unfold stp; rw [if_neg (by omega)]]
    · exact absurd (by omega) h8
theorem spec_SumByte_ev (s b : Nat) (hs : s < 4294967296) (hb : b < 256) : Ev (fun k => spec_SumByte.f k s b) ((sb s b : Nat) : Int) := by
  unfold spec_SumByte.f
  rw [and_all, and_255, show (s : Int) % 4294967296 = s by omega, show (b : Int) % 256 = b by omega, xor64 _ _ hs (by omega)]
  exact spec_SumByte_loop 8 _ 0 (Nat.le_refl _) (xlt hs (by omega)) (by omega)
theorem spec_SumMore_loop (t : ByteArray) (ht : t.size ≤ 9223372036854775806) : ∀ (d i s : Nat), i + d = t.size → s < 4294967296 →
    Ev (fun k => spec_SumMore.l0 k t s i) ((sm s ((bl t).drop i) ^^^ 4294967295 : Nat) : Int)
  | 0, i, s, hi, hs => by
    refine Ev.step (fun k => by rw [spec_SumMore.l0]) ?_
    refine ev_neg (by omega) (ev_eq ?_)
    rw [show (4294967295 : Int) = ((4294967295 : Nat) : Int) from rfl, xor64 _ _ hs (by decide), List.drop_of_length_le (by rw [bl_length]; omega)]
    rfl
  | d + 1, i, s, hi, hs => by
    refine Ev.step (fun k => by rw [spec_SumMore.l0]) ?_
    refine ev_pos (by omega) (ev_pos (by omega) ?_)
    have hb := bl_getD_lt t i
    rw [bt_bl t i (by omega), w64 (by omega) (by omega), w64 (by omega) (by omega), bl_drop t i (by omega)]
    refine Ev.bind (spec_SumByte_ev s _ hs hb) ?_
    have := spec_SumMore_loop t ht d (i + 1) (sb s ((bl t).getD i 0)) (by omega) (sb_lt hs (by omega))
    rw [Int.natCast_add] at this
    exact this
theorem spec_SumMore_ev (s : Int) (t : ByteArray) (ht : t.size ≤ 9223372036854775806) : Ev (fun k => spec_SumMore.f k s t) (sumMore s t) := by
  unfold spec_SumMore.f
  have h0 : (s % 4294967296).toNat < 4294967296 := by omega
  rw [and_all, show s % 4294967296 = (((s % 4294967296).toNat : Nat) : Int) by omega, show (4294967295 : Int) = ((4294967295 : Nat) : Int) from rfl, xor64 _ _ h0 (by decide)]
  exact spec_SumMore_loop t ht t.size 0 _ (by omega) (xlt h0 (by decide))
theorem spec_SumOf_ev (t : ByteArray) (ht : t.size ≤ 9223372036854775806) : Ev (fun k => spec_SumOf.f k t) (sumOf t) := by
  unfold spec_SumOf.f
  exact Ev.bind (spec_SumMore_ev 0 t ht) (Ev.now _)

theorem impl_sumByte_loop : ∀ (d n : Nat) (i : Int), d ≤ 8 → n < 4294967296 → i = 8 - d → Ev (fun k => impl_sumByte.l0 k n i) ((stps d n : Nat) : Int)
  | 0, n, i, h9, hn, hi => by
    refine Ev.step (fun k => by rw [impl_sumByte.l0]) ?_
    exact ev_neg (by omega) (ev_eq rfl)
  | d + 1, n, i, h9, hn, hi => by
    refine Ev.step (fun k => by rw [impl_sumByte.l0]) ?_
    refine ev_pos (by omega) ?_
    have hh : (n : Int) / 2 = ((n / 2 : Nat) : Int) := by omega
    rw [and32_1 n hn, hh, w64 (by omega) (by omega), show (2197175160 : Int) = ((2197175160 : Nat) : Int) from rfl, xor32 _ _ (by omega) (by decide)]
    have hs := impl_sumByte_loop d (stp n) (i + 1) (by omega) (stp_lt hn) (by omega)
    refine ev_cast (a := ((stps d (stp n) : Nat) : Int)) rfl ?_
    refine ev_ite (fun h => ?_) (fun h => ?_)
    · rw [show stp n = (n / 2) ^^^ 2197175160 by unfold stp; rw [if_pos (by omega)]] at hs ⊢
      exact hs
    · rw [show stp n = n / 2 by unfold stp; rw [if_neg (by omega)]] at hs ⊢
      exact hs
theorem impl_sumByte_ev (s b : Nat) (hs : s < 4294967296) (hb : b < 256) : Ev (fun k => impl_sumByte.f k s b) ((sb s b : Nat) : Int) := by
  unfold impl_sumByte.f
  rw [show (b : Int) % 4294967296 = b by omega, xor32 _ _ hs (by omega)]
  exact impl_sumByte_loop 8 _ 0 (Nat.le_refl _) (xlt hs (by omega)) (by omega)
theorem impl_SumMore_loop (t : ByteArray) (ht : t.size ≤ 9223372036854775806) : ∀ (d i s : Nat), i + d = t.size → s < 4294967296 →
    Ev (fun k => impl_SumMore.l0 k t s t.size i) ((sm s ((bl t).drop i) ^^^ 4294967295 : Nat) : Int)
  | 0, i, s, hi, hs => by
    refine Ev.step (fun k => by rw [impl_SumMore.l0]) ?_
    refine ev_neg (by omega) (ev_eq ?_)
    have hlt : sm s ((bl t).drop i) ^^^ 4294967295 < 4294967296 := xlt (sm_lt _ hs (fun x hx => bl_lt t x (List.mem_of_mem_drop hx))) (by decide)
    rw [List.drop_of_length_le (by rw [bl_length]; omega)] at hlt ⊢
    rw [show (4294967295 : Int) = ((4294967295 : Nat) : Int) from rfl, xor32 _ _ hs (by decide), w64 (by omega) (by have : s ^^^ 4294967295 < 4294967296 := hlt; omega)]
    rfl
  | d + 1, i, s, hi, hs => by
    refine Ev.step (fun k => by rw [impl_SumMore.l0]) ?_
    refine ev_pos (by omega) (ev_pos (by omega) (ev_pos (by omega) ?_))
    have hb := bl_getD_lt t i
    rw [bt_bl t i (by omega), w64 (by omega) (by omega), bl_drop t i (by omega)]
    refine Ev.bind (impl_sumByte_ev s _ hs hb) ?_
    have := impl_SumMore_loop t ht d (i + 1) (sb s ((bl t).getD i 0)) (by omega) (sb_lt hs (by omega))
    rw [Int.natCast_add] at this
    exact this
theorem impl_SumMore_ev (s : Int) (t : ByteArray) (ht : t.size ≤ 9223372036854775806) : Ev (fun k => impl_SumMore.f k s t) (sumMore s t) := by
  unfold impl_SumMore.f
  have h0 : (s % 4294967296).toNat < 4294967296 := by omega
  rw [show s % 4294967296 = (((s % 4294967296).toNat : Nat) : Int) by omega, show (4294967295 : Int) = ((4294967295 : Nat) : Int) from rfl, xor32 _ _ h0 (by decide)]
  exact impl_SumMore_loop t ht t.size 0 _ (by omega) (xlt h0 (by decide))

theorem impl_SumOf_ev (t : ByteArray) (ht : t.size ≤ 9223372036854775806) : Ev (fun k => impl_SumOf.f k t) (sumOf t) := by
  unfold impl_SumOf.f
  exact Ev.bind (impl_SumMore_ev 0 t ht) (Ev.now _)

theorem impl_Ver (v : Int) : impl_isVersion.f v = some (decide (verOk v)) := by
  unfold impl_isVersion.f verOk
  by_cases h : v = 1 <;> simp [h]
  rw [Bool.eq_iff_iff]; simp

theorem impl_Num (n : Int) : impl_isNumber.f n = some (decide (numOk n)) := by
  unfold impl_isNumber.f numOk
  rw [impl_In]
  rfl

theorem spec_Var_loop : ∀ (d : Nat) (n : Int) (acc : List Int), 0 ≤ n → n < 128 ^ (d + 1) → acc.length + d ≤ 100 →
    Ev (fun k => spec_VarText.l0 k n acc) (strOfNums (acc ++ varL d n))
  | 0, n, acc, h0, h1, hl => by
    refine Ev.step (fun k => by rw [spec_VarText.l0]) ?_
    refine ev_neg (by omega) (ev_pos (by omega) (ev_eq rfl))
  | d + 1, n, acc, h0, h1, hl => by
    refine Ev.step (fun k => by rw [spec_VarText.l0]) ?_
    refine ev_ite (fun h => ev_pos (by omega) ?_) (fun h => ev_pos (by omega) (ev_eq ?_))
    · rw [or64]
      have hp : n / 128 < 128 ^ (d + 1) := by
        rw [Int.pow_succ] at h1
        omega
      have := spec_Var_loop d (n / 128) (acc ++ [n % 128 + 128]) (by omega) hp (by simp; omega)
      rw [List.append_assoc] at this
      rw [varL_gt d n h]
      exact this
    · rw [varL_ngt d n h]
theorem spec_Var_ev (n : Int) : Ev (fun k => spec_VarText.f k n) (varT n) := by
  unfold spec_VarText.f varT
  refine ev_now (spec_In _ _ _) ?_
  refine ev_ite (fun h => ?_) (fun h => ?_)
  · have h' := of_decide_eq_true h
    rw [if_neg (by omega)]
    exact spec_Var_loop 4 n [] h'.1 (by have : (128 : Int) ^ (4 + 1) = 34359738368 := by decide
                                        omega) (by simp)
  · rw [if_pos (by have h' := nd h; omega)]
    exact Ev.now _

theorem impl_Var_loop : ∀ (d : Nat) (n : Int) (acc : List Int), 0 ≤ n → n < 128 ^ (d + 1) → acc.length + d ≤ 100 →
    Ev (fun k => impl_VarText.l0 k n acc) (strOfNums (acc ++ varL d n))
  | 0, n, acc, h0, h1, hl => by
    refine Ev.step (fun k => by rw [impl_VarText.l0]) ?_
    refine ev_neg (by omega) (ev_pos (by omega) (ev_eq rfl))
  | d + 1, n, acc, h0, h1, hl => by
    refine Ev.step (fun k => by rw [impl_VarText.l0]) ?_
    refine ev_ite (fun h => ev_pos (by omega) ?_) (fun h => ev_pos (by omega) (ev_eq ?_))
    · rw [orU8]
      have hp : n / 128 < 128 ^ (d + 1) := by
        rw [Int.pow_succ] at h1
        omega
      have := impl_Var_loop d (n / 128) (acc ++ [n % 128 + 128]) (by omega) hp (by simp; omega)
      rw [List.append_assoc] at this
      rw [varL_gt d n (by omega)]
      exact this
    · rw [varL_ngt d n (by omega)]
theorem impl_Var_ev (n : Int) : Ev (fun k => impl_VarText.f k n) (varT n) := by
  unfold impl_VarText.f varT
  refine ev_now (impl_Num _) ?_
  refine ev_ite (fun h => ?_) (fun h => ?_)
  · have h' := of_decide_eq_true h
    unfold numOk at h'
    rw [if_neg (by omega)]
    exact impl_Var_loop 4 n [] h'.1 (by have : (128 : Int) ^ (4 + 1) = 34359738368 := by decide
                                        omega) (by simp)
  · rw [if_pos (by have h' := nd h; unfold numOk at h'; omega)]
    exact Ev.now _

theorem impl_sized_ev (p n : Int) (hp : p ≤ 9223372036854775807) (hn : n ≤ 9223372036854775807) : Ev (fun k => impl_sized.f k p n) (sizedT p n) := by
  unfold impl_sized.f sizedT
  have h1 := fixT_le n 4
  have h2 := fixT_le p 8
  have h3 := fixT_le (sumOf (fixT p 8 ++ fixT n 4)) 4
  have hs : (fixT p 8 ++ fixT n 4).size ≤ 9223372036854775806 := by rw [ByteArray.size_append]; omega
  refine Ev.bind (impl_Fix n 4 hn) (Ev.bind (impl_Fix p 8 hp) (ev_pos (by omega) ?_))
  refine Ev.bind (impl_SumOf_ev _ hs) (Ev.bind (impl_Fix _ 4 (by have := sumMore_range 0 (fixT p 8 ++ fixT n 4); unfold sumOf; omega)) (ev_pos (by omega) (Ev.now _)))

theorem spec_FrameText_ev (v p : Int) (r : ByteArray) (hr : r.size ≤ 140737488355328) : Ev (fun k => spec_FrameText.f k v p r) (frameT v p r) := by
  unfold spec_FrameText.f
  have go : ∀ b : Bool, Ev (fun k => spec_FrameText.j0 k v p r b) (if b = true then ⟨#[]⟩ else (if v = 1 then varT r.size else sizedT p r.size) ++ r ++ fixT (sumOf r) 4) := by
    intro b
    refine Ev.step (fun k => by rw [spec_FrameText.j0]) ?_
    refine ev_ite (fun h => ev_eq (by rw [if_pos h])) (fun h => ?_)
    rw [if_neg h]
    have h1 := sizedT_le p r.size
    have h2 := varT_le r.size
    have h3 := fixT_le (sumOf r) 4
    refine Ev.bind (spec_SumOf_ev r (by omega)) (Ev.bind (spec_Fix _ 4) ?_)
    refine ev_ite (fun h => ?_) (fun h => ?_)
    · rw [if_pos h]
      refine Ev.bind (spec_Var_ev _) (ev_pos (by omega) (ev_pos ?_ (Ev.now _)))
      rw [ByteArray.size_append]; omega
    · rw [if_neg h]
      unfold sizedT at h1 ⊢
      have g1 := fixT_le r.size 4
      have g2 := fixT_le p 8
      have g3 := fixT_le (sumOf (fixT p 8 ++ fixT r.size 4)) 4
      have hs : (fixT p 8 ++ fixT (r.size : Int) 4).size ≤ 9223372036854775806 := by rw [ByteArray.size_append]; omega
      refine Ev.bind (spec_Fix _ 4) (Ev.bind (spec_Fix p 8) (ev_pos (by omega) ?_))
      refine Ev.bind (spec_SumOf_ev _ hs) (Ev.bind (spec_Fix _ 4) (ev_pos (by omega) (ev_pos ?_ (ev_pos ?_ (Ev.now _)))))
      · omega
      · rw [ByteArray.size_append]; omega
  unfold frameT
  refine ev_now (spec_In _ _ _) ?_
  refine ev_ite (fun h => ev_now (spec_In _ _ _) (ev_ite (fun h2 => ev_cast ?_ (go _)) (fun h2 => ev_cast ?_ (go _)))) (fun h => ev_cast ?_ (go _))
  · have h' := of_decide_eq_true h
    have h2' := of_decide_eq_true h2
    by_cases hr : r.size ≤ 60
    · rw [if_neg (by simp; omega), if_pos (show verOk v ∧ numOk p ∧ r.size ≤ 60 from ⟨by unfold verOk; omega, h2', hr⟩)]
    · rw [if_pos (by simp; omega), if_neg (show ¬ (verOk v ∧ numOk p ∧ r.size ≤ 60) from fun x => hr x.2.2)]
  · have h2' : ¬ (0 ≤ p ∧ p ≤ 1000000000) := nd h2
    rw [if_pos rfl, if_neg (show ¬ (verOk v ∧ numOk p ∧ r.size ≤ 60) from fun x => h2' x.2.1)]
  · have h' : ¬ (1 ≤ v ∧ v ≤ 2) := nd h
    rw [if_pos rfl, if_neg (show ¬ (verOk v ∧ numOk p ∧ r.size ≤ 60) from fun x => by have := x.1; unfold verOk at this; omega)]

theorem impl_FrameText_ev (v p : Int) (r : ByteArray) (hp : p ≤ 9223372036854775807) (hr : r.size ≤ 140737488355328) : Ev (fun k => impl_FrameText.f k v p r) (frameT v p r) := by
  unfold impl_FrameText.f
  have go : ∀ b : Bool, Ev (fun k => impl_FrameText.j0 k v p r b) (if b = true then ⟨#[]⟩ else (if v = 2 then sizedT p r.size else varT r.size) ++ r ++ fixT (sumOf r) 4) := by
    intro b
    refine Ev.step (fun k => by rw [impl_FrameText.j0]) ?_
    refine ev_ite (fun h => ev_eq (by rw [if_pos h])) (fun h => ?_)
    rw [if_neg h]
    have h1 := sizedT_le p r.size
    have h2 := varT_le r.size
    have h3 := fixT_le (sumOf r) 4
    have h4 : sumOf r ≤ 9223372036854775807 := by have := sumMore_range 0 r; unfold sumOf; omega
    refine Ev.bind (impl_Var_ev _) ?_
    refine ev_ite (fun h => ?_) (fun h => ?_)
    · rw [if_pos h]
      refine Ev.bind (impl_sized_ev p r.size hp (by omega)) (ev_pos (by omega) ?_)
      refine Ev.bind (impl_SumOf_ev r (by omega)) (Ev.bind (impl_Fix _ 4 h4) (ev_pos ?_ (Ev.now _)))
      rw [ByteArray.size_append]; omega
    · rw [if_neg h]
      refine ev_pos (by omega) ?_
      refine Ev.bind (impl_SumOf_ev r (by omega)) (Ev.bind (impl_Fix _ 4 h4) (ev_pos ?_ (Ev.now _)))
      rw [ByteArray.size_append]; omega
  unfold frameT
  refine ev_now (impl_Ver _) ?_
  refine ev_ite (fun h => ev_now (impl_Num _) (ev_ite (fun h2 => ev_cast ?_ (go _)) (fun h2 => ev_cast ?_ (go _)))) (fun h => ev_cast ?_ (go _))
  · have h' := of_decide_eq_true h
    have h2' := of_decide_eq_true h2
    have e : (if v = 2 then sizedT p r.size else varT r.size) = (if v = 1 then varT r.size else sizedT p r.size) := by
      rcases h' with rfl | rfl <;> simp
    rw [e]
    by_cases hr : r.size ≤ 60
    · rw [if_neg (by simp; omega), if_pos (show verOk v ∧ numOk p ∧ r.size ≤ 60 from ⟨h', h2', hr⟩)]
    · rw [if_pos (by simp; omega), if_neg (show ¬ (verOk v ∧ numOk p ∧ r.size ≤ 60) from fun x => hr x.2.2)]
  · have h2' : ¬ numOk p := nd h2
    rw [if_pos rfl, if_neg (show ¬ (verOk v ∧ numOk p ∧ r.size ≤ 60) from fun x => h2' x.2.1)]
  · have h' : ¬ verOk v := nd h
    rw [if_pos rfl, if_neg (show ¬ (verOk v ∧ numOk p ∧ r.size ≤ 60) from fun x => h' x.1)]

theorem FnExactFrameText : laws_FnExactFrameText.Pure := by
  intro v p r _ hp hr
  refine Ev.rounds ?_
  unfold laws_FnExactFrameText.f
  refine ev_ite (fun _ => Ev.now _) (fun _ => ?_)
  exact Ev.bind (spec_FrameText_ev v p r (by omega)) (Ev.bind (impl_FrameText_ev v p r (wf64 hp).2 (by omega)) (ev_pos rfl (Ev.now _)))

end Go.Proofs.Ytaifdajdopghoaa.Pure
