/- The program's GoesOn answers as the reference's, for all arguments. -/
import Derived.Test.YtkkendhkiopnbaaQFnExactGoesOnx7
import Derived.Test.YtkkendhkiopnbaaMath3
namespace Go.Proofs.Ytkkendhkiopnbaa.Pure
open Go.RowKit Go.Proofs.Ytkkendhkiopnbaa.QFnExactGoesOn Go.Proofs.YtkkendhkiopnbaaW.PrintWords Go.Proofs.YtkkendhkiopnbaaW.PrintLast Go.Proofs.YtkkendhkiopnbaaW.PrintMore Go.Proofs.Ytkkendhkiopnbaa.Mth
set_option linter.unusedVariables false
set_option linter.unusedSimpArgs false

theorem spec_In (a b c : Int) : spec_l01In.f a b c = some (decide (b ≤ a ∧ a ≤ c)) := by
  unfold spec_l01In.f
  by_cases h : a ≥ b <;> simp [h]

theorem impl_In (a b c : Int) : impl_within.f a b c = some (decide (b ≤ a ∧ a ≤ c)) := by
  unfold impl_within.f
  by_cases h : a ≥ b <;> simp [h]

theorem spec_Fix_loop (w : Int) (hw : w ≤ 8) : ∀ (d : Nat) (n : Int) (acc : List Int) (i : Int), i = w - d → 0 ≤ i → acc.length = i.toNat →
    Ev (fun k => spec_FixText.l0 k n w acc i) (if n / 256 ^ d > 0 then ⟨#[]⟩ else strOfNums (acc ++ fixL d n))
  | 0, n, acc, i, hi, h0, hl => by
    refine Ev.step (fun k => by rw [spec_FixText.l0]) ?_
    refine ev_neg (by omega) ?_
    have e : n / 256 ^ 0 = n := by simp
    rw [e]
    refine ev_ite (fun h => ev_eq (by rw [if_pos h])) (fun h => ev_eq (by rw [if_neg h]; simp [fixL]))
  | d + 1, n, acc, i, hi, h0, hl => by
    refine Ev.step (fun k => by rw [spec_FixText.l0]) ?_
    refine ev_pos (by omega) (ev_pos (by omega) ?_)
    rw [w64 (by omega) (by omega)]
    have := spec_Fix_loop w hw d (n / 256) (acc ++ [n % 256]) (i + 1) (by omega) (by omega) (by simp; omega)
    rw [div_div, List.append_assoc] at this
    exact this
theorem spec_Fix (n w : Int) : Ev (fun k => spec_FixText.f k n w) (fixT n w) := by
  unfold spec_FixText.f fixT
  refine ev_ite (fun h => ?_) (fun h => ?_)
  · rw [if_pos (.inl h)]
    refine Ev.step (fun k => by rw [spec_FixText.j0]) ?_
    exact ev_pos rfl (ev_eq rfl)
  · refine ev_now (spec_In _ _ _) ?_
    refine Ev.step (fun k => by rw [spec_FixText.j0]) ?_
    by_cases hw : 1 ≤ w ∧ w ≤ 8
    · refine ev_neg (by simp [hw]) ?_
      have := spec_Fix_loop w hw.2 w.toNat n [] 0 (by omega) (by omega) rfl
      refine ev_cast ?_ this
      by_cases hb : n / 256 ^ w.toNat > 0
      · rw [if_pos hb, if_pos (by simp [hb])]
      · rw [if_neg hb, if_neg (by simp only [not_or]; exact ⟨h, by omega, by omega, hb⟩)]
        rfl
    · refine ev_pos (by simp [hw]) (ev_eq ?_)
      rw [if_pos (by omega)]

theorem shr_pow (n : Int) (d : Nat) (h : d ≤ 8) : shr .i64 n (8 * (d : Int)) = n / 256 ^ d := by
  unfold shr
  rw [show (8 * (d : Int)).toNat = 8 * d by omega, show IntKind.bits .i64 = 64 from rfl, Nat.min_eq_left (by omega), Int.pow_mul]
  rfl
theorem impl_Fix_loop (w : Nat) (hw : w ≤ 8) (n : Int) : ∀ (d i : Nat), i + d = w →
    Ev (fun k => impl_FixText.l0 k n (fixL i n ++ List.replicate d 0) (w : Int) (i : Int)) (strOfNums (fixL w n))
  | 0, i, h => by
    obtain rfl : i = w := by omega
    refine Ev.step (fun k => by rw [impl_FixText.l0]) ?_
    refine ev_neg (by omega) (ev_eq (by simp))
  | d + 1, i, h => by
    refine Ev.step (fun k => by rw [impl_FixText.l0]) ?_
    have e : wrap64 (8 * (i : Int)) = 8 * (i : Int) := w64 (by omega) (by omega)
    refine ev_pos (by omega) (ev_pos (by omega) (ev_pos (by omega) (ev_pos (by simp [fixL_length]; omega) ?_)))
    rw [e, shr_pow n i (by omega), w64 (by omega) (by omega)]
    have := impl_Fix_loop w hw n d (i + 1) (by omega)
    rw [fixL_snoc] at this
    have e2 : (fixL i n ++ List.replicate (d + 1) 0).set ((i : Int).toNat) (n / 256 ^ i % 256) = fixL i n ++ [n / 256 ^ i % 256] ++ List.replicate d 0 := by
      rw [Int.toNat_natCast, List.set_append_right _ _ (by rw [fixL_length]; omega), fixL_length, Nat.sub_self, List.replicate_succ]
      simp
    rw [e2]
    exact this
theorem impl_Fix (n w : Int) (hn : n ≤ 9223372036854775807) : Ev (fun k => impl_FixText.f k n w) (fixT n w) := by
  unfold impl_FixText.f fixT
  have go : ∀ b : Bool, 1 ≤ w → w ≤ 8 → Ev (fun k => impl_FixText.j0 k n w b) (if b = true then ⟨#[]⟩ else strOfNums (fixL w.toNat n)) := by
    intro b h1 h2
    refine Ev.step (fun k => by rw [impl_FixText.j0]) ?_
    refine ev_ite (fun h => ev_eq (by rw [if_pos h])) (fun h => ?_)
    rw [if_neg h]
    refine ev_pos (by omega) (ev_pos (by omega) (ev_now rfl ?_))
    have := impl_Fix_loop w.toNat (by omega) n w.toNat 0 (by omega)
    rw [show fixL 0 n = [] from rfl, List.nil_append, show ((w.toNat : Nat) : Int) = w by omega] at this
    rw [List.length_replicate, show ((w.toNat : Nat) : Int) = w by omega]
    exact this
  refine ev_ite (fun h => ?_) (fun h => ?_)
  · rw [if_pos (.inl h)]
    refine Ev.step (fun k => by rw [impl_FixText.j0]) ?_
    exact ev_pos rfl (ev_eq rfl)
  · refine ev_now (impl_In _ _ _) ?_
    by_cases hw : 1 ≤ w ∧ w ≤ 8
    · refine ev_pos (by simp [hw]) ?_
      refine ev_ite (fun h8 => ?_) (fun h8 => ?_)
      · have e : wrap64 (8 * w) = 8 * ((w.toNat : Nat) : Int) := by rw [w64 (by omega) (by omega)]; omega
        rw [e, shr_pow n w.toNat (by omega)]
        refine ev_pos (by omega) (ev_cast ?_ (go _ hw.1 hw.2))
        have hnn : 0 ≤ n / 256 ^ w.toNat := Int.ediv_nonneg (by omega) (Int.pow_nonneg (by decide))
        by_cases hb : n / 256 ^ w.toNat > 0
        · rw [if_pos (by simp; omega), if_pos (by simp [hb])]
        · have hz : n / 256 ^ w.toNat = 0 := by omega
          rw [if_neg (by simp [hz]), if_neg (by simp only [not_or]; exact ⟨h, by omega, by omega, hb⟩)]
      · refine ev_cast ?_ (go _ hw.1 hw.2)
        obtain rfl : w = 8 := by omega
        have hz : n / 256 ^ (8 : Int).toNat = 0 := by
          rw [show (256 : Int) ^ (8 : Int).toNat = 18446744073709551616 by decide]
          omega
        rw [if_neg (by simp), if_neg (by simp only [not_or]; exact ⟨h, by omega, by omega, by omega⟩)]
    · refine ev_neg (by simp [hw]) ?_
      refine Ev.step (fun k => by rw [impl_FixText.j0]) ?_
      refine ev_pos rfl (ev_eq ?_)
      rw [if_pos (by omega)]

theorem spec_SumByte_loop : ∀ (d n : Nat) (i : Int), d ≤ 8 → n < 4294967296 → i = 8 - d → Ev (fun k => spec_SumByte.l0 k n i) ((stps d n : Nat) : Int)
  | 0, n, i, h9, hn, hi => by
    refine Ev.step (fun k => by rw [spec_SumByte.l0]) ?_
    exact ev_neg (by omega) (ev_eq rfl)
  | d + 1, n, i, h9, hn, hi => by
    refine Ev.step (fun k => by rw [spec_SumByte.l0]) ?_
    by_cases h8 : i < 8
    · refine ev_pos h8 ?_
      have hh : (n : Int) / 2 = ((n / 2 : Nat) : Int) := by omega
      rw [and_1, hh, w64 (by omega) (by omega), show (2197175160 : Int) = ((2197175160 : Nat) : Int) from rfl, xor64 _ _ (by omega) (by decide)]
      have hs := spec_SumByte_loop d (stp n) (i + 1) (by omega) (stp_lt hn) (by omega)
      refine ev_ite (fun h => ?_) (fun h => ?_)
      · rw [show stp n = (n / 2) ^^^ 2197175160 by unfold stp; rw [if_pos (by omega)]] at hs
        refine ev_cast ?_ hs
        show _ = ((stps d (stp n) : Nat) : Int)
        rw [show stp n = (n / 2) ^^^ 2197175160 by unfold stp; rw [if_pos (by omega)]]
      · rw [show stp n = n / 2 by unfold stp; rw [if_neg (by omega)]] at hs
        refine ev_cast ?_ hs
        show _ = ((stps d (stp n) : Nat) : Int)
        rw [show stp n = n / 2 by unfold stp; rw [if_neg (by omega)]]
    · exact absurd (by omega) h8
theorem spec_SumByte_ev (s b : Nat) (hs : s < 4294967296) (hb : b < 256) : Ev (fun k => spec_SumByte.f k s b) ((sb s b : Nat) : Int) := by
  unfold spec_SumByte.f
  rw [and_all, and_255, show (s : Int) % 4294967296 = s by omega, show (b : Int) % 256 = b by omega, xor64 _ _ hs (by omega)]
  exact spec_SumByte_loop 8 _ 0 (Nat.le_refl _) (xlt hs (by omega)) (by omega)
theorem spec_SumMore_loop (t : ByteArray) (ht : t.size ≤ 9223372036854775806) : ∀ (d i s : Nat), i + d = t.size → s < 4294967296 →
    Ev (fun k => spec_SumMore.l0 k t s i) ((sm s ((bl t).drop i) ^^^ 4294967295 : Nat) : Int)
  | 0, i, s, hi, hs => by
    refine Ev.step (fun k => by rw [spec_SumMore.l0]) ?_
    refine ev_neg (by omega) (ev_eq ?_)
    rw [show (4294967295 : Int) = ((4294967295 : Nat) : Int) from rfl, xor64 _ _ hs (by decide), List.drop_of_length_le (by rw [bl_length]; omega)]
    rfl
  | d + 1, i, s, hi, hs => by
    refine Ev.step (fun k => by rw [spec_SumMore.l0]) ?_
    refine ev_pos (by omega) (ev_pos (by omega) ?_)
    have hb := bl_getD_lt t i
    rw [bt_bl t i (by omega), w64 (by omega) (by omega), w64 (by omega) (by omega), bl_drop t i (by omega)]
    refine Ev.bind (spec_SumByte_ev s _ hs hb) ?_
    have := spec_SumMore_loop t ht d (i + 1) (sb s ((bl t).getD i 0)) (by omega) (sb_lt hs (by omega))
    rw [Int.natCast_add] at this
    exact this
theorem spec_SumMore_ev (s : Int) (t : ByteArray) (ht : t.size ≤ 9223372036854775806) : Ev (fun k => spec_SumMore.f k s t) (sumMore s t) := by
  unfold spec_SumMore.f
  have h0 : (s % 4294967296).toNat < 4294967296 := by omega
  rw [and_all, show s % 4294967296 = (((s % 4294967296).toNat : Nat) : Int) by omega, show (4294967295 : Int) = ((4294967295 : Nat) : Int) from rfl, xor64 _ _ h0 (by decide)]
  exact spec_SumMore_loop t ht t.size 0 _ (by omega) (xlt h0 (by decide))
theorem spec_SumOf_ev (t : ByteArray) (ht : t.size ≤ 9223372036854775806) : Ev (fun k => spec_SumOf.f k t) (sumOf t) := by
  unfold spec_SumOf.f
  exact Ev.bind (spec_SumMore_ev 0 t ht) (Ev.now _)

theorem impl_sumByte_loop : ∀ (d n : Nat) (i : Int), d ≤ 8 → n < 4294967296 → i = 8 - d → Ev (fun k => impl_sumByte.l0 k n i) ((stps d n : Nat) : Int)
  | 0, n, i, h9, hn, hi => by
    refine Ev.step (fun k => by rw [impl_sumByte.l0]) ?_
    exact ev_neg (by omega) (ev_eq rfl)
  | d + 1, n, i, h9, hn, hi => by
    refine Ev.step (fun k => by rw [impl_sumByte.l0]) ?_
    refine ev_pos (by omega) ?_
    have hh : (n : Int) / 2 = ((n / 2 : Nat) : Int) := by omega
    rw [and32_1 n hn, hh, w64 (by omega) (by omega), show (2197175160 : Int) = ((2197175160 : Nat) : Int) from rfl, xor32 _ _ (by omega) (by decide)]
    have hs := impl_sumByte_loop d (stp n) (i + 1) (by omega) (stp_lt hn) (by omega)
    refine ev_cast (a := ((stps d (stp n) : Nat) : Int)) rfl ?_
    refine ev_ite (fun h => ?_) (fun h => ?_)
    · rw [show stp n = (n / 2) ^^^ 2197175160 by unfold stp; rw [if_pos (by omega)]] at hs ⊢
      exact hs
    · rw [show stp n = n / 2 by unfold stp; rw [if_neg (by omega)]] at hs ⊢
      exact hs
theorem impl_sumByte_ev (s b : Nat) (hs : s < 4294967296) (hb : b < 256) : Ev (fun k => impl_sumByte.f k s b) ((sb s b : Nat) : Int) := by
  unfold impl_sumByte.f
  rw [show (b : Int) % 4294967296 = b by omega, xor32 _ _ hs (by omega)]
  exact impl_sumByte_loop 8 _ 0 (Nat.le_refl _) (xlt hs (by omega)) (by omega)
theorem impl_SumMore_loop (t : ByteArray) (ht : t.size ≤ 9223372036854775806) : ∀ (d i s : Nat), i + d = t.size → s < 4294967296 →
    Ev (fun k => impl_SumMore.l0 k t s t.size i) ((sm s ((bl t).drop i) ^^^ 4294967295 : Nat) : Int)
  | 0, i, s, hi, hs => by
    refine Ev.step (fun k => by rw [impl_SumMore.l0]) ?_
    refine ev_neg (by omega) (ev_eq ?_)
    have hlt : sm s ((bl t).drop i) ^^^ 4294967295 < 4294967296 := xlt (sm_lt _ hs (fun x hx => bl_lt t x (List.mem_of_mem_drop hx))) (by decide)
    rw [List.drop_of_length_le (by rw [bl_length]; omega)] at hlt ⊢
    rw [show (4294967295 : Int) = ((4294967295 : Nat) : Int) from rfl, xor32 _ _ hs (by decide), w64 (by omega) (by have : s ^^^ 4294967295 < 4294967296 := hlt; omega)]
    rfl
  | d + 1, i, s, hi, hs => by
    refine Ev.step (fun k => by rw [impl_SumMore.l0]) ?_
    refine ev_pos (by omega) (ev_pos (by omega) (ev_pos (by omega) ?_))
    have hb := bl_getD_lt t i
    rw [bt_bl t i (by omega), w64 (by omega) (by omega), bl_drop t i (by omega)]
    refine Ev.bind (impl_sumByte_ev s _ hs hb) ?_
    have := impl_SumMore_loop t ht d (i + 1) (sb s ((bl t).getD i 0)) (by omega) (sb_lt hs (by omega))
    rw [Int.natCast_add] at this
    exact this
theorem impl_SumMore_ev (s : Int) (t : ByteArray) (ht : t.size ≤ 9223372036854775806) : Ev (fun k => impl_SumMore.f k s t) (sumMore s t) := by
  unfold impl_SumMore.f
  have h0 : (s % 4294967296).toNat < 4294967296 := by omega
  rw [show s % 4294967296 = (((s % 4294967296).toNat : Nat) : Int) by omega, show (4294967295 : Int) = ((4294967295 : Nat) : Int) from rfl, xor32 _ _ h0 (by decide)]
  exact impl_SumMore_loop t ht t.size 0 _ (by omega) (xlt h0 (by decide))

theorem impl_SumOf_ev (t : ByteArray) (ht : t.size ≤ 9223372036854775806) : Ev (fun k => impl_SumOf.f k t) (sumOf t) := by
  unfold impl_SumOf.f
  exact Ev.bind (impl_SumMore_ev 0 t ht) (Ev.now _)

theorem impl_Ver (v : Int) : impl_isVersion.f v = some (decide (verOk v)) := by
  unfold impl_isVersion.f verOk
  by_cases h : v = 1 <;> simp [h]
  rw [Bool.eq_iff_iff]; simp

theorem impl_Num (n : Int) : impl_isNumber.f n = some (decide (numOk n)) := by
  unfold impl_isNumber.f numOk
  rw [impl_In]
  rfl

theorem impl_ReadFix_loop (b : ByteArray) (hb : b.size ≤ 140737488355328) (a w : Nat) (hw : w ≤ 8) (ha : a + w ≤ b.size) : ∀ (d i : Nat), i + d = w → i ≤ 7 →
    Ev (fun k => impl_ReadFix.l0 k b a (le (seg b a i)) w i) (if le (seg b a w) < 2 ^ 63 then (le (seg b a w), true) else (0, false))
  | 0, i, hi, h7 => by
    obtain rfl : i = w := by omega
    have hr := le_range (seg b a i) (seg_range _ _ _)
    rw [seg_length b a i (by omega)] at hr
    have h256 : (256 : Int) ^ i ≤ 256 ^ 7 := pow_mono 256 (by decide) h7
    refine Ev.step (fun k => by rw [impl_ReadFix.l0]) ?_
    refine ev_neg (by omega) (ev_neg (by omega) (ev_eq ?_))
    rw [if_pos (by omega)]
  | d + 1, i, hi, h7 => by
    have hbr := bt_range b ((a + i : Nat) : Int)
    have e1 : wrap64 ((a : Int) + i) = ((a + i : Nat) : Int) := by rw [w64 (by omega) (by omega)]; omega
    have hr := le_range (seg b a i) (seg_range _ _ _)
    have hl := seg_length b a i (by omega)
    rw [hl] at hr
    have hp : (256 : Int) ^ i = 2 ^ (8 * i) := by rw [Int.pow_mul]; rfl
    have hs : le (seg b a (i + 1)) = le (seg b a i) + bt b ((a + i : Nat) : Int) * 256 ^ i := by rw [seg_snoc b a i (by omega), le_snoc, hl]
    refine Ev.step (fun k => by rw [impl_ReadFix.l0]) ?_
    refine ev_pos (by omega) ?_
    rw [e1, w64 (x := bt b ((a + i : Nat) : Int)) (by omega) (by omega), w64 (x := 8 * (i : Int)) (by omega) (by omega), w64 (x := (i : Int) + 1) (by omega) (by omega)]
    refine ev_pos (by omega) (ev_pos (by omega) (ev_pos (by omega) ?_))
    by_cases h6 : i ≤ 6
    · rw [hp] at hr hs
      have h48 : (2 : Int) ^ (8 * i) ≤ 2 ^ 48 := by exact_mod_cast Nat.pow_le_pow_right (by decide : 0 < 2) (by omega : 8 * i ≤ 48)
      rw [shl8 _ i h6 (by omega) (by omega), or_low (8 * i) _ _ hr.1 hr.2 (by omega) (by
        have h4 : bt b ((a + i : Nat) : Int) * 2 ^ (8 * i) ≤ 255 * 2 ^ 48 := Int.mul_le_mul (by omega) h48 (Int.pow_nonneg (by decide)) (by decide)
        omega) (by omega), ← hs]
      have := impl_ReadFix_loop b hb a w hw ha d (i + 1) (by omega) (by omega)
      rw [Int.natCast_add] at this
      exact this
    · obtain rfl : i = 7 := by omega
      obtain rfl : w = 8 := by omega
      have h56 : (256 : Int) ^ 7 = 2 ^ 56 := by decide
      rw [h56] at hr hs
      rw [show (8 * ((7 : Nat) : Int)) = 56 by rfl, or_top _ _ hr.1 hr.2 hbr.1 (by omega)]
      refine Ev.step (fun k => by rw [impl_ReadFix.l0]) ?_
      refine ev_neg (by omega) ?_
      by_cases h128 : bt b ((a + 7 : Nat) : Int) < 128
      · rw [if_pos h128]
        refine ev_neg (by omega) (ev_eq ?_)
        rw [hs, if_pos (by omega)]
      · rw [if_neg h128]
        refine ev_pos (by omega) (ev_eq ?_)
        rw [hs, if_neg (by omega)]
theorem impl_ReadFix_ev (b : ByteArray) (hb : b.size ≤ 140737488355328) (a w : Int) : Ev (fun k => impl_ReadFix.f k b a w) (rfix b a w) := by
  unfold impl_ReadFix.f rfix
  refine ev_now (impl_In _ _ _) (ev_ite (fun h => ?_) (fun h => Ev.step (fun k => by rw [impl_ReadFix.j0]) (ev_pos rfl (ev_eq ?_))))
  · have h' := of_decide_eq_true h
    rw [w64 (x := (b.size : Int) - w) (by omega) (by omega)]
    refine ev_now (impl_In _ _ _) (Ev.step (fun k => by rw [impl_ReadFix.j0]) ?_)
    by_cases h1 : 0 ≤ a ∧ a ≤ (b.size : Int) - w
    · refine ev_neg (bnf h1) ?_
      rw [if_pos ⟨h', h1⟩]
      have := impl_ReadFix_loop b hb a.toNat w.toNat (by omega) (by omega) w.toNat 0 (by omega) (by omega)
      rw [show ((a.toNat : Nat) : Int) = a by omega, show ((w.toNat : Nat) : Int) = w by omega] at this
      exact this
    · refine ev_pos (bnt h1) (ev_eq ?_)
      rw [if_neg (fun x => h1 x.2)]
  · have h' := nd h
    rw [if_neg (fun x => h' x.1)]

theorem le_top (b : ByteArray) (a w : Nat) (ha : a + w ≤ b.size) (i : Nat) (hi : i ≤ w) : le (seg b (a + i) (w - i)) ≤ le (seg b a w) := by
  induction i with
  | zero => exact Int.le_refl _
  | succ i ih =>
    have h1 := ih (by omega)
    have e : w - i = (w - (i + 1)) + 1 := by omega
    rw [e, seg_cons b (a + i) (w - (i + 1)) (by omega)] at h1
    have hbr := bt_range b ((a + i : Nat) : Int)
    have hr := le_range (seg b (a + i + 1) (w - (i + 1))) (seg_range _ _ _)
    simp only [le] at h1
    rw [show a + (i + 1) = a + i + 1 by omega]
    omega
theorem spec_ReadFix_loop (b : ByteArray) (hb : b.size ≤ 140737488355328) (a w : Nat) (hw : w ≤ 8) (ha : a + w ≤ b.size) (hlt : le (seg b a w) < 2 ^ 63) : ∀ (i : Nat) (j : Int), j = (i : Int) - 1 → i ≤ w →
    Ev (fun k => spec_ReadFix.l0 k b a (le (seg b (a + i) (w - i))) j) (le (seg b a w), true)
  | 0, j, hj, hi => by
    refine Ev.step (fun k => by rw [spec_ReadFix.l0]) ?_
    refine ev_neg (by omega) (ev_eq rfl)
  | i + 1, j, hj, hi => by
    obtain rfl : j = (i : Int) := by omega
    have hbr := bt_range b ((a + i : Nat) : Int)
    have e1 : wrap64 ((a : Int) + i) = ((a + i : Nat) : Int) := by rw [w64 (by omega) (by omega)]; omega
    have hr := le_range (seg b (a + (i + 1)) (w - (i + 1))) (seg_range _ _ _)
    have ht := le_top b a w ha i (by omega)
    have e : w - i = (w - (i + 1)) + 1 := by omega
    have e2 : le (seg b (a + i) (w - i)) = bt b ((a + i : Nat) : Int) + 256 * le (seg b (a + (i + 1)) (w - (i + 1))) := by
      rw [e, seg_cons b (a + i) (w - (i + 1)) (by omega)]
      rfl
    refine Ev.step (fun k => by rw [spec_ReadFix.l0]) ?_
    refine ev_pos (by omega) ?_
    rw [e1, w64 (x := bt b ((a + i : Nat) : Int)) (by omega) (by omega), w64 (x := le (seg b (a + (i + 1)) (w - (i + 1))) * 256) (by omega) (by omega), w64 (x := (i : Int) - 1) (by omega) (by omega),
      or_high _ _ hr.1 hbr.1 (by omega) (by omega)]
    refine ev_pos (by omega) (ev_pos (by omega) ?_)
    have := spec_ReadFix_loop b hb a w hw ha hlt i _ rfl (by omega)
    rw [e2, Int.add_comm, Int.mul_comm 256] at this
    exact this
theorem spec_ReadFix_ev (b : ByteArray) (hb : b.size ≤ 140737488355328) (a w : Int) : Ev (fun k => spec_ReadFix.f k b a w) (rfix b a w) := by
  unfold spec_ReadFix.f rfix
  refine ev_now (spec_In _ _ _) (ev_ite (fun h => ?_) (fun h => Ev.step (fun k => by rw [spec_ReadFix.j0]) (ev_pos rfl (ev_eq ?_))))
  · have h' := of_decide_eq_true h
    rw [w64 (x := (b.size : Int) - w) (by omega) (by omega)]
    refine ev_now (spec_In _ _ _) (Ev.step (fun k => by rw [spec_ReadFix.j0]) ?_)
    by_cases h1 : 0 ≤ a ∧ a ≤ (b.size : Int) - w
    · refine ev_neg (bnf h1) ?_
      rw [if_pos ⟨h', h1⟩]
      have loop : le (seg b a.toNat w.toNat) < 2 ^ 63 → Ev (fun k => spec_ReadFix.l0 k b a 0 (wrap64 (w - 1))) (le (seg b a.toNat w.toNat), true) := by
        intro hlt
        have := spec_ReadFix_loop b hb a.toNat w.toNat (by omega) (by omega) hlt w.toNat _ rfl (Nat.le_refl _)
        rw [Nat.sub_self, show ((a.toNat : Nat) : Int) = a by omega, show ((w.toNat : Nat) : Int) = w by omega] at this
        rw [w64 (by omega) (by omega)]
        exact this
      have hr := le_range (seg b a.toNat w.toNat) (seg_range _ _ _)
      rw [seg_length b a.toNat w.toNat (by omega)] at hr
      refine ev_ite (fun h8 => ?_) (fun h8 => ?_)
      · subst h8
        have hbr := bt_range b ((a.toNat + 7 : Nat) : Int)
        have e7 : wrap64 (a + 7) = ((a.toNat + 7 : Nat) : Int) := by rw [w64 (by omega) (by omega)]; omega
        have hs : le (seg b a.toNat (8 : Int).toNat) = le (seg b a.toNat 7) + bt b ((a.toNat + 7 : Nat) : Int) * 256 ^ 7 := by
          rw [show (8 : Int).toNat = 7 + 1 by decide, seg_snoc b a.toNat 7 (by omega), le_snoc, seg_length b a.toNat 7 (by omega)]
        have hr7 := le_range (seg b a.toNat 7) (seg_range _ _ _)
        rw [seg_length b a.toNat 7 (by omega)] at hr7
        have h56 : (256 : Int) ^ 7 = 2 ^ 56 := by decide
        rw [h56] at hs hr7
        rw [e7]
        refine ev_pos (by omega) (ev_pos (by omega) (Ev.step (fun k => by rw [spec_ReadFix.j1]) (ev_ite (fun h9 => ev_eq ?_) (fun h9 => ?_))))
        · have := of_decide_eq_true h9
          rw [if_neg (by omega)]
        · have := nd h9
          rw [if_pos (by omega)]
          exact loop (by omega)
      · have h256 : (256 : Int) ^ w.toNat ≤ 256 ^ 7 := pow_mono 256 (by decide) (by omega : w.toNat ≤ 7)
        rw [if_pos (by omega)]
        exact Ev.step (fun k => by rw [spec_ReadFix.j1]) (ev_neg (by decide) (loop (by omega)))
    · refine ev_pos (bnt h1) (ev_eq ?_)
      rw [if_neg (fun x => h1 x.2)]
  · have h' := nd h
    rw [if_neg (fun x => h' x.1)]

theorem spec_HeadOk_eq (v s b l : Int) : spec_HeadOk.f v s b l = some (decide (headOk v s b l)) := by
  unfold spec_HeadOk.f headOk verOk numOk
  rw [spec_In, spec_In, spec_In, spec_In]
  by_cases h1 : 1 ≤ v ∧ v ≤ 2
  · have h1' : v = 1 ∨ v = 2 := by omega
    by_cases h2 : 1 ≤ s ∧ s ≤ 20
    · by_cases h3 : 0 ≤ b ∧ b ≤ 1000000000 <;> simp [h1, h1', h2, h3]
    · simp [h1, h2]
  · have h1' : ¬ (v = 1 ∨ v = 2) := by omega
    simp [h1, h1']

theorem impl_HeadOk_eq (v s b l : Int) : impl_HeadOk.f v s b l = some (decide (headOk v s b l)) := by
  unfold impl_HeadOk.f headOk
  rw [impl_Ver, impl_In, impl_Num, impl_In]
  by_cases h1 : verOk v
  · by_cases h2 : 1 ≤ s ∧ s ≤ 20
    · by_cases h3 : numOk b <;> simp [h1, h2, h3]
    · simp [h1, h2]
  · simp [h1]

theorem spec_HeadText_ev (v s b l : Int) : Ev (fun k => spec_HeadText.f k v s b l) (headT v s b l) := by
  unfold spec_HeadText.f headT
  have h1 := fixT_le v 1
  have h2 := fixT_le s 1
  have h3 := fixT_le b 8
  have h4 := fixT_le l 4
  have h5 := hdBody_le v s b l
  have h6 := fixT_le (sumOf (hdBody v s b l)) 4
  have z4 : (⟨#[83, 69, 71, 77]⟩ : ByteArray).size = 4 := rfl
  have z2 : (⟨#[0, 0]⟩ : ByteArray).size = 2 := rfl
  refine ev_now (spec_HeadOk_eq v s b l) (ev_ite (fun h => ?_) (fun h => ev_eq (by rw [if_neg (nd h)])))
  rw [if_pos (of_decide_eq_true h)]
  refine Ev.bind (spec_Fix v 1) (ev_pos (by omega) (Ev.bind (spec_Fix s 1) (ev_pos (by simp only [ByteArray.size_append]; omega) (ev_pos (by simp only [ByteArray.size_append]; omega) (Ev.bind (spec_Fix b 8) (ev_pos (by simp only [ByteArray.size_append]; omega)
    (Ev.bind (spec_Fix l 4) (ev_pos (by simp only [ByteArray.size_append]; omega) ?_))))))))
  refine Ev.bind (spec_SumOf_ev (hdBody v s b l) (by omega)) (Ev.bind (spec_Fix _ 4) (ev_pos ?_ (Ev.now _)))
  show (hdBody v s b l).size + _ ≤ _
  omega

theorem impl_HeadText_ev (v s b l : Int) (hv : v ≤ 9223372036854775807) (hs : s ≤ 9223372036854775807) (hb : b ≤ 9223372036854775807) (hl : l ≤ 9223372036854775807) : Ev (fun k => impl_HeadText.f k v s b l) (headT v s b l) := by
  unfold impl_HeadText.f headT
  have h1 := fixT_le v 1
  have h2 := fixT_le s 1
  have h3 := fixT_le b 8
  have h4 := fixT_le l 4
  have h5 := hdBody_le v s b l
  have h6 := fixT_le (sumOf (hdBody v s b l)) 4
  have z4 : (⟨#[83, 69, 71, 77]⟩ : ByteArray).size = 4 := rfl
  have z2 : (⟨#[0, 0]⟩ : ByteArray).size = 2 := rfl
  have e0 : Ev (fun k => impl_FixText.f k 0 2) (⟨#[0, 0]⟩ : ByteArray) := fixT0 ▸ impl_Fix 0 2 (by decide)
  refine ev_now (impl_HeadOk_eq v s b l) (ev_ite (fun h => ?_) (fun h => ev_eq (by rw [if_neg (nd h)])))
  rw [if_pos (of_decide_eq_true h)]
  refine Ev.bind (impl_Fix v 1 hv) (ev_pos (by omega) (Ev.bind (impl_Fix s 1 hs) (ev_pos (by simp only [ByteArray.size_append]; omega) (Ev.bind e0 (ev_pos (by simp only [ByteArray.size_append]; omega) (Ev.bind (impl_Fix b 8 hb) (ev_pos (by simp only [ByteArray.size_append]; omega)
    (Ev.bind (impl_Fix l 4 hl) (ev_pos (by simp only [ByteArray.size_append]; omega) ?_)))))))))
  have h7 := sumMore_range 0 (hdBody v s b l)
  refine Ev.bind (impl_SumOf_ev (hdBody v s b l) (by omega)) (Ev.bind (impl_Fix (sumOf (hdBody v s b l)) 4 (by unfold sumOf; omega)) (ev_pos ?_ (Ev.now _)))
  show (hdBody v s b l).size + _ ≤ _
  omega

theorem spec_ReadHead_ev (b : ByteArray) (hb : b.size ≤ 140737488355328) : Ev (fun k => spec_ReadHead.f k b) (rHead b) := by
  unfold spec_ReadHead.f rHead
  have r1 := rfix_range b 8 8
  have r2 := rfix_range b 16 4
  have b4 := bt_range b 4
  have b5 := bt_range b 5
  refine ev_ite (fun h => ev_eq (by rw [if_pos (by omega)])) (fun h => ?_)
  rw [if_neg (by omega), w64 (x := bt b 4) (by omega) (by omega), w64 (x := bt b 5) (by omega) (by omega)]
  refine Ev.bind (spec_ReadFix_ev b hb 8 8) (Ev.bind (spec_ReadFix_ev b hb 16 4) (ev_pos (by omega) (ev_pos (by omega) (ev_ite (fun h1 => ?_) (fun h1 => ev_eq (by rw [if_neg (fun x => h1 x.1)]))))))
  refine Ev.bind (spec_HeadText_ev (bt b 4) (bt b 5) (rfix b 8 8).1 (rfix b 16 4).1) (ev_pos (by decide) (ev_pos (by omega) (ev_ite (fun h2 => ev_eq ?_) (fun h2 => ev_eq ?_))))
  · rw [toList_eq_iff] at h2
    rw [if_pos ⟨h1, h2⟩]
  · rw [toList_eq_iff] at h2
    rw [if_neg (fun x => h2 x.2)]

theorem impl_ReadHead_ev (b : ByteArray) (hb : b.size ≤ 140737488355328) : Ev (fun k => impl_ReadHead.f k b) (rHead b) := by
  unfold impl_ReadHead.f rHead
  have r1 := rfix_range b 8 8
  have r2 := rfix_range b 16 4
  have b4 := bt_range b 4
  have b5 := bt_range b 5
  refine ev_ite (fun h => ev_eq (by rw [if_pos (by omega)])) (fun h => ?_)
  rw [if_neg (by omega), w64 (x := bt b 4) (by omega) (by omega), w64 (x := bt b 5) (by omega) (by omega)]
  refine Ev.bind (impl_ReadFix_ev b hb 8 8) (Ev.bind (impl_ReadFix_ev b hb 16 4) (ev_pos (by omega) (ev_pos (by omega) (ev_ite (fun h1 => ?_) (fun h1 => ev_eq (by rw [if_neg (fun x => h1 x.1)]))))))
  refine Ev.bind (impl_HeadText_ev (bt b 4) (bt b 5) (rfix b 8 8).1 (rfix b 16 4).1 (by omega) (by omega) (by omega) (by omega)) (ev_pos (by decide) (ev_pos (by omega) (ev_ite (fun h2 => ev_eq ?_) (fun h2 => ev_eq ?_))))
  · rw [toList_eq_iff] at h2
    rw [if_pos ⟨h1, h2⟩]
  · rw [toList_eq_iff] at h2
    rw [if_neg (fun x => h2 x.2)]

theorem spec_GoesOn_ev (b : ByteArray) (base link : Int) (hb : b.size ≤ 140737488355328) : Ev (fun k => spec_GoesOn.f k b base link) (decide ((rHead b).2.2.2.2 = true ∧ (rHead b).2.2.1 = base ∧ (rHead b).2.2.2.1 = link)) := by
  unfold spec_GoesOn.f
  refine Ev.bind (spec_ReadHead_ev b hb) (ev_ite (fun h1 => ev_ite (fun h2 => ev_eq ?_) (fun h2 => ev_eq ?_)) (fun h1 => ev_eq ?_))
  · rw [Bool.eq_iff_iff, beq_iff_eq, decide_eq_true_iff]
    exact ⟨fun h => ⟨h1, h2, h⟩, fun h => h.2.2⟩
  · rw [eq_comm, decide_eq_false_iff_not]
    exact fun h => h2 h.2.1
  · rw [eq_comm, decide_eq_false_iff_not]
    exact fun h => h1 h.1

theorem impl_GoesOn_ev (b : ByteArray) (base link : Int) (hb : b.size ≤ 140737488355328) : Ev (fun k => impl_GoesOn.f k b base link) (decide ((rHead b).2.2.2.2 = true ∧ (rHead b).2.2.1 = base ∧ (rHead b).2.2.2.1 = link)) := by
  unfold impl_GoesOn.f
  refine Ev.bind (impl_ReadHead_ev b hb) (ev_ite (fun h1 => ev_ite (fun h2 => ev_eq ?_) (fun h2 => ev_eq ?_)) (fun h1 => ev_eq ?_))
  · rw [Bool.eq_iff_iff, beq_iff_eq, decide_eq_true_iff]
    exact ⟨fun h => ⟨h1, h2, h⟩, fun h => h.2.2⟩
  · rw [eq_comm, decide_eq_false_iff_not]
    exact fun h => h2 h.2.1
  · rw [eq_comm, decide_eq_false_iff_not]
    exact fun h => h1 h.1

theorem FnExactGoesOn : laws_FnExactGoesOn.Pure := by
  intro b base link hb _ _
  refine Ev.rounds ?_
  unfold laws_FnExactGoesOn.f
  refine ev_ite (fun _ => Ev.now _) (fun _ => ?_)
  exact Ev.bind (spec_GoesOn_ev b base link (by omega)) (Ev.bind (impl_GoesOn_ev b base link (by omega)) (ev_neg (by simp) (Ev.now _)))

end Go.Proofs.Ytkkendhkiopnbaa.Pure
