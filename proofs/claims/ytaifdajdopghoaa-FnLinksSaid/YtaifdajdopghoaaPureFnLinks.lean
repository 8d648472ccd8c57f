/- The link of all records is that of those ahead, and then of the others, for every draw. -/
import Derived.Test.YtaifdajdopghoaaQFnLinksx3
import Derived.Test.YtaifdajdopghoaaMath
namespace Go.Proofs.Ytaifdajdopghoaa.Pure
open Go.RowKit Go.Proofs.Ytaifdajdopghoaa.QFnLinks Go.Proofs.YtaifdajdopghoaaW.PrintWords Go.Proofs.YtaifdajdopghoaaW.PrintLast Go.Proofs.YtaifdajdopghoaaW.PrintMore Go.Proofs.Ytaifdajdopghoaa.Mth
set_option linter.unusedVariables false
set_option linter.unusedSimpArgs false

theorem spec_In (a b c : Int) : spec_l01In.f a b c = some (decide (b ≤ a ∧ a ≤ c)) := by
  unfold spec_l01In.f
  by_cases h : a ≥ b <;> simp [h]

theorem impl_In (a b c : Int) : impl_within.f a b c = some (decide (b ≤ a ∧ a ≤ c)) := by
  unfold impl_within.f
  by_cases h : a ≥ b <;> simp [h]

theorem spec_Fix_loop (w : Int) (hw : w ≤ 8) : ∀ (d : Nat) (n : Int) (acc : List Int) (i : Int), i = w - d → 0 ≤ i → acc.length = i.toNat →
    Ev (fun k => spec_FixText.l0 k n w acc i) (if n / 256 ^ d > 0 then ⟨#[]⟩ else strOfNums (acc ++ fixL d n))
  | 0, n, acc, i, hi, h0, hl => by
    refine Ev.step (fun k => by rw [spec_FixText.l0]) ?_
    refine ev_neg (by omega) ?_
    have e : n / 256 ^ 0 = n := by simp
    rw [e]
    refine ev_ite (fun h => ev_eq (by rw [if_pos h])) (fun h => ev_eq (by rw [if_neg h]; simp [fixL]))
  | d + 1, n, acc, i, hi, h0, hl => by
    refine Ev.step (fun k => by rw [spec_FixText.l0]) ?_
    refine ev_pos (by omega) (ev_pos (by omega) ?_)
    rw [w64 (by omega) (by omega)]
    have := spec_Fix_loop w hw d (n / 256) (acc ++ [n % 256]) (i + 1) (by omega) (by omega) (by simp; omega)
    rw [div_div, List.append_assoc] at this
    exact this
theorem spec_Fix (n w : Int) : Ev (fun k => spec_FixText.f k n w) (fixT n w) := by
  unfold spec_FixText.f fixT
  refine ev_ite (fun h => ?_) (fun h => ?_)
  · rw [if_pos (.inl h)]
    refine Ev.step (fun k => by rw [spec_FixText.j0]) ?_
    exact ev_pos rfl (ev_eq rfl)
  · refine ev_now (spec_In _ _ _) ?_
    refine Ev.step (fun k => by rw [spec_FixText.j0]) ?_
    by_cases hw : 1 ≤ w ∧ w ≤ 8
    · refine ev_neg (by simp [hw]) ?_
      have := spec_Fix_loop w hw.2 w.toNat n [] 0 (by omega) (by omega) rfl
      refine ev_cast ?_ this
      by_cases hb : n / 256 ^ w.toNat > 0
      · rw [if_pos hb, if_pos (by simp [hb])]
      · rw [if_neg hb, if_neg (by simp only [not_or]; exact ⟨h, by omega, by omega, hb⟩)]
        rfl
    · refine ev_pos (by simp [hw]) (ev_eq ?_)
      rw [if_pos (by omega)]

theorem shr_pow (n : Int) (d : Nat) (h : d ≤ 8) : shr .i64 n (8 * (d : Int)) = n / 256 ^ d := by
  unfold shr
  rw [show (8 * (d : Int)).toNat = 8 * d by omega, show IntKind.bits .i64 = 64 from rfl, Nat.min_eq_left (by omega), Int.pow_mul]
  rfl
theorem impl_Fix_loop (w : Nat) (hw : w ≤ 8) (n : Int) : ∀ (d i : Nat), i + d = w →
    Ev (fun k => impl_FixText.l0 k n (fixL i n ++ List.replicate d 0) (w : Int) (i : Int)) (strOfNums (fixL w n))
  | 0, i, h => by
    obtain rfl : i = w := by omega
    refine Ev.step (fun k => by rw [impl_FixText.l0]) ?_
    refine ev_neg (by omega) (ev_eq (by simp))
  | d + 1, i, h => by
    refine Ev.step (fun k => by rw [impl_FixText.l0]) ?_
    have e : wrap64 (8 * (i : Int)) = 8 * (i : Int) := w64 (by omega) (by omega)
    refine ev_pos (by omega) (ev_pos (by omega) (ev_pos (by omega) (ev_pos (by simp [fixL_length]; omega) ?_)))
    rw [e, shr_pow n i (by omega), w64 (by omega) (by omega)]
    have := impl_Fix_loop w hw n d (i + 1) (by omega)
    rw [fixL_snoc] at this
    have e2 : (fixL i n ++ List.replicate (d + 1) 0).set ((i : Int).toNat) (n / 256 ^ i % 256) = fixL i n ++ [n / 256 ^ i % 256] ++ List.replicate d 0 := by
      rw [Int.toNat_natCast, List.set_append_right _ _ (by rw [fixL_length]; omega), fixL_length, Nat.sub_self, List.replicate_succ]
      simp
    rw [e2]
    exact this
theorem impl_Fix (n w : Int) (hn : n ≤ 9223372036854775807) : Ev (fun k => impl_FixText.f k n w) (fixT n w) := by
  unfold impl_FixText.f fixT
  have go : ∀ b : Bool, 1 ≤ w → w ≤ 8 → Ev (fun k => impl_FixText.j0 k n w b) (if b = true then ⟨#[]⟩ else strOfNums (fixL w.toNat n)) := by
    intro b h1 h2
    refine Ev.step (fun k => by rw [impl_FixText.j0]) ?_
    refine ev_ite (fun h => ev_eq (by rw [if_pos h])) (fun h => ?_)
    rw [if_neg h]
    refine ev_pos (by omega) (ev_pos (by omega) (ev_now rfl ?_))
    have := impl_Fix_loop w.toNat (by omega) n w.toNat 0 (by omega)
    rw [show fixL 0 n = [] from rfl, List.nil_append, show ((w.toNat : Nat) : Int) = w by omega] at this
    rw [List.length_replicate, show ((w.toNat : Nat) : Int) = w by omega]
    exact this
  refine ev_ite (fun h => ?_) (fun h => ?_)
  · rw [if_pos (.inl h)]
    refine Ev.step (fun k => by rw [impl_FixText.j0]) ?_
    exact ev_pos rfl (ev_eq rfl)
  · refine ev_now (impl_In _ _ _) ?_
    by_cases hw : 1 ≤ w ∧ w ≤ 8
    · refine ev_pos (by simp [hw]) ?_
      refine ev_ite (fun h8 => ?_) (fun h8 => ?_)
      · have e : wrap64 (8 * w) = 8 * ((w.toNat : Nat) : Int) := by rw [w64 (by omega) (by omega)]; omega
        rw [e, shr_pow n w.toNat (by omega)]
        refine ev_pos (by omega) (ev_cast ?_ (go _ hw.1 hw.2))
        have hnn : 0 ≤ n / 256 ^ w.toNat := Int.ediv_nonneg (by omega) (Int.pow_nonneg (by decide))
        by_cases hb : n / 256 ^ w.toNat > 0
        · rw [if_pos (by simp; omega), if_pos (by simp [hb])]
        · have hz : n / 256 ^ w.toNat = 0 := by omega
          rw [if_neg (by simp [hz]), if_neg (by simp only [not_or]; exact ⟨h, by omega, by omega, hb⟩)]
      · refine ev_cast ?_ (go _ hw.1 hw.2)
        obtain rfl : w = 8 := by omega
        have hz : n / 256 ^ (8 : Int).toNat = 0 := by
          rw [show (256 : Int) ^ (8 : Int).toNat = 18446744073709551616 by decide]
          omega
        rw [if_neg (by simp), if_neg (by simp only [not_or]; exact ⟨h, by omega, by omega, by omega⟩)]
    · refine ev_neg (by simp [hw]) ?_
      refine Ev.step (fun k => by rw [impl_FixText.j0]) ?_
      refine ev_pos rfl (ev_eq ?_)
      rw [if_pos (by omega)]

theorem spec_SumByte_loop : ∀ (d n : Nat) (i : Int), d ≤ 8 → n < 4294967296 → i = 8 - d → Ev (fun k => spec_SumByte.l0 k n i) ((stps d n : Nat) : Int)
  | 0, n, i, h9, hn, hi => by
    refine Ev.step (fun k => by rw [spec_SumByte.l0]) ?_
    exact ev_neg (by omega) (ev_eq rfl)
  | d + 1, n, i, h9, hn, hi => by
    refine Ev.step (fun k => by rw [spec_SumByte.l0]) ?_
    by_cases h8 : i < 8
    · refine ev_pos h8 ?_
      have hh : (n : Int) / 2 = ((n / 2 : Nat) : Int) := by omega
      rw [and_1, hh, w64 (by omega) (by omega), show (2197175160 : Int) = ((2197175160 : Nat) : Int) from rfl, xor64 _ _ (by omega) (by decide)]
      have hs := spec_SumByte_loop d (stp n) (i + 1) (by omega) (stp_lt hn) (by omega)
      refine ev_ite (fun h => ?_) (fun h => ?_)
      · rw [show stp n = (n / 2) ^^^ 2197175160 by unfold stp; rw [if_pos (by omega)]] at hs
        refine ev_cast ?_ hs
        show _ = ((stps d (stp n) : Nat) : Int)
        rw [show stp n = (n / 2) ^^^ 2197175160 by unfold stp; rw [if_pos (by omega)]]
      · rw [show stp n = n / 2 by unfold stp; rw [if_neg (by omega)]] at hs
        refine ev_cast ?_ hs
        show _ = ((stps d (stp n) : Nat) : Int)
        rw [show stp n = n / 2 by unfold stp; rw [if_neg (by omega)]]
    · exact absurd (by omega) h8
theorem spec_SumByte_ev (s b : Nat) (hs : s < 4294967296) (hb : b < 256) : Ev (fun k => spec_SumByte.f k s b) ((sb s b : Nat) : Int) := by
  unfold spec_SumByte.f
  rw [and_all, and_255, show (s : Int) % 4294967296 = s by omega, show (b : Int) % 256 = b by omega, xor64 _ _ hs (by omega)]
  exact spec_SumByte_loop 8 _ 0 (Nat.le_refl _) (xlt hs (by omega)) (by omega)
theorem spec_SumMore_loop (t : ByteArray) (ht : t.size ≤ 9223372036854775806) : ∀ (d i s : Nat), i + d = t.size → s < 4294967296 →
    Ev (fun k => spec_SumMore.l0 k t s i) ((sm s ((bl t).drop i) ^^^ 4294967295 : Nat) : Int)
  | 0, i, s, hi, hs => by
    refine Ev.step (fun k => by rw [spec_SumMore.l0]) ?_
    refine ev_neg (by omega) (ev_eq ?_)
    rw [show (4294967295 : Int) = ((4294967295 : Nat) : Int) from rfl, xor64 _ _ hs (by decide), List.drop_of_length_le (by rw [bl_length]; omega)]
    rfl
  | d + 1, i, s, hi, hs => by
    refine Ev.step (fun k => by rw [spec_SumMore.l0]) ?_
    refine ev_pos (by omega) (ev_pos (by omega) ?_)
    have hb := bl_getD_lt t i
    rw [bt_bl t i (by omega), w64 (by omega) (by omega), w64 (by omega) (by omega), bl_drop t i (by omega)]
    refine Ev.bind (spec_SumByte_ev s _ hs hb) ?_
    have := spec_SumMore_loop t ht d (i + 1) (sb s ((bl t).getD i 0)) (by omega) (sb_lt hs (by omega))
    rw [Int.natCast_add] at this
    exact this
theorem spec_SumMore_ev (s : Int) (t : ByteArray) (ht : t.size ≤ 9223372036854775806) : Ev (fun k => spec_SumMore.f k s t) (sumMore s t) := by
  unfold spec_SumMore.f
  have h0 : (s % 4294967296).toNat < 4294967296 := by omega
  rw [and_all, show s % 4294967296 = (((s % 4294967296).toNat : Nat) : Int) by omega, show (4294967295 : Int) = ((4294967295 : Nat) : Int) from rfl, xor64 _ _ h0 (by decide)]
  exact spec_SumMore_loop t ht t.size 0 _ (by omega) (xlt h0 (by decide))
theorem spec_SumOf_ev (t : ByteArray) (ht : t.size ≤ 9223372036854775806) : Ev (fun k => spec_SumOf.f k t) (sumOf t) := by
  unfold spec_SumOf.f
  exact Ev.bind (spec_SumMore_ev 0 t ht) (Ev.now _)

theorem impl_sumByte_loop : ∀ (d n : Nat) (i : Int), d ≤ 8 → n < 4294967296 → i = 8 - d → Ev (fun k => impl_sumByte.l0 k n i) ((stps d n : Nat) : Int)
  | 0, n, i, h9, hn, hi => by
    refine Ev.step (fun k => by rw [impl_sumByte.l0]) ?_
    exact ev_neg (by omega) (ev_eq rfl)
  | d + 1, n, i, h9, hn, hi => by
    refine Ev.step (fun k => by rw [impl_sumByte.l0]) ?_
    refine ev_pos (by omega) ?_
    have hh : (n : Int) / 2 = ((n / 2 : Nat) : Int) := by omega
    rw [and32_1 n hn, hh, w64 (by omega) (by omega), show (2197175160 : Int) = ((2197175160 : Nat) : Int) from rfl, xor32 _ _ (by omega) (by decide)]
    have hs := impl_sumByte_loop d (stp n) (i + 1) (by omega) (stp_lt hn) (by omega)
    refine ev_cast (a := ((stps d (stp n) : Nat) : Int)) rfl ?_
    refine ev_ite (fun h => ?_) (fun h => ?_)
    · rw [show stp n = (n / 2) ^^^ 2197175160 by unfold stp; rw [if_pos (by omega)]] at hs ⊢
      exact hs
    · rw [show stp n = n / 2 by unfold stp; rw [if_neg (by omega)]] at hs ⊢
      exact hs
theorem impl_sumByte_ev (s b : Nat) (hs : s < 4294967296) (hb : b < 256) : Ev (fun k => impl_sumByte.f k s b) ((sb s b : Nat) : Int) := by
  unfold impl_sumByte.f
  rw [show (b : Int) % 4294967296 = b by omega, xor32 _ _ hs (by omega)]
  exact impl_sumByte_loop 8 _ 0 (Nat.le_refl _) (xlt hs (by omega)) (by omega)
theorem impl_SumMore_loop (t : ByteArray) (ht : t.size ≤ 9223372036854775806) : ∀ (d i s : Nat), i + d = t.size → s < 4294967296 →
    Ev (fun k => impl_SumMore.l0 k t s t.size i) ((sm s ((bl t).drop i) ^^^ 4294967295 : Nat) : Int)
  | 0, i, s, hi, hs => by
    refine Ev.step (fun k => by rw [impl_SumMore.l0]) ?_
    refine ev_neg (by omega) (ev_eq ?_)
    have hlt : sm s ((bl t).drop i) ^^^ 4294967295 < 4294967296 := xlt (sm_lt _ hs (fun x hx => bl_lt t x (List.mem_of_mem_drop hx))) (by decide)
    rw [List.drop_of_length_le (by rw [bl_length]; omega)] at hlt ⊢
    rw [show (4294967295 : Int) = ((4294967295 : Nat) : Int) from rfl, xor32 _ _ hs (by decide), w64 (by omega) (by have : s ^^^ 4294967295 < 4294967296 := hlt; omega)]
    rfl
  | d + 1, i, s, hi, hs => by
    refine Ev.step (fun k => by rw [impl_SumMore.l0]) ?_
    refine ev_pos (by omega) (ev_pos (by omega) (ev_pos (by omega) ?_))
    have hb := bl_getD_lt t i
    rw [bt_bl t i (by omega), w64 (by omega) (by omega), bl_drop t i (by omega)]
    refine Ev.bind (impl_sumByte_ev s _ hs hb) ?_
    have := impl_SumMore_loop t ht d (i + 1) (sb s ((bl t).getD i 0)) (by omega) (sb_lt hs (by omega))
    rw [Int.natCast_add] at this
    exact this
theorem impl_SumMore_ev (s : Int) (t : ByteArray) (ht : t.size ≤ 9223372036854775806) : Ev (fun k => impl_SumMore.f k s t) (sumMore s t) := by
  unfold impl_SumMore.f
  have h0 : (s % 4294967296).toNat < 4294967296 := by omega
  rw [show s % 4294967296 = (((s % 4294967296).toNat : Nat) : Int) by omega, show (4294967295 : Int) = ((4294967295 : Nat) : Int) from rfl, xor32 _ _ h0 (by decide)]
  exact impl_SumMore_loop t ht t.size 0 _ (by omega) (xlt h0 (by decide))

theorem byte_evp (c : List Int) (i h : Int) (hc : Cu c i) : EvP (fun _ => spec_l01Byte.f c i h) (fun t => 0 ≤ t.1 ∧ t.1 ≤ 255 ∧ Cu c t.2.1) := by
  unfold spec_l01Byte.f
  unfold Cu at hc ⊢
  refine EvP.ite (fun h1 => EvP.pos hc.1 (EvP.now ?_)) (fun h1 => EvP.now ?_)
  · simp only [and_255, w64 (x := i + 1) (by omega) (by omega)]
    omega
  · simp only [and_255]
    omega
theorem below_evp (c : List Int) (i h n : Int) (hc : Cu c i) (hn : n ≤ 4294967296) : EvP (fun _ => spec_l01Below.f c i h n) (fun t => 0 ≤ t.1 ∧ (0 < n → t.1 < n) ∧ (n ≤ 0 → t.1 = 0) ∧ Cu c t.2.1) := by
  unfold spec_l01Below.f
  refine EvP.ite (fun h1 => EvP.now ⟨by simp, by omega, by simp, hc⟩) (fun h1 => EvP.ite (fun h2 => ?_) (fun h2 => ?_))
  · refine EvP.bind (byte_evp c i h hc) (fun a ha => EvP.neg (by omega) (EvP.now ?_))
    have e : Int.tmod a.1 n = a.1 % n := Int.tmod_eq_emod_of_nonneg ha.1
    have h3 := Int.emod_nonneg a.1 (b := n) (by omega)
    have h4 := Int.emod_lt_of_pos a.1 (b := n) (by omega)
    simp only [e]
    exact ⟨h3, fun _ => h4, by omega, ha.2.2⟩
  · refine EvP.bind (byte_evp c i h hc) (fun a1 h3 => EvP.bind (byte_evp c _ _ h3.2.2) (fun a2 h4 => EvP.bind (byte_evp c _ _ h4.2.2) (fun a3 h5 => EvP.bind (byte_evp c _ _ h5.2.2) (fun a4 h6 => EvP.neg (by omega) (EvP.now ?_)))))
    rw [w64 (x := a1.1 * 16777216) (by omega) (by omega), w64 (x := a2.1 * 65536) (by omega) (by omega), w64 (x := a1.1 * 16777216 + a2.1 * 65536) (by omega) (by omega), w64 (x := a3.1 * 256) (by omega) (by omega), w64 (x := a1.1 * 16777216 + a2.1 * 65536 + a3.1 * 256) (by omega) (by omega), w64 (x := a1.1 * 16777216 + a2.1 * 65536 + a3.1 * 256 + a4.1) (by omega) (by omega)]
    have e : Int.tmod (a1.1 * 16777216 + a2.1 * 65536 + a3.1 * 256 + a4.1) n = (a1.1 * 16777216 + a2.1 * 65536 + a3.1 * 256 + a4.1) % n := Int.tmod_eq_emod_of_nonneg (by omega)
    have h7 := Int.emod_nonneg (a1.1 * 16777216 + a2.1 * 65536 + a3.1 * 256 + a4.1) (b := n) (by omega)
    have h8 := Int.emod_lt_of_pos (a1.1 * 16777216 + a2.1 * 65536 + a3.1 * 256 + a4.1) (b := n) (by omega)
    simp only [e]
    exact ⟨h7, fun _ => h8, by omega, h6.2.2⟩

theorem new_evp_loop (c : List Int) (hl : c.length ≤ 1048576) : ∀ (d i : Nat) (h : Int), i + d = c.length → EvP (fun k => spec_l01New.l0 k c h i) (fun t => t.1 = c ∧ t.2.1 = 0)
  | 0, i, h, hi => EvP.step (fun k => by rw [spec_l01New.l0]) (EvP.neg (by omega) (EvP.now ⟨rfl, rfl⟩))
  | d + 1, i, h, hi => by
    refine EvP.step (fun k => by rw [spec_l01New.l0]) (EvP.ite (fun h1 => EvP.ite (fun h2 => EvP.pos (by omega) ?_) (fun h2 => EvP.now ⟨rfl, rfl⟩)) (fun h1 => EvP.now ⟨rfl, rfl⟩))
    rw [w64 (x := (i : Int) + 1) (by omega) (by omega)]
    exact new_evp_loop c hl d (i + 1) _ (by omega)
theorem new_evp (c : List Int) (hl : c.length ≤ 1048576) : EvP (fun k => spec_l01New.f k c) (fun t => t.1 = c ∧ Cu c t.2.1) := by
  unfold spec_l01New.f
  exact (new_evp_loop c hl c.length 0 _ (by omega)).mono (fun t ht => ⟨ht.1, by rw [ht.2]; unfold Cu; omega⟩)

theorem text_evp_loop (c : List Int) (n : Int) (hn : n ≤ 5000) : ∀ (d : Nat) (acc : List Int) (j i h : Int), 0 ≤ j → acc.length = j.toNat → n - j ≤ d → Cu c i →
    EvP (fun k => spec_l01Text.l0 k n acc j c i h) (fun t => t.1.size ≤ max acc.length n.toNat ∧ Cu c t.2.1)
  | 0, acc, j, i, h, hj, hl, hd, hc => EvP.step (fun k => by rw [spec_l01Text.l0]) (EvP.neg (by omega) (EvP.now ⟨by rw [strOfNums_size]; omega, hc⟩))
  | d + 1, acc, j, i, h, hj, hl, hd, hc => by
    refine EvP.step (fun k => by rw [spec_l01Text.l0]) (EvP.ite (fun h1 => ?_) (fun h1 => EvP.now ⟨by rw [strOfNums_size]; omega, hc⟩))
    refine EvP.bind (byte_evp c i h hc) (fun a ha => EvP.pos (by omega) ?_)
    rw [w64 (x := j + 1) (by omega) (by omega)]
    refine (text_evp_loop c n hn d (acc ++ [a.1 % 256]) (j + 1) _ _ (by omega) (by simp; omega) (by omega) ha.2.2).mono (fun t ht => ⟨?_, ht.2⟩)
    have := ht.1
    simp only [List.length_append, List.length_cons, List.length_nil] at this
    omega
theorem text_evp (c : List Int) (i h n : Int) (hc : Cu c i) : EvP (fun k => spec_l01Text.f k c i h n) (fun t => t.1.size ≤ n.toNat ∧ t.1.size ≤ 5000 ∧ Cu c t.2.1) := by
  unfold spec_l01Text.f
  refine EvP.ite (fun h1 => ?_) (fun h1 => ?_)
  · refine EvP.step (fun k => by rw [spec_l01Text.j0]) ?_
    refine (text_evp_loop c 5000 (by decide) 5000 [] 0 i h (by decide) rfl (by decide) hc).mono (fun t ht => ⟨?_, ?_, ht.2⟩)
    · have := ht.1; simp only [List.length_nil] at this; omega
    · have := ht.1; simp only [List.length_nil] at this; omega
  · refine EvP.step (fun k => by rw [spec_l01Text.j0]) ?_
    refine (text_evp_loop c n (by omega) n.toNat [] 0 i h (by decide) rfl (by omega) hc).mono (fun t ht => ⟨?_, ?_, ht.2⟩)
    · have := ht.1; simp only [List.length_nil] at this; omega
    · have := ht.1; simp only [List.length_nil] at this; omega

theorem record_evp (c : List Int) (i h : Int) (hc : Cu c i) : EvP (fun k => spec_l08Record.f k c i h) (fun t => t.1.size ≤ 60 ∧ Cu c t.2.1) := by
  unfold spec_l08Record.f
  refine EvP.bind (below_evp c i h 6 hc (by decide)) (fun a ha => EvP.ite (fun h1 => EvP.now ⟨Nat.zero_le _, ha.2.2.2⟩) (fun h1 => EvP.ite (fun h2 => ?_) (fun h2 => ?_)))
  · refine EvP.bind (below_evp c _ _ 41 ha.2.2.2 (by decide)) (fun b hb => ?_)
    have hb1 := hb.2.1 (by decide)
    rw [w64 (x := 20 + b.1) (by omega) (by omega)]
    exact EvP.bind (text_evp c _ _ _ hb.2.2.2) (fun t ht => EvP.now ⟨Nat.le_trans ht.1 (by omega), ht.2.2⟩)
  · refine EvP.bind (below_evp c _ _ 12 ha.2.2.2 (by decide)) (fun b hb => ?_)
    have hb1 := hb.2.1 (by decide)
    exact EvP.bind (text_evp c _ _ _ hb.2.2.2) (fun t ht => EvP.now ⟨Nat.le_trans ht.1 (by omega), ht.2.2⟩)
theorem records_evp_loop (c : List Int) (n : Int) (h0 : 0 ≤ n) (hn : n ≤ 1000) : ∀ (d : Nat) (acc : List ByteArray) (j i h : Int), 0 ≤ j → acc.length = j.toNat → acc.length ≤ n.toNat + 1 → n + 1 - j ≤ d → Cu c i → (∀ r ∈ acc, r.size ≤ 60) →
    EvP (fun k => spec_l08Records.l0 k n acc j c i h) (fun t => (∀ r ∈ t.1, r.size ≤ 60) ∧ t.1.length ≤ n.toNat + 1 ∧ Cu c t.2.1)
  | 0, acc, j, i, h, hj, hl, hx, hd, hc, hr => by
    refine EvP.step (fun k => by rw [spec_l08Records.l0]) ?_
    rw [w64 (x := n + 1) (by omega) (by omega)]
    refine EvP.bind (below_evp c _ _ (n + 1) hc (by omega)) (fun a ha => EvP.neg (by have := ha.2.1 (by omega); omega) (EvP.now ⟨hr, hx, ha.2.2.2⟩))
  | d + 1, acc, j, i, h, hj, hl, hx, hd, hc, hr => by
    refine EvP.step (fun k => by rw [spec_l08Records.l0]) ?_
    rw [w64 (x := n + 1) (by omega) (by omega)]
    refine EvP.bind (below_evp c _ _ (n + 1) hc (by omega)) (fun a ha => EvP.ite (fun h1 => ?_) (fun h1 => EvP.now ⟨hr, hx, ha.2.2.2⟩))
    have ha1 := ha.2.1 (by omega)
    refine EvP.bind (record_evp c _ _ ha.2.2.2) (fun b hb => EvP.pos (by omega) ?_)
    rw [w64 (x := j + 1) (by omega) (by omega)]
    refine records_evp_loop c n h0 hn d (acc ++ [b.1]) (j + 1) _ _ (by omega) (by simp; omega) (by simp; omega) (by omega) hb.2 ?_
    intro r hmem
    rcases List.mem_append.1 hmem with h2 | h2
    · exact hr r h2
    · rw [List.mem_singleton.1 h2]; exact hb.1
theorem records_evp (c : List Int) (i h n : Int) (h0 : 0 ≤ n) (hn : n ≤ 1000) (hc : Cu c i) : EvP (fun k => spec_l08Records.f k c i h n) (fun t => (∀ r ∈ t.1, r.size ≤ 60) ∧ t.1.length ≤ n.toNat + 1 ∧ Cu c t.2.1) := by
  unfold spec_l08Records.f
  exact records_evp_loop c n h0 hn (n.toNat + 1) [] 0 i h (by decide) rfl (by simp) (by omega) hc (by simp)

theorem pickInt_evp (c : List Int) (i h : Int) (l : List Int) (hc : Cu c i) (h0 : 0 < l.length) (hl : l.length ≤ 1000) : EvP (fun _ => spec_l01PickInt.f c i h l) (fun t => t.1 ∈ l ∧ Cu c t.2.1) := by
  unfold spec_l01PickInt.f
  refine EvP.bind (below_evp c i h l.length hc (by omega)) (fun a ha => ?_)
  have ha1 := ha.2.1 (by omega)
  refine EvP.pos ha.1 (EvP.pos ha1 (EvP.now ⟨?_, ha.2.2.2⟩))
  have := rdOf_mem 0 l a.1.toNat (by omega)
  rw [show ((a.1.toNat : Nat) : Int) = a.1 by omega] at this
  exact this

theorem int02_evp (c : List Int) (i h : Int) (hc : Cu c i) : EvP (fun _ => spec_l02Int.f c i h) (fun t => Cu c t.2.1) := by
  unfold spec_l02Int.f
  refine EvP.bind (below_evp c i h _ hc (by decide)) (fun a ha => EvP.bind (pickInt_evp c _ _ _ ha.2.2.2 (by simp) (by simp)) (fun b hb => EvP.now hb.2))
theorem drawLinkOf_evp (c : List Int) (hl : c.length ≤ 1048576) : EvP (fun k => spec_DrawLinkOf.f k c) (fun t => (∀ r ∈ t, r.size ≤ 60) ∧ t.length ≤ 7) := by
  unfold spec_DrawLinkOf.f
  refine EvP.bind (new_evp c hl) (fun a ha => ?_)
  rw [ha.1]
  exact EvP.bind (records_evp c _ _ 6 (by decide) (by decide) ha.2) (fun b hb => EvP.now ⟨hb.1, hb.2.1⟩)
theorem drawLinkMore_evp (c : List Int) (hl : c.length ≤ 1048576) : EvP (fun k => spec_DrawLinkMore.f k c) (fun t => t.2.size ≤ 60) := by
  unfold spec_DrawLinkMore.f
  refine EvP.bind (new_evp c hl) (fun a ha => ?_)
  rw [ha.1]
  exact EvP.bind (int02_evp c _ _ ha.2) (fun b hb => EvP.bind (record_evp c _ _ hb) (fun r hr => EvP.now hr.1))

theorem impl_LinkMore_ev (l : Int) (r : ByteArray) (hr : r.size ≤ 140737488355328) : Ev (fun k => impl_LinkMore.f k l r) (linkMore l r) := by
  unfold impl_LinkMore.f linkMore
  have h1 := fixT_le r.size 4
  refine Ev.bind (impl_Fix _ 4 (by omega)) (ev_pos (by omega) (Ev.bind (impl_SumMore_ev l _ ?_) (Ev.now _)))
  rw [ByteArray.size_append]; omega
theorem impl_linkAll_loop (xs : List ByteArray) (hx : ∀ r ∈ xs, r.size ≤ 140737488355328) (hl : xs.length ≤ 140737488355328) : ∀ (d i : Nat) (l : Int), i + d = xs.length →
    Ev (fun k => impl_linkAll.l0 k l xs xs.length i) (linkAll l (xs.drop i))
  | 0, i, l, hi => by
    refine Ev.step (fun k => by rw [impl_linkAll.l0]) (ev_neg (by omega) (ev_eq ?_))
    rw [List.drop_of_length_le (by omega)]
    rfl
  | d + 1, i, l, hi => by
    refine Ev.step (fun k => by rw [impl_linkAll.l0]) (ev_pos (by omega) (ev_pos (by omega) (ev_pos (by omega) ?_)))
    rw [rdOf_drop ByteArray.empty xs i (by omega), w64 (by omega) (by omega)]
    refine Ev.bind (impl_LinkMore_ev l _ (hx _ (rdOf_mem _ xs i (by omega)))) ?_
    have := impl_linkAll_loop xs hx hl d (i + 1) (linkMore l (rdOf ByteArray.empty xs i)) (by omega)
    rw [Int.natCast_add] at this
    exact this
theorem impl_linkAll_ev (l : Int) (xs : List ByteArray) (hx : ∀ r ∈ xs, r.size ≤ 140737488355328) (hl : xs.length ≤ 140737488355328) : Ev (fun k => impl_linkAll.f k l xs) (linkAll l xs) := by
  unfold impl_linkAll.f
  exact impl_linkAll_loop xs hx hl xs.length 0 l (by omega)

theorem impl_LinkOf_ev (xs : List ByteArray) (hx : ∀ r ∈ xs, r.size ≤ 140737488355328) (hl : xs.length ≤ 140737488355328) : Ev (fun k => impl_LinkOf.f k xs) (linkAll 0 xs) := by
  unfold impl_LinkOf.f
  exact Ev.bind (impl_linkAll_ev 0 xs hx hl) (Ev.now _)

theorem spec_LinkMore_ev (l : Int) (r : ByteArray) (hr : r.size ≤ 140737488355328) : Ev (fun k => spec_LinkMore.f k l r) (linkMore l r) := by
  unfold spec_LinkMore.f linkMore
  have h1 := fixT_le r.size 4
  refine Ev.bind (spec_Fix _ 4) (ev_pos (by omega) (Ev.bind (spec_SumMore_ev l _ ?_) (Ev.now _)))
  rw [ByteArray.size_append]; omega

theorem links_l1 (xs : List ByteArray) (hx : ∀ r ∈ xs, r.size ≤ 60) (hl : xs.length ≤ 7) (lk : Int) (rc : ByteArray) (hr : rc.size ≤ 60) (n : Int) (hn : n = linkAll 0 xs) :
    ∀ (d i : Nat) (m : Int), i + d = xs.length → linkAll m (xs.drop i) = n → EvP (fun k => laws_FnLinks.l1 k xs lk rc n m i) (· = true)
  | 0, i, m, hi, hm => by
    refine EvP.step (fun k => by rw [laws_FnLinks.l1]) (EvP.neg (by omega) ?_)
    rw [List.drop_of_length_le (by omega)] at hm
    have hm' : m = n := hm
    refine EvP.call (impl_LinkOf_ev xs (fun r h => by have := hx r h; omega) (by omega)) (EvP.pos hn.symm (EvP.pos hm' ?_))
    refine EvP.call (impl_LinkMore_ev lk rc (by omega)) (EvP.call (spec_LinkMore_ev lk rc (by omega)) (EvP.pos rfl ?_))
    refine EvP.call (impl_LinkMore_ev 0 ⟨#[]⟩ (Nat.zero_le _)) (EvP.call (spec_SumOf_ev _ (by decide)) (EvP.now ?_))
    have e : linkMore 0 (⟨#[]⟩ : ByteArray) = sumOf (⟨#[0, 0, 0, 0]⟩ : ByteArray) := by decide +kernel
    rw [e]
    exact beq_self_eq_true _
  | d + 1, i, m, hi, hm => by
    refine EvP.step (fun k => by rw [laws_FnLinks.l1]) (EvP.pos (by omega) (EvP.pos (by omega) ?_))
    rw [rdOf_drop ByteArray.empty xs i (by omega)] at hm
    have h1 := hx _ (rdOf_mem ByteArray.empty xs i (by omega))
    refine EvP.call (impl_LinkMore_ev m _ (by omega)) ?_
    rw [w64 (x := (i : Int) + 1) (by omega) (by omega)]
    exact links_l1 xs hx hl lk rc hr n hn d (i + 1) _ (by omega) hm
theorem links_l0 (xs : List ByteArray) (hx : ∀ r ∈ xs, r.size ≤ 60) (hl : xs.length ≤ 7) (lk : Int) (rc : ByteArray) (hr : rc.size ≤ 60) :
    ∀ (d i : Nat) (n : Int), i + d = xs.length → linkAll n (xs.drop i) = linkAll 0 xs → EvP (fun k => laws_FnLinks.l0 k xs lk rc n i) (· = true)
  | 0, i, n, hi, hn => by
    refine EvP.step (fun k => by rw [laws_FnLinks.l0]) (EvP.neg (by omega) ?_)
    rw [List.drop_of_length_le (by omega)] at hn
    have hn' : n = linkAll 0 xs := hn
    have e : wrap64 ((xs.length : Int) / 2) = ((xs.length / 2 : Nat) : Int) := by rw [w64 (by omega) (by omega)]; omega
    rw [e]
    refine EvP.callc rfl (EvP.pos (by omega) (EvP.pos (by omega) (EvP.callc rfl (EvP.pos (by simp; omega) ?_))))
    rw [List.nil_append, Int.toNat_natCast]
    refine EvP.call (impl_LinkOf_ev (xs.take (xs.length / 2)) (fun r h => by have := hx r (List.mem_of_mem_take h); omega) (by simp; omega)) ?_
    refine links_l1 xs hx hl lk rc hr n hn' (xs.length - xs.length / 2) (xs.length / 2) _ (by omega) ?_
    rw [hn']
    unfold linkAll
    rw [← List.foldl_append, List.take_append_drop]
  | d + 1, i, n, hi, hn => by
    refine EvP.step (fun k => by rw [laws_FnLinks.l0]) (EvP.pos (by omega) (EvP.pos (by omega) ?_))
    rw [rdOf_drop ByteArray.empty xs i (by omega)] at hn
    have h1 := hx _ (rdOf_mem ByteArray.empty xs i (by omega))
    refine EvP.call (impl_LinkMore_ev n _ (by omega)) ?_
    rw [w64 (x := (i : Int) + 1) (by omega) (by omega)]
    exact links_l0 xs hx hl lk rc hr d (i + 1) _ (by omega) hn
theorem FnLinks : laws_FnLinks.Pure := by
  intro c _ _ _
  refine EvP.holds ?_
  unfold laws_FnLinks.f laws_big.f
  refine EvP.callc rfl (EvP.ite (fun _ => EvP.now rfl) (fun h => ?_))
  have hl : c.length ≤ 1048576 := by
    have h' : ¬ ((c.length : Int) > 1048576) := fun x => h (decide_eq_true x)
    omega
  exact EvP.bind (drawLinkOf_evp c hl) (fun xs hx => EvP.bind (drawLinkMore_evp c hl) (fun q hq => links_l0 xs hx.1 hx.2 q.1 q.2 hq xs.length 0 0 (by omega) rfl))

end Go.Proofs.Ytaifdajdopghoaa.Pure
