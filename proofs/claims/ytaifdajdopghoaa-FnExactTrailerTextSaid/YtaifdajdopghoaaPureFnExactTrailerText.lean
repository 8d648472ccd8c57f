/- The program's TrailerText answers as the reference's, for all four numbers. -/
import Derived.Test.YtaifdajdopghoaaQFnExactTrailerTextx1
import Derived.Test.YtaifdajdopghoaaMath
namespace Go.Proofs.Ytaifdajdopghoaa.Pure
open Go.RowKit Go.Proofs.Ytaifdajdopghoaa.QFnExactTrailerText Go.Proofs.YtaifdajdopghoaaW.PrintWords Go.Proofs.YtaifdajdopghoaaW.PrintLast Go.Proofs.YtaifdajdopghoaaW.PrintMore Go.Proofs.Ytaifdajdopghoaa.Mth
set_option linter.unusedVariables false
set_option linter.unusedSimpArgs false

theorem spec_In (a b c : Int) : spec_l01In.f a b c = some (decide (b ≤ a ∧ a ≤ c)) := by
  unfold spec_l01In.f
  by_cases h : a ≥ b <;> simp [h]

theorem impl_In (a b c : Int) : impl_within.f a b c = some (decide (b ≤ a ∧ a ≤ c)) := by
  unfold impl_within.f
  by_cases h : a ≥ b <;> simp [h]

theorem spec_Fix_loop (w : Int) (hw : w ≤ 8) : ∀ (d : Nat) (n : Int) (acc : List Int) (i : Int), i = w - d → 0 ≤ i → acc.length = i.toNat →
    Ev (fun k => spec_FixText.l0 k n w acc i) (if n / 256 ^ d > 0 then ⟨#[]⟩ else strOfNums (acc ++ fixL d n))
  | 0, n, acc, i, hi, h0, hl => by
    refine Ev.step (fun k => by rw [spec_FixText.l0]) ?_
    refine ev_neg (by omega) ?_
    have e : n / 256 ^ 0 = n := by simp
    rw [e]
    refine ev_ite (fun h => ev_eq (by rw [if_pos h])) (fun h => ev_eq (by rw [if_neg h]; simp [fixL]))
  | d + 1, n, acc, i, hi, h0, hl => by
    refine Ev.step (fun k => by rw [spec_FixText.l0]) ?_
    refine ev_pos (by omega) (ev_pos (by omega) ?_)
    rw [w64 (by omega) (by omega)]
    have := spec_Fix_loop w hw d (n / 256) (acc ++ [n % 256]) (i + 1) (by omega) (by omega) (by simp; omega)
    rw [div_div, List.append_assoc] at this
    exact this
theorem spec_Fix (n w : Int) : Ev (fun k => spec_FixText.f k n w) (fixT n w) := by
  unfold spec_FixText.f fixT
  refine ev_ite (fun h => ?_) (fun h => ?_)
  · rw [if_pos (.inl h)]
    refine Ev.step (fun k => by rw [spec_FixText.j0]) ?_
    exact ev_pos rfl (ev_eq rfl)
  · refine ev_now (spec_In _ _ _) ?_
    refine Ev.step (fun k => by rw [spec_FixText.j0]) ?_
    by_cases hw : 1 ≤ w ∧ w ≤ 8
    · refine ev_neg (by simp [hw]) ?_
      have := spec_Fix_loop w hw.2 w.toNat n [] 0 (by omega) (by omega) rfl
      refine ev_cast ?_ this
      by_cases hb : n / 256 ^ w.toNat > 0
      · rw [if_pos hb, if_pos (by simp [hb])]
      · rw [if_neg hb, if_neg (by simp only [not_or]; exact ⟨h, by omega, by omega, hb⟩)]
        rfl
    · refine ev_pos (by simp [hw]) (ev_eq ?_)
      rw [if_pos (by omega)]

theorem shr_pow (n : Int) (d : Nat) (h : d ≤ 8) : shr .i64 n (8 * (d : Int)) = n / 256 ^ d := by
  unfold shr
  rw [show (8 * (d : Int)).toNat = 8 * d by omega, show IntKind.bits .i64 = 64 from rfl, Nat.min_eq_left (by omega), Int.pow_mul]
  rfl
theorem impl_Fix_loop (w : Nat) (hw : w ≤ 8) (n : Int) : ∀ (d i : Nat), i + d = w →
    Ev (fun k => impl_FixText.l0 k n (fixL i n ++ List.replicate d 0) (w : Int) (i : Int)) (strOfNums (fixL w n))
  | 0, i, h => by
    obtain rfl : i = w := by omega
    refine Ev.step (fun k => by rw [impl_FixText.l0]) ?_
    refine ev_neg (by omega) (ev_eq (by simp))
  | d + 1, i, h => by
    refine Ev.step (fun k => by rw [impl_FixText.l0]) ?_
    have e : wrap64 (8 * (i : Int)) = 8 * (i : Int) := w64 (by omega) (by omega)
    refine ev_pos (by omega) (ev_pos (by omega) (ev_pos (by omega) (ev_pos (by simp [fixL_length]; omega) ?_)))
    rw [e, shr_pow n i (by omega), w64 (by omega) (by omega)]
    have := impl_Fix_loop w hw n d (i + 1) (by omega)
    rw [fixL_snoc] at this
    have e2 : (fixL i n ++ List.replicate (d + 1) 0).set ((i : Int).toNat) (n / 256 ^ i % 256) = fixL i n ++ [n / 256 ^ i % 256] ++ List.replicate d 0 := by
      rw [Int.toNat_natCast, List.set_append_right _ _ (by rw [fixL_length]; omega), fixL_length, Nat.sub_self, List.replicate_succ]
      simp
    rw [e2]
    exact this
theorem impl_Fix (n w : Int) (hn : n ≤ 9223372036854775807) : Ev (fun k => impl_FixText.f k n w) (fixT n w) := by
  unfold impl_FixText.f fixT
  have go : ∀ b : Bool, 1 ≤ w → w ≤ 8 → Ev (fun k => impl_FixText.j0 k n w b) (if b = true then ⟨#[]⟩ else strOfNums (fixL w.toNat n)) := by
    intro b h1 h2
    refine Ev.step (fun k => by rw [impl_FixText.j0]) ?_
    refine ev_ite (fun h => ev_eq (by rw [if_pos h])) (fun h => ?_)
    rw [if_neg h]
    refine ev_pos (by omega) (ev_pos (by omega) (ev_now rfl ?_))
    have := impl_Fix_loop w.toNat (by omega) n w.toNat 0 (by omega)
    rw [show fixL 0 n = [] from rfl, List.nil_append, show ((w.toNat : Nat) : Int) = w by omega] at this
    rw [List.length_replicate, show ((w.toNat : Nat) : Int) = w by omega]
    exact this
  refine ev_ite (fun h => ?_) (fun h => ?_)
  · rw [if_pos (.inl h)]
    refine Ev.step (fun k => by rw [impl_FixText.j0]) ?_
    exact ev_pos rfl (ev_eq rfl)
  · refine ev_now (impl_In _ _ _) ?_
    by_cases hw : 1 ≤ w ∧ w ≤ 8
    · refine ev_pos (by simp [hw]) ?_
      refine ev_ite (fun h8 => ?_) (fun h8 => ?_)
      · have e : wrap64 (8 * w) = 8 * ((w.toNat : Nat) : Int) := by rw [w64 (by omega) (by omega)]; omega
        rw [e, shr_pow n w.toNat (by omega)]
        refine ev_pos (by omega) (ev_cast ?_ (go _ hw.1 hw.2))
        have hnn : 0 ≤ n / 256 ^ w.toNat := Int.ediv_nonneg (by omega) (Int.pow_nonneg (by decide))
        by_cases hb : n / 256 ^ w.toNat > 0
        · rw [if_pos (by simp; omega), if_pos (by simp [hb])]
        · have hz : n / 256 ^ w.toNat = 0 := by omega
          rw [if_neg (by simp [hz]), if_neg (by simp only [not_or]; exact ⟨h, by omega, by omega, hb⟩)]
      · refine ev_cast ?_ (go _ hw.1 hw.2)
        obtain rfl : w = 8 := by omega
        have hz : n / 256 ^ (8 : Int).toNat = 0 := by
          rw [show (256 : Int) ^ (8 : Int).toNat = 18446744073709551616 by decide]
          omega
        rw [if_neg (by simp), if_neg (by simp only [not_or]; exact ⟨h, by omega, by omega, by omega⟩)]
    · refine ev_neg (by simp [hw]) ?_
      refine Ev.step (fun k => by rw [impl_FixText.j0]) ?_
      refine ev_pos rfl (ev_eq ?_)
      rw [if_pos (by omega)]

/-- What TrailerText's loop makes of the numbers that are left. -/
theorem spec_Trailer_loop (xs : List Int) (h4 : xs.length = 4) : ∀ (d i : Nat) (acc : ByteArray), i + d = 4 → acc.size ≤ 8 * i →
    Ev (fun k => spec_TrailerText.l0 k acc xs i) (trailGo acc (xs.drop i))
  | 0, i, acc, hi, ha => by
    refine Ev.step (fun k => by rw [spec_TrailerText.l0]) ?_
    refine ev_neg (by omega) (ev_pos (by omega) (ev_eq ?_))
    rw [List.drop_of_length_le (by omega)]
    rfl
  | d + 1, i, acc, hi, ha => by
    refine Ev.step (fun k => by rw [spec_TrailerText.l0]) ?_
    refine ev_pos (by omega) (ev_pos (by omega) (ev_pos (by omega) ?_))
    have hr : rd xs (i : Int) = xs[i]'(by omega) := by
      unfold rd
      rw [Int.toNat_natCast, List.getD_eq_getElem?_getD, List.getElem?_eq_getElem (by omega)]
      rfl
    rw [hr, List.drop_eq_getElem_cons (by omega)]
    have hle := fixT_le (xs[i]'(by omega)) 4
    refine Ev.bind (spec_Fix _ 4) ?_
    unfold trailGo
    refine ev_ite (fun h => ev_eq ?_) (fun h => ev_pos (by omega) ?_)
    · rw [toList_nil_iff] at h
      rw [if_pos h]
    · rw [toList_nil_iff] at h
      rw [if_neg h, w64 (by omega) (by omega)]
      have := spec_Trailer_loop xs h4 d (i + 1) (acc ++ fixT (xs[i]'(by omega)) 4) (by omega) (by rw [ByteArray.size_append]; omega)
      rw [Int.natCast_add] at this
      exact this
theorem spec_Trailer_ev (a b c d : Int) : Ev (fun k => spec_TrailerText.f k a b c d) (trailT a b c d) := by
  unfold spec_TrailerText.f trailT
  exact spec_Trailer_loop [a, b, c, d] rfl 4 0 _ rfl (Nat.zero_le _)

theorem impl_Trailer_loop (xs : List Int) (h4 : xs.length = 4) (hx : ∀ x ∈ xs, x ≤ 9223372036854775807) : ∀ (d i : Nat) (acc : ByteArray), i + d = 4 → acc.size ≤ 8 * i →
    Ev (fun k => impl_TrailerText.l0 k acc xs 4 i) (trailGo acc (xs.drop i))
  | 0, i, acc, hi, ha => by
    refine Ev.step (fun k => by rw [impl_TrailerText.l0]) ?_
    refine ev_neg (by omega) (ev_pos (by omega) (ev_eq ?_))
    rw [List.drop_of_length_le (by omega)]
    rfl
  | d + 1, i, acc, hi, ha => by
    refine Ev.step (fun k => by rw [impl_TrailerText.l0]) ?_
    refine ev_pos (by omega) (ev_pos (by omega) (ev_pos (by omega) ?_))
    have hr : rd xs (i : Int) = xs[i]'(by omega) := by
      unfold rd
      rw [Int.toNat_natCast, List.getD_eq_getElem?_getD, List.getElem?_eq_getElem (by omega)]
      rfl
    rw [hr, List.drop_eq_getElem_cons (by omega)]
    have hle := fixT_le (xs[i]'(by omega)) 4
    refine Ev.bind (impl_Fix _ 4 (hx _ (List.getElem_mem _))) ?_
    unfold trailGo
    refine ev_ite (fun h => ev_eq ?_) (fun h => ev_pos (by omega) ?_)
    · rw [toList_nil_iff] at h
      rw [if_pos h]
    · rw [toList_nil_iff] at h
      rw [if_neg h, w64 (by omega) (by omega)]
      have := impl_Trailer_loop xs h4 hx d (i + 1) (acc ++ fixT (xs[i]'(by omega)) 4) (by omega) (by rw [ByteArray.size_append]; omega)
      rw [Int.natCast_add] at this
      exact this
theorem impl_Trailer_ev (a b c d : Int) (ha : a ≤ 9223372036854775807) (hb : b ≤ 9223372036854775807) (hc : c ≤ 9223372036854775807) (hd : d ≤ 9223372036854775807) :
    Ev (fun k => impl_TrailerText.f k a b c d) (trailT a b c d) := by
  unfold impl_TrailerText.f trailT
  refine ev_now rfl ?_
  exact impl_Trailer_loop [a, b, c, d] rfl (by simp; omega) 4 0 _ rfl (Nat.zero_le _)

theorem FnExactTrailerText : laws_FnExactTrailerText.Pure := by
  intro a b c d ha hb hc hd
  refine Ev.rounds ?_
  unfold laws_FnExactTrailerText.f
  exact Ev.bind (spec_Trailer_ev a b c d) (Ev.bind (impl_Trailer_ev a b c d (wf64 ha).2 (wf64 hb).2 (wf64 hc).2 (wf64 hd).2) (ev_pos rfl (Ev.now _)))

end Go.Proofs.Ytaifdajdopghoaa.Pure
