/- The program's PlacesOf answers as the reference's, for all arguments, and shares no memory. -/
import Derived.Test.YtaifdajdopghoaaQFnExactPlacesOfx2
import Derived.Test.YtaifdajdopghoaaMath
namespace Go.Proofs.Ytaifdajdopghoaa.Pure
open Go.RowKit Go.Proofs.Ytaifdajdopghoaa.QFnExactPlacesOf Go.Proofs.YtaifdajdopghoaaW.PrintWords Go.Proofs.YtaifdajdopghoaaW.PrintLast Go.Proofs.YtaifdajdopghoaaW.PrintMore Go.Proofs.Ytaifdajdopghoaa.Mth
set_option linter.unusedVariables false
set_option linter.unusedSimpArgs false

theorem toInt_loop (xs : List Int) (hx : xs.length ≤ 140737488355328) : ∀ (d i : Nat), i + d = xs.length →
    Ev (fun k => laws_toIntS.l0 k xs (xs.take i ++ List.replicate d 0) i) xs
  | 0, i, hi => by
    refine Ev.step (fun k => by rw [laws_toIntS.l0]) (ev_neg (by omega) (ev_eq ?_))
    rw [List.take_of_length_le (by omega)]
    simp
  | d + 1, i, hi => by
    refine Ev.step (fun k => by rw [laws_toIntS.l0]) (ev_pos (by omega) (ev_pos (by omega) (ev_pos (by simp; omega) ?_)))
    rw [w64 (by omega) (by omega), Int.toNat_natCast, List.replicate_succ, set_mid _ _ _ _ i (by simp; omega)]
    have := toInt_loop xs hx d (i + 1) (by omega)
    rw [take_snoc 0 xs i (by omega), List.append_assoc, Int.natCast_add] at this
    exact this
theorem toInt_ev (xs : List Int) (hx : xs.length ≤ 35184372088832) : Ev (fun k => laws_toIntS.f k xs) xs := by
  unfold laws_toIntS.f
  refine ev_pos (by omega) (ev_pos (by omega) ?_)
  have := toInt_loop xs (by omega) xs.length 0 (by omega)
  rw [List.take_zero, List.nil_append] at this
  exact this

theorem eqInt_loop (xs : List Int) (hx : xs.length ≤ 140737488355328) : ∀ (d i : Nat), i + d = xs.length → Ev (fun k => laws_eqIntS.l0 k xs xs i) true
  | 0, i, hi => Ev.step (fun k => by rw [laws_eqIntS.l0]) (ev_neg (by omega) (Ev.now _))
  | d + 1, i, hi => by
    refine Ev.step (fun k => by rw [laws_eqIntS.l0]) (ev_pos (by omega) (ev_pos (by omega) (ev_pos (by omega) (ev_pos rfl ?_))))
    rw [w64 (by omega) (by omega)]
    exact eqInt_loop xs hx d (i + 1) (by omega)
theorem eqInt_ev (xs : List Int) (hx : xs.length ≤ 140737488355328) : Ev (fun k => laws_eqIntS.f k xs xs) true := by
  unfold laws_eqIntS.f
  exact ev_pos rfl (eqInt_loop xs hx xs.length 0 (by omega))

theorem markInt_loop (n : Nat) (hn : n ≤ 140737488355328) (m0 : Int) (hm : 0 ≤ m0 ∧ m0 ≤ 1152921504606846976) : ∀ (d i : Nat) (ys : List Int), ys.length = d → i + d = n →
    Ev (fun k => laws_markIntS.l0 k (seqL i m0 ++ ys) (m0 + i) i) (m0 + n, seqL n m0)
  | 0, i, ys, hy, hi => by
    obtain rfl : ys = [] := List.eq_nil_of_length_eq_zero hy
    refine Ev.step (fun k => by rw [laws_markIntS.l0]) (ev_neg (by simp [seqL_length] <;> omega) (ev_eq ?_))
    obtain rfl : i = n := by omega
    simp
  | d + 1, i, y :: ys, hy, hi => by
    refine Ev.step (fun k => by rw [laws_markIntS.l0]) (ev_pos (by simp [seqL_length] <;> omega) (ev_pos (by omega) ?_))
    rw [w64 (x := m0 + i + 1) (by omega) (by omega), w64 (x := (i : Int) + 1) (by omega) (by omega), Int.toNat_natCast, set_mid _ _ _ _ i (seqL_length _ _)]
    have := markInt_loop n hn m0 hm d (i + 1) ys (by simpa using hy) (by omega)
    rw [seqL_snoc, List.append_assoc, Int.natCast_add, ← Int.add_assoc] at this
    exact this
theorem markInt_ev (ys : List Int) (hn : ys.length ≤ 140737488355328) (m0 : Int) (hm : 0 ≤ m0 ∧ m0 ≤ 1152921504606846976) : Ev (fun k => laws_markIntS.f k ys m0) (m0 + ys.length, seqL ys.length m0) := by
  unfold laws_markIntS.f
  have := markInt_loop ys.length hn m0 hm ys.length 0 ys rfl (by omega)
  rw [show m0 + ((0 : Nat) : Int) = m0 by simp] at this
  exact this

theorem eqPlace_refl (a b : Int) : laws_eqPlace.f a b a b = some true := by unfold laws_eqPlace.f; rw [if_pos rfl, if_pos rfl]
theorem eqPlaceS_loop (xs : List S29) (hx : xs.length ≤ 140737488355328) : ∀ (d i : Nat), i + d = xs.length → Ev (fun k => laws_eqPlaceS.l0 k xs xs i) true
  | 0, i, hi => Ev.step (fun k => by rw [laws_eqPlaceS.l0]) (ev_neg (by omega) (Ev.now _))
  | d + 1, i, hi => by
    refine Ev.step (fun k => by rw [laws_eqPlaceS.l0]) (ev_pos (by omega) (ev_pos (by omega) (ev_pos (by omega) (ev_now (eqPlace_refl _ _) (ev_pos rfl ?_)))))
    rw [w64 (by omega) (by omega)]
    exact eqPlaceS_loop xs hx d (i + 1) (by omega)
theorem eqPlaceS_ev (xs : List S29) (hx : xs.length ≤ 140737488355328) : Ev (fun k => laws_eqPlaceS.f k xs xs) true := by
  unfold laws_eqPlaceS.f
  exact ev_pos rfl (eqPlaceS_loop xs hx xs.length 0 (by omega))

def seqP : Nat → Int → List S29
  | 0, _ => []
  | d + 1, m => ⟨m, m + 1⟩ :: seqP d (m + 2)
theorem seqP_length : ∀ (d : Nat) (m : Int), (seqP d m).length = d
  | 0, _ => rfl
  | d + 1, m => by simp [seqP, seqP_length d]
theorem seqP_snoc : ∀ (d : Nat) (m : Int), seqP (d + 1) m = seqP d m ++ [⟨m + 2 * d, m + 2 * d + 1⟩]
  | 0, m => by simp [seqP]
  | d + 1, m => by
    rw [show seqP (d + 1 + 1) m = ⟨m, m + 1⟩ :: seqP (d + 1) (m + 2) from rfl, seqP_snoc d (m + 2), show seqP (d + 1) m = ⟨m, m + 1⟩ :: seqP d (m + 2) from rfl,
      show m + 2 + 2 * (d : Int) = m + 2 * ((d + 1 : Nat) : Int) by omega]
    rfl
theorem seqP_get : ∀ (d : Nat) (m : Int) (i : Nat), i < d → rd_T29 (seqP d m) i = ⟨m + 2 * i, m + 2 * i + 1⟩
  | d + 1, m, 0, _ => by simp [rd_T29, seqP]
  | d + 1, m, i + 1, h => by
    have := seqP_get d (m + 2) i (by omega)
    unfold rd_T29 at this ⊢
    rw [Int.toNat_natCast] at this ⊢
    rw [show seqP (d + 1) m = ⟨m, m + 1⟩ :: seqP d (m + 2) from rfl, List.getD_cons_succ, this, show m + 2 + 2 * (i : Int) = m + 2 * ((i + 1 : Nat) : Int) by omega]
theorem rdP_mid (a : List S29) (x : S29) (b : List S29) (i : Nat) (h : a.length = i) : rd_T29 (a ++ x :: b) i = x := by
  subst h
  unfold rd_T29
  simp [List.getD_eq_getElem?_getD]
theorem markPlace_loop (n : Nat) (hn : n ≤ 140737488355328) (m0 : Int) (hm : 0 ≤ m0 ∧ m0 ≤ 1152921504606846976) : ∀ (d i : Nat) (ys : List S29), ys.length = d → i + d = n →
    Ev (fun k => laws_markPlaceS.l0 k (seqP i m0 ++ ys) (m0 + 2 * i) i) (m0 + 2 * n, seqP n m0)
  | 0, i, ys, hy, hi => by
    obtain rfl : ys = [] := List.eq_nil_of_length_eq_zero hy
    refine Ev.step (fun k => by rw [laws_markPlaceS.l0]) (ev_neg (by simp [seqP_length] <;> omega) (ev_eq ?_))
    obtain rfl : i = n := by omega
    simp
  | d + 1, i, y :: ys, hy, hi => by
    refine Ev.step (fun k => by rw [laws_markPlaceS.l0]) (ev_pos (by simp [seqP_length] <;> omega) (ev_pos (by omega) (ev_now rfl ?_)))
    rw [w64 (x := m0 + 2 * i + 1) (by omega) (by omega), w64 (x := m0 + 2 * i + 1 + 1) (by omega) (by omega), w64 (x := (i : Int) + 1) (by omega) (by omega), Int.toNat_natCast]
    rw [set_mid _ _ _ _ i (seqP_length _ _), set_mid _ _ _ _ i (seqP_length _ _), rdP_mid _ _ _ i (seqP_length _ _)]
    have := markPlace_loop n hn m0 hm d (i + 1) ys (by simpa using hy) (by omega)
    rw [seqP_snoc, List.append_assoc, show m0 + 2 * ((i + 1 : Nat) : Int) = m0 + 2 * i + 1 + 1 by omega, Int.natCast_add] at this
    exact this
theorem markPlace_ev (ys : List S29) (hn : ys.length ≤ 140737488355328) (m0 : Int) (hm : 0 ≤ m0 ∧ m0 ≤ 1152921504606846976) : Ev (fun k => laws_markPlaceS.f k ys m0) (m0 + 2 * ys.length, seqP ys.length m0) := by
  unfold laws_markPlaceS.f
  have := markPlace_loop ys.length hn m0 hm ys.length 0 ys rfl (by omega)
  rw [show m0 + 2 * ((0 : Nat) : Int) = m0 by simp] at this
  exact this
theorem heldPlace_loop (n : Nat) (hn : n ≤ 140737488355328) (m0 : Int) (hm : 0 ≤ m0 ∧ m0 ≤ 1152921504606846976) : ∀ (d i : Nat), i + d = n →
    Ev (fun k => laws_heldPlaceS.l0 k (seqP n m0) (m0 + 2 * i) i) (m0 + 2 * n)
  | 0, i, hi => by
    refine Ev.step (fun k => by rw [laws_heldPlaceS.l0]) (ev_neg (by rw [seqP_length]; omega) (ev_eq (by omega)))
  | d + 1, i, hi => by
    refine Ev.step (fun k => by rw [laws_heldPlaceS.l0]) (ev_pos (by rw [seqP_length]; omega) (ev_pos (by omega) ?_))
    rw [seqP_get n m0 i (by omega)]
    rw [w64 (x := m0 + 2 * i + 1) (by omega) (by omega), w64 (x := m0 + 2 * i + 1 + 1) (by omega) (by omega), w64 (x := (i : Int) + 1) (by omega) (by omega)]
    refine ev_pos rfl (ev_pos rfl ?_)
    have := heldPlace_loop n hn m0 hm d (i + 1) (by omega)
    rw [show m0 + 2 * ((i + 1 : Nat) : Int) = m0 + 2 * i + 1 + 1 by omega, Int.natCast_add] at this
    exact this
theorem heldPlace_ev (n : Nat) (hn : n ≤ 140737488355328) (m0 : Int) (hm : 0 ≤ m0 ∧ m0 ≤ 1152921504606846976) : Ev (fun k => laws_heldPlaceS.f k (seqP n m0) m0) (m0 + 2 * n) := by
  unfold laws_heldPlaceS.f
  have := heldPlace_loop n hn m0 hm n 0 (by omega)
  rw [show m0 + 2 * ((0 : Nat) : Int) = m0 by simp] at this
  exact this

def mkP (a b : Int) : S29 := ⟨a, b⟩
theorem spec_Places_loop (s : Int) (hs : s ≤ 9223372036854775807) (xs : List Int) (hx : xs.length ≤ 1048576) : ∀ (d i : Nat) (acc : List S29), i + d = xs.length → acc.length ≤ i →
    Ev (fun k => spec_PlacesOf.l0 k s xs acc i) (acc ++ if s < 1 then [] else plc mkP s (xs.drop i) i)
  | 0, i, acc, hi, ha => by
    refine Ev.step (fun k => by rw [spec_PlacesOf.l0]) (ev_neg (by omega) (Ev.step (fun k => by rw [spec_PlacesOf.j1]) (ev_neg (by decide) (ev_eq ?_))))
    rw [List.drop_of_length_le (by omega)]
    simp [plc]
  | d + 1, i, acc, hi, ha => by
    refine Ev.step (fun k => by rw [spec_PlacesOf.l0]) (ev_pos (by omega) (Ev.step (fun k => by rw [spec_PlacesOf.j1]) (ev_ite (fun h => ?_) (fun h => ev_eq ?_))))
    · have hs1 : s ≥ 1 := by simpa using h
      rw [if_neg (by omega)]
      refine ev_neg (by omega) ?_
      rw [Int.tmod_eq_emod_of_nonneg (by omega), w64 (by omega) (by omega), rd_drop xs i (by omega)]
      unfold plc
      refine ev_ite (fun h2 => ?_) (fun h2 => ?_)
      · refine ev_pos (by omega) (ev_pos (by omega) (ev_pos (by omega) ?_))
        rw [if_pos h2]
        have := spec_Places_loop s hs xs hx d (i + 1) (acc ++ [mkP i (rd xs i)]) (by omega) (by simp; omega)
        rw [if_neg (by omega), List.append_assoc, Int.natCast_add] at this
        exact this
      · rw [if_neg h2]
        have := spec_Places_loop s hs xs hx d (i + 1) acc (by omega) (by omega)
        rw [if_neg (by omega), Int.natCast_add] at this
        exact this
    · have hs1 : s < 1 := by simpa using h
      rw [if_pos hs1]
      simp
theorem spec_Places_ev (s : Int) (hs : s ≤ 9223372036854775807) (xs : List Int) (hx : xs.length ≤ 1048576) : Ev (fun k => spec_PlacesOf.f k s xs) (placesOf mkP s xs) := by
  unfold spec_PlacesOf.f placesOf
  exact spec_Places_loop s hs xs hx xs.length 0 [] (by omega) (by simp)

theorem impl_Places_loop (s : Int) (h1 : 1 ≤ s) (hs : s ≤ 9223372036854775807) (xs : List Int) (hx : xs.length ≤ 1048576) : ∀ (d i : Nat) (acc : List S29), xs.length < i + d → i ≤ xs.length → (i : Int) % s = 0 → acc.length ≤ i →
    Ev (fun k => impl_PlacesOf.l0 k s xs acc i) (acc ++ plc mkP s (xs.drop i) i)
  | 0, i, acc, hd, hi, hz, ha => absurd hd (by omega)
  | d + 1, i, acc, hd, hi, hz, ha => by
    refine Ev.step (fun k => by rw [impl_PlacesOf.l0]) (ev_ite (fun h => ?_) (fun h => ev_eq ?_))
    · refine ev_pos (by omega) (ev_pos (by omega) (ev_now rfl ?_))
      rw [w64 (x := (xs.length : Int) - i) (by omega) (by omega), rd_drop xs i (by omega)]
      have hne : ∀ t : Nat, i + 1 ≤ t → (t : Int) < i + s → (t : Int) % s ≠ 0 := by
        intro t h2 h3 h4
        have e : ((t : Int) - i) % s = 0 := by rw [Int.sub_emod, h4, hz]; simp
        rw [Int.emod_eq_of_lt (by omega) (by omega)] at e
        omega
      unfold plc
      rw [if_pos hz]
      refine ev_ite (fun h2 => ev_eq ?_) (fun h2 => ?_)
      · rw [plc_skip mkP s xs (xs.length - (i + 1)) (i + 1) (fun t h3 h4 => hne t h3 (by omega)), List.drop_of_length_le (by omega)]
        rfl
      · rw [w64 (x := (i : Int) + s) (by omega) (by omega)]
        rw [plc_skip mkP s xs (s.toNat - 1) (i + 1) (fun t h3 h4 => hne t h3 (by omega)), show i + 1 + (s.toNat - 1) = i + s.toNat by omega]
        have := impl_Places_loop s h1 hs xs hx d (i + s.toNat) (acc ++ [mkP i (rd xs i)]) (by omega) (by omega) (by
          rw [show ((i + s.toNat : Nat) : Int) = i + s by omega, Int.add_emod_right]; exact hz) (by simp; omega)
        rw [List.append_assoc, show ((i + s.toNat : Nat) : Int) = i + s by omega] at this
        exact this
    · rw [List.drop_of_length_le (by omega)]
      simp [plc]
theorem impl_Places_ev (s : Int) (hs : s ≤ 9223372036854775807) (xs : List Int) (hx : xs.length ≤ 1048576) : Ev (fun k => impl_PlacesOf.f k s xs) (placesOf mkP s xs) := by
  unfold impl_PlacesOf.f placesOf
  refine ev_now rfl (ev_ite (fun h => ev_eq (by rw [if_pos h])) (fun h => ?_))
  rw [if_neg h]
  exact impl_Places_loop s (by omega) hs xs hx (xs.length + 1) 0 [] (by omega) (by omega) (by simp) (by simp)
theorem placesOf_len (s : Int) (xs : List Int) : (placesOf mkP s xs).length ≤ xs.length := by
  unfold placesOf
  split
  · simp
  · exact plc_length _ _ _ _

theorem FnExactPlacesOf : laws_FnExactPlacesOf.Pure := by
  intro s xs hs _ _ _
  have hs2 := (wf64 hs).2
  refine EvP.holds ?_
  unfold laws_FnExactPlacesOf.f
  refine EvP.ite (fun _ => EvP.now rfl) (fun h => ?_)
  have hx : xs.length ≤ 1048576 := by omega
  have hp := placesOf_len s xs
  have hm := heldPlace_ev (placesOf mkP s xs).length (by omega) 1 (by decide)
  refine EvP.call (toInt_ev xs (by omega)) (EvP.call (spec_Places_ev s hs2 xs hx) (EvP.call (toInt_ev xs (by omega)) (EvP.call (impl_Places_ev s hs2 xs hx) (EvP.call (eqPlaceS_ev _ (by omega)) (EvP.pos rfl ?_)))))
  refine EvP.call (toInt_ev xs (by omega)) (EvP.call (eqInt_ev xs (by omega)) (EvP.pos rfl (EvP.call (markInt_ev xs (by omega) 1 (by decide)) (EvP.neg (by simp only; omega) ?_))))
  refine EvP.call (eqPlaceS_ev _ (by omega)) (EvP.step (fun k => by rw [laws_FnExactPlacesOf.j0]) (EvP.neg (by decide) ?_))
  refine EvP.call (markPlace_ev _ (by omega) 1 (by decide)) (EvP.call hm (EvP.neg (by omega) (EvP.pos rfl ?_)))
  refine EvP.call (toInt_ev xs (by omega)) (EvP.call (impl_Places_ev s hs2 xs hx) (EvP.call (eqPlaceS_ev _ (by omega)) (EvP.pos rfl ?_)))
  exact EvP.call hm (EvP.neg (by omega) (EvP.pos rfl (EvP.now rfl)))

end Go.Proofs.Ytaifdajdopghoaa.Pure
