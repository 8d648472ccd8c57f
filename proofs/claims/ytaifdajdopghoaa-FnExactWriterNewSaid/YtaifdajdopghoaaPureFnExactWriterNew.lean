/- The program's WriterNew answers as the reference's, for all arguments, and shares no memory. -/
import Derived.Test.YtaifdajdopghoaaQFnExactWriterNewx2
import Derived.Test.YtaifdajdopghoaaMath
namespace Go.Proofs.Ytaifdajdopghoaa.Pure
open Go.RowKit Go.Proofs.Ytaifdajdopghoaa.QFnExactWriterNew Go.Proofs.YtaifdajdopghoaaW.PrintWords Go.Proofs.YtaifdajdopghoaaW.PrintLast Go.Proofs.YtaifdajdopghoaaW.PrintMore Go.Proofs.Ytaifdajdopghoaa.Mth
set_option linter.unusedVariables false
set_option linter.unusedSimpArgs false

theorem spec_In (a b c : Int) : spec_l01In.f a b c = some (decide (b ≤ a ∧ a ≤ c)) := by
  unfold spec_l01In.f
  by_cases h : a ≥ b <;> simp [h]

theorem impl_In (a b c : Int) : impl_within.f a b c = some (decide (b ≤ a ∧ a ≤ c)) := by
  unfold impl_within.f
  by_cases h : a ≥ b <;> simp [h]

theorem impl_Ver (v : Int) : impl_isVersion.f v = some (decide (verOk v)) := by
  unfold impl_isVersion.f verOk
  by_cases h : v = 1 <;> simp [h]
  rw [Bool.eq_iff_iff]; simp

theorem eqInt_loop (xs : List Int) (hx : xs.length ≤ 140737488355328) : ∀ (d i : Nat), i + d = xs.length → Ev (fun k => laws_eqIntS.l0 k xs xs i) true
  | 0, i, hi => Ev.step (fun k => by rw [laws_eqIntS.l0]) (ev_neg (by omega) (Ev.now _))
  | d + 1, i, hi => by
    refine Ev.step (fun k => by rw [laws_eqIntS.l0]) (ev_pos (by omega) (ev_pos (by omega) (ev_pos (by omega) (ev_pos rfl ?_))))
    rw [w64 (by omega) (by omega)]
    exact eqInt_loop xs hx d (i + 1) (by omega)
theorem eqInt_ev (xs : List Int) (hx : xs.length ≤ 140737488355328) : Ev (fun k => laws_eqIntS.f k xs xs) true := by
  unfold laws_eqIntS.f
  exact ev_pos rfl (eqInt_loop xs hx xs.length 0 (by omega))

theorem markInt_loop (n : Nat) (hn : n ≤ 140737488355328) (m0 : Int) (hm : 0 ≤ m0 ∧ m0 ≤ 1152921504606846976) : ∀ (d i : Nat) (ys : List Int), ys.length = d → i + d = n →
    Ev (fun k => laws_markIntS.l0 k (seqL i m0 ++ ys) (m0 + i) i) (m0 + n, seqL n m0)
  | 0, i, ys, hy, hi => by
    obtain rfl : ys = [] := List.eq_nil_of_length_eq_zero hy
    refine Ev.step (fun k => by rw [laws_markIntS.l0]) (ev_neg (by simp [seqL_length] <;> omega) (ev_eq ?_))
    obtain rfl : i = n := by omega
    simp
  | d + 1, i, y :: ys, hy, hi => by
    refine Ev.step (fun k => by rw [laws_markIntS.l0]) (ev_pos (by simp [seqL_length] <;> omega) (ev_pos (by omega) ?_))
    rw [w64 (x := m0 + i + 1) (by omega) (by omega), w64 (x := (i : Int) + 1) (by omega) (by omega), Int.toNat_natCast, set_mid _ _ _ _ i (seqL_length _ _)]
    have := markInt_loop n hn m0 hm d (i + 1) ys (by simpa using hy) (by omega)
    rw [seqL_snoc, List.append_assoc, Int.natCast_add, ← Int.add_assoc] at this
    exact this
theorem markInt_ev (ys : List Int) (hn : ys.length ≤ 140737488355328) (m0 : Int) (hm : 0 ≤ m0 ∧ m0 ≤ 1152921504606846976) : Ev (fun k => laws_markIntS.f k ys m0) (m0 + ys.length, seqL ys.length m0) := by
  unfold laws_markIntS.f
  have := markInt_loop ys.length hn m0 hm ys.length 0 ys rfl (by omega)
  rw [show m0 + ((0 : Nat) : Int) = m0 by simp] at this
  exact this

theorem heldInt_loop (n : Nat) (hn : n ≤ 140737488355328) (m0 : Int) (hm : 0 ≤ m0 ∧ m0 ≤ 1152921504606846976) : ∀ (d i : Nat), i + d = n →
    Ev (fun k => laws_heldIntS.l0 k (seqL n m0) (m0 + i) i) (m0 + n)
  | 0, i, hi => by
    refine Ev.step (fun k => by rw [laws_heldIntS.l0]) (ev_neg (by rw [seqL_length]; omega) (ev_eq (by omega)))
  | d + 1, i, hi => by
    refine Ev.step (fun k => by rw [laws_heldIntS.l0]) (ev_pos (by rw [seqL_length]; omega) (ev_pos (by omega) (ev_pos (seqL_get n m0 i (by omega)) ?_)))
    rw [w64 (x := m0 + i + 1) (by omega) (by omega), w64 (x := (i : Int) + 1) (by omega) (by omega)]
    have := heldInt_loop n hn m0 hm d (i + 1) (by omega)
    rw [Int.natCast_add, ← Int.add_assoc] at this
    exact this
theorem heldInt_ev (n : Nat) (hn : n ≤ 140737488355328) (m0 : Int) (hm : 0 ≤ m0 ∧ m0 ≤ 1152921504606846976) : Ev (fun k => laws_heldIntS.f k (seqL n m0) m0) (m0 + n) := by
  unfold laws_heldIntS.f
  have := heldInt_loop n hn m0 hm n 0 (by omega)
  rw [show m0 + ((0 : Nat) : Int) = m0 by simp] at this
  exact this

theorem eqWriter_ev (a b c d e : Int) (o : List Int) (f : Int) (g : Bool) (h : Int) (ho : o.length ≤ 140737488355328) : Ev (fun k => laws_eqWriter.f k a b c d e o f g h a b c d e o f g h) true := by
  unfold laws_eqWriter.f
  exact ev_pos rfl (ev_pos rfl (ev_pos rfl (ev_pos rfl (ev_pos rfl (Ev.bind (eqInt_ev o ho) (ev_pos rfl (ev_pos rfl (ev_neg (by simp) (ev_pos rfl (Ev.now _))))))))))

theorem markWriter_ev (a b c d e : Int) (o : List Int) (f : Int) (g : Bool) (h m0 : Int) (ho : o.length ≤ 140737488355328) (hm : 0 ≤ m0 ∧ m0 ≤ 1152921504606846976) :
    Ev (fun k => laws_markWriter.f k a b c d e o f g h m0) (m0 + o.length, seqL o.length m0) := by
  unfold laws_markWriter.f
  exact Ev.bind (markInt_ev o ho m0 hm) (Ev.now _)
theorem heldWriter_ev (a b c d e : Int) (n : Nat) (f : Int) (g : Bool) (h m0 : Int) (ho : n ≤ 140737488355328) (hm : 0 ≤ m0 ∧ m0 ≤ 1152921504606846976) :
    Ev (fun k => laws_heldWriter.f k a b c d e (seqL n m0) f g h m0) (m0 + n) := by
  unfold laws_heldWriter.f
  exact Ev.bind (heldInt_ev n ho m0 hm) (ev_neg (by omega) (Ev.now _))

def wrNew (v s r : Int) : Int × Int × Int × Int × Int × List Int × Int × Bool × Int × Bool :=
  if verOk v ∧ (1 ≤ s ∧ s ≤ 20) ∧ (1 ≤ r ∧ r ≤ 50) then (v, s, r, 0, 0, [], 0, false, 0, true) else (0, 0, 0, 0, 0, [], 0, false, 0, false)
theorem spec_WriterNew_eq (v s r : Int) : spec_WriterNew.f v s r = some (wrNew v s r) := by
  unfold spec_WriterNew.f wrNew
  rw [spec_In, spec_In, spec_In]
  by_cases h1 : 1 ≤ v ∧ v ≤ 2
  · have h1' : verOk v := by unfold verOk; omega
    by_cases h2 : 1 ≤ s ∧ s ≤ 20
    · by_cases h3 : 1 ≤ r ∧ r ≤ 50 <;> simp [h1, h1', h2, h3]
    · simp [h1, h1', h2]
  · have h1' : ¬ verOk v := by unfold verOk; omega
    simp [h1, h1']
theorem impl_WriterNew_eq (v s r : Int) : impl_WriterNew.f v s r = some (wrNew v s r) := by
  unfold impl_WriterNew.f wrNew
  rw [impl_Ver, impl_In, impl_In]
  by_cases h1 : verOk v
  · by_cases h2 : 1 ≤ s ∧ s ≤ 20
    · by_cases h3 : 1 ≤ r ∧ r ≤ 50 <;> simp [h1, h2, h3]
    · simp [h1, h2]
  · simp [h1]
theorem wrNew_off (v s r : Int) : (wrNew v s r).2.2.2.2.2.1 = [] := by unfold wrNew; split <;> rfl

theorem FnExactWriterNew : laws_FnExactWriterNew.Pure := by
  intro v s r _ _ _
  refine EvP.holds ?_
  unfold laws_FnExactWriterNew.f
  refine EvP.callc (spec_WriterNew_eq v s r) (EvP.callc (impl_WriterNew_eq v s r) ?_)
  rw [wrNew_off]
  refine EvP.call (eqWriter_ev _ _ _ _ _ [] _ _ _ (by simp)) (EvP.pos rfl (EvP.step (fun k => by rw [laws_FnExactWriterNew.j0]) (EvP.neg (by simp) ?_)))
  refine EvP.call (markWriter_ev _ _ _ _ _ [] _ _ _ 1 (by simp) (by decide)) (EvP.call (heldWriter_ev _ _ _ _ _ 0 _ _ _ 1 (by decide) (by decide)) (EvP.neg (by decide) (EvP.pos rfl ?_)))
  refine EvP.callc (impl_WriterNew_eq v s r) ?_
  rw [wrNew_off]
  refine EvP.call (eqWriter_ev _ _ _ _ _ [] _ _ _ (by simp)) (EvP.pos rfl (EvP.step (fun k => by rw [laws_FnExactWriterNew.j1]) (EvP.neg (by simp) ?_)))
  exact EvP.call (heldWriter_ev _ _ _ _ _ 0 _ _ _ 1 (by decide) (by decide)) (EvP.neg (by decide) (EvP.pos rfl (EvP.now rfl)))

end Go.Proofs.Ytaifdajdopghoaa.Pure
