-- Written by a program of this session (wip/myprint.py) for the law FnExactReadHead: plain functions and contracts, function by function.
import Derived.Test.YtkkendhkiopnbaaQFnExactReadHeadx0
import Derived.Test.YtkkendhkiopnbaaQFnExactReadHeadx4
namespace Go.Proofs.Ytkkendhkiopnbaa.QFnExactReadHead
open Go.RowKit Go.Proofs.YtkkendhkiopnbaaW.PrintWords Go.Proofs.YtkkendhkiopnbaaW.PrintLast Go.Proofs.YtkkendhkiopnbaaW.PrintMore
attribute [local go_sem] max2_int min2_int max_two min_two max_three min_three max_four min_four   -- for this text's walks alone
set_option linter.unusedVariables false
set_option linter.unusedSimpArgs false

/-! ### impl_HeadText: function 62 -/
def impl_HeadText.f (k : Nat) (a0_0 : Int) (a0_1 : Int) (a0_2 : Int) (a0_3 : Int) : Option (ByteArray) := (impl_HeadOk.f a0_0 a0_1 a0_2 a0_3).bind fun t148 => (if t148 = true then ((impl_FixText.f k a0_0 1).bind fun t149 => (if 4 + t149.size ≤ 9223372036854775807 then ((impl_FixText.f k a0_1 1).bind fun t150 => (if ((⟨#[83, 69, 71, 77]⟩ : ByteArray) ++ t149).size + t150.size ≤ 9223372036854775807 then ((impl_FixText.f k 0 2).bind fun t151 => (if (((⟨#[83, 69, 71, 77]⟩ : ByteArray) ++ t149) ++ t150).size + t151.size ≤ 9223372036854775807 then ((impl_FixText.f k a0_2 8).bind fun t152 => (if ((((⟨#[83, 69, 71, 77]⟩ : ByteArray) ++ t149) ++ t150) ++ t151).size + t152.size ≤ 9223372036854775807 then ((impl_FixText.f k a0_3 4).bind fun t153 => (if (((((⟨#[83, 69, 71, 77]⟩ : ByteArray) ++ t149) ++ t150) ++ t151) ++ t152).size + t153.size ≤ 9223372036854775807 then ((impl_SumOf.f k ((((((⟨#[83, 69, 71, 77]⟩ : ByteArray) ++ t149) ++ t150) ++ t151) ++ t152) ++ t153)).bind fun t154 => ((impl_FixText.f k t154 4).bind fun t155 => (if ((((((⟨#[83, 69, 71, 77]⟩ : ByteArray) ++ t149) ++ t150) ++ t151) ++ t152) ++ t153).size + t155.size ≤ 9223372036854775807 then (some (((((((⟨#[83, 69, 71, 77]⟩ : ByteArray) ++ t149) ++ t150) ++ t151) ++ t152) ++ t153) ++ t155)) else (none)))) else (none))) else (none))) else (none))) else (none))) else (none))) else (some (⟨#[]⟩ : ByteArray)))
theorem impl_HeadText.mono : ∀ a0 a1 a2 a3 k, LeO (impl_HeadText.f k a0 a1 a2 a3) (impl_HeadText.f (k + 1) a0 a1 a2 a3) := by
  intro a0 a1 a2 a3 k
  unfold impl_HeadText.f
  repeat' first
      | (with_reducible exact impl_FixText.mono _ _ _)
      | (with_reducible exact impl_SumOf.mono _ _)
      | (with_reducible exact LeO.refl _)
      | (with_reducible exact LeO.none _)
      | (with_reducible refine LeO.ite ?_ ?_)
      | (with_reducible refine LeO.bind ?_ (fun _ => ?_))
      | exact impl_FixText.mono _ _ _
      | exact impl_SumOf.mono _ _
      | exact LeO.none _
      | refine LeO.ite ?_ ?_
      | refine LeO.bind ?_ (fun _ => ?_)
def impl_HeadText.T3 : Bool × List (List Nat × List Nat) := (true, [([], []), ([0], [0]), ([1], [1]), ([2], [2]), ([], []), ([4], [4]), ([5, 2], [5]), ([3, 6], [3, 6]), ([6], []), ([7, 8], [7, 8]), ([], []), ([10], [10]), ([11, 8], [11]), ([9, 12], [9, 12]), ([], []), ([14], [14]), ([15, 12], [15]), ([13, 16], [13, 16]), ([17, 16, 0, 1, 2, 3, 4, 5, 6, 7, 8, 9, 10, 11, 12, 13, 14, 15, 16, 17], [17])])
def impl_HeadText.B3 : List Nat := [0, 1, 3, 7, 0, 16, 55, 127, 119, 511, 0, 1024, 3447, 8191, 0, 16384, 56695, 131071, 262143]
theorem impl_HeadText.tab3 : rtab .any (opsOf Try.f62 3) = impl_HeadText.T3 := by kernel_rfl
theorem impl_HeadText.bits3 : waitsOk impl_HeadText.T3.2 impl_HeadText.B3 = true := by kernel_rfl
set_option maxHeartbeats 8000000 in
set_option maxRecDepth 100000 in
theorem impl_HeadText.calls (k : Nat) (a0_0 : Int) (a0_1 : Int) (a0_2 : Int) (a0_3 : Int) (r : ByteArray) (w : World) (h : impl_HeadText.f k a0_0 a0_1 a0_2 a0_3 = some r) :
    Calls Try.prog 62 #[.agg #[.int .i64 a0_0, .int .i64 a0_1, .int .i64 a0_2, .int .i64 a0_3]] w fun e w' => e = .returned (.string r) ∧ Below w.heap.size w w' := by
  have hu30 := Try.underlying30
  have HB := Aside0.mk (Below.refl w.heap.size w)
  have H : ((impl_HeadOk.f a0_0 a0_1 a0_2 a0_3).bind fun t148 => (if t148 = true then ((impl_FixText.f k a0_0 1).bind fun t149 => (if 4 + t149.size ≤ 9223372036854775807 then ((impl_FixText.f k a0_1 1).bind fun t150 => (if ((⟨#[83, 69, 71, 77]⟩ : ByteArray) ++ t149).size + t150.size ≤ 9223372036854775807 then ((impl_FixText.f k 0 2).bind fun t151 => (if (((⟨#[83, 69, 71, 77]⟩ : ByteArray) ++ t149) ++ t150).size + t151.size ≤ 9223372036854775807 then ((impl_FixText.f k a0_2 8).bind fun t152 => (if ((((⟨#[83, 69, 71, 77]⟩ : ByteArray) ++ t149) ++ t150) ++ t151).size + t152.size ≤ 9223372036854775807 then ((impl_FixText.f k a0_3 4).bind fun t153 => (if (((((⟨#[83, 69, 71, 77]⟩ : ByteArray) ++ t149) ++ t150) ++ t151) ++ t152).size + t153.size ≤ 9223372036854775807 then ((impl_SumOf.f k ((((((⟨#[83, 69, 71, 77]⟩ : ByteArray) ++ t149) ++ t150) ++ t151) ++ t152) ++ t153)).bind fun t154 => ((impl_FixText.f k t154 4).bind fun t155 => (if ((((((⟨#[83, 69, 71, 77]⟩ : ByteArray) ++ t149) ++ t150) ++ t151) ++ t152) ++ t153).size + t155.size ≤ 9223372036854775807 then (some (((((((⟨#[83, 69, 71, 77]⟩ : ByteArray) ++ t149) ++ t150) ++ t151) ++ t152) ++ t153) ++ t155)) else (none)))) else (none))) else (none))) else (none))) else (none))) else (none))) else (some (⟨#[]⟩ : ByteArray)))) = some r := h
  clear h
  replace H := Option.bind_eq_some_iff.mp H
  obtain ⟨t148, A20, H⟩ := H
  replace H : (if t148 = true then ((impl_FixText.f k a0_0 1).bind fun t149 => (if 4 + t149.size ≤ 9223372036854775807 then ((impl_FixText.f k a0_1 1).bind fun t150 => (if ((⟨#[83, 69, 71, 77]⟩ : ByteArray) ++ t149).size + t150.size ≤ 9223372036854775807 then ((impl_FixText.f k 0 2).bind fun t151 => (if (((⟨#[83, 69, 71, 77]⟩ : ByteArray) ++ t149) ++ t150).size + t151.size ≤ 9223372036854775807 then ((impl_FixText.f k a0_2 8).bind fun t152 => (if ((((⟨#[83, 69, 71, 77]⟩ : ByteArray) ++ t149) ++ t150) ++ t151).size + t152.size ≤ 9223372036854775807 then ((impl_FixText.f k a0_3 4).bind fun t153 => (if (((((⟨#[83, 69, 71, 77]⟩ : ByteArray) ++ t149) ++ t150) ++ t151) ++ t152).size + t153.size ≤ 9223372036854775807 then ((impl_SumOf.f k ((((((⟨#[83, 69, 71, 77]⟩ : ByteArray) ++ t149) ++ t150) ++ t151) ++ t152) ++ t153)).bind fun t154 => ((impl_FixText.f k t154 4).bind fun t155 => (if ((((((⟨#[83, 69, 71, 77]⟩ : ByteArray) ++ t149) ++ t150) ++ t151) ++ t152) ++ t153).size + t155.size ≤ 9223372036854775807 then (some (((((((⟨#[83, 69, 71, 77]⟩ : ByteArray) ++ t149) ++ t150) ++ t151) ++ t152) ++ t153) ++ t155)) else (none)))) else (none))) else (none))) else (none))) else (none))) else (none))) else (some (⟨#[]⟩ : ByteArray))) = some r := H
  have A2 := Aside0.mk A20
  clear A20
  by_cases c3 : t148 = true
  · subst c3
    have H1 : ((impl_FixText.f k a0_0 1).bind fun t149 => (if 4 + t149.size ≤ 9223372036854775807 then ((impl_FixText.f k a0_1 1).bind fun t150 => (if ((⟨#[83, 69, 71, 77]⟩ : ByteArray) ++ t149).size + t150.size ≤ 9223372036854775807 then ((impl_FixText.f k 0 2).bind fun t151 => (if (((⟨#[83, 69, 71, 77]⟩ : ByteArray) ++ t149) ++ t150).size + t151.size ≤ 9223372036854775807 then ((impl_FixText.f k a0_2 8).bind fun t152 => (if ((((⟨#[83, 69, 71, 77]⟩ : ByteArray) ++ t149) ++ t150) ++ t151).size + t152.size ≤ 9223372036854775807 then ((impl_FixText.f k a0_3 4).bind fun t153 => (if (((((⟨#[83, 69, 71, 77]⟩ : ByteArray) ++ t149) ++ t150) ++ t151) ++ t152).size + t153.size ≤ 9223372036854775807 then ((impl_SumOf.f k ((((((⟨#[83, 69, 71, 77]⟩ : ByteArray) ++ t149) ++ t150) ++ t151) ++ t152) ++ t153)).bind fun t154 => ((impl_FixText.f k t154 4).bind fun t155 => (if ((((((⟨#[83, 69, 71, 77]⟩ : ByteArray) ++ t149) ++ t150) ++ t151) ++ t152) ++ t153).size + t155.size ≤ 9223372036854775807 then (some (((((((⟨#[83, 69, 71, 77]⟩ : ByteArray) ++ t149) ++ t150) ++ t151) ++ t152) ++ t153) ++ t155)) else (none)))) else (none))) else (none))) else (none))) else (none))) else (none))) = some r := by rw [if_pos rfl] at H; exact H
    clear H
    have H := H1
    clear H1
    replace H := Option.bind_eq_some_iff.mp H
    obtain ⟨t149, A40, H⟩ := H
    replace H : (if 4 + t149.size ≤ 9223372036854775807 then ((impl_FixText.f k a0_1 1).bind fun t150 => (if ((⟨#[83, 69, 71, 77]⟩ : ByteArray) ++ t149).size + t150.size ≤ 9223372036854775807 then ((impl_FixText.f k 0 2).bind fun t151 => (if (((⟨#[83, 69, 71, 77]⟩ : ByteArray) ++ t149) ++ t150).size + t151.size ≤ 9223372036854775807 then ((impl_FixText.f k a0_2 8).bind fun t152 => (if ((((⟨#[83, 69, 71, 77]⟩ : ByteArray) ++ t149) ++ t150) ++ t151).size + t152.size ≤ 9223372036854775807 then ((impl_FixText.f k a0_3 4).bind fun t153 => (if (((((⟨#[83, 69, 71, 77]⟩ : ByteArray) ++ t149) ++ t150) ++ t151) ++ t152).size + t153.size ≤ 9223372036854775807 then ((impl_SumOf.f k ((((((⟨#[83, 69, 71, 77]⟩ : ByteArray) ++ t149) ++ t150) ++ t151) ++ t152) ++ t153)).bind fun t154 => ((impl_FixText.f k t154 4).bind fun t155 => (if ((((((⟨#[83, 69, 71, 77]⟩ : ByteArray) ++ t149) ++ t150) ++ t151) ++ t152) ++ t153).size + t155.size ≤ 9223372036854775807 then (some (((((((⟨#[83, 69, 71, 77]⟩ : ByteArray) ++ t149) ++ t150) ++ t151) ++ t152) ++ t153) ++ t155)) else (none)))) else (none))) else (none))) else (none))) else (none))) else (none)) = some r := H
    have A4 := Aside0.mk A40
    clear A40
    by_cases c5 : 4 + t149.size ≤ 9223372036854775807
    · rw [if_pos c5] at H
      have c5b0 := eq_true c5
      have c5b1 : decide (4 + t149.size ≤ 9223372036854775807) = true := decide_eq_true c5
      try have c5b2 : (9223372036854775807 < 4 + t149.size) = False := eq_false (Nat.not_lt.2 c5)
      replace H := Option.bind_eq_some_iff.mp H
      obtain ⟨t150, A60, H⟩ := H
      replace H : (if ((⟨#[83, 69, 71, 77]⟩ : ByteArray) ++ t149).size + t150.size ≤ 9223372036854775807 then ((impl_FixText.f k 0 2).bind fun t151 => (if (((⟨#[83, 69, 71, 77]⟩ : ByteArray) ++ t149) ++ t150).size + t151.size ≤ 9223372036854775807 then ((impl_FixText.f k a0_2 8).bind fun t152 => (if ((((⟨#[83, 69, 71, 77]⟩ : ByteArray) ++ t149) ++ t150) ++ t151).size + t152.size ≤ 9223372036854775807 then ((impl_FixText.f k a0_3 4).bind fun t153 => (if (((((⟨#[83, 69, 71, 77]⟩ : ByteArray) ++ t149) ++ t150) ++ t151) ++ t152).size + t153.size ≤ 9223372036854775807 then ((impl_SumOf.f k ((((((⟨#[83, 69, 71, 77]⟩ : ByteArray) ++ t149) ++ t150) ++ t151) ++ t152) ++ t153)).bind fun t154 => ((impl_FixText.f k t154 4).bind fun t155 => (if ((((((⟨#[83, 69, 71, 77]⟩ : ByteArray) ++ t149) ++ t150) ++ t151) ++ t152) ++ t153).size + t155.size ≤ 9223372036854775807 then (some (((((((⟨#[83, 69, 71, 77]⟩ : ByteArray) ++ t149) ++ t150) ++ t151) ++ t152) ++ t153) ++ t155)) else (none)))) else (none))) else (none))) else (none))) else (none)) = some r := H
      have A6 := Aside0.mk A60
      clear A60
      by_cases c7 : ((⟨#[83, 69, 71, 77]⟩ : ByteArray) ++ t149).size + t150.size ≤ 9223372036854775807
      · rw [if_pos c7] at H
        have c7b0 := eq_true c7
        have c7b1 : decide (((⟨#[83, 69, 71, 77]⟩ : ByteArray) ++ t149).size + t150.size ≤ 9223372036854775807) = true := decide_eq_true c7
        try have c7b2 : (9223372036854775807 < ((⟨#[83, 69, 71, 77]⟩ : ByteArray) ++ t149).size + t150.size) = False := eq_false (Nat.not_lt.2 c7)
        try have c7b3 : ∀ x_ : Nat, x_ = ((⟨#[83, 69, 71, 77]⟩ : ByteArray) ++ t149).size + t150.size → (9223372036854775807 < x_) = False := fun x_ hx_ => hx_ ▸ c7b2
        replace H := Option.bind_eq_some_iff.mp H
        obtain ⟨t151, A80, H⟩ := H
        replace H : (if (((⟨#[83, 69, 71, 77]⟩ : ByteArray) ++ t149) ++ t150).size + t151.size ≤ 9223372036854775807 then ((impl_FixText.f k a0_2 8).bind fun t152 => (if ((((⟨#[83, 69, 71, 77]⟩ : ByteArray) ++ t149) ++ t150) ++ t151).size + t152.size ≤ 9223372036854775807 then ((impl_FixText.f k a0_3 4).bind fun t153 => (if (((((⟨#[83, 69, 71, 77]⟩ : ByteArray) ++ t149) ++ t150) ++ t151) ++ t152).size + t153.size ≤ 9223372036854775807 then ((impl_SumOf.f k ((((((⟨#[83, 69, 71, 77]⟩ : ByteArray) ++ t149) ++ t150) ++ t151) ++ t152) ++ t153)).bind fun t154 => ((impl_FixText.f k t154 4).bind fun t155 => (if ((((((⟨#[83, 69, 71, 77]⟩ : ByteArray) ++ t149) ++ t150) ++ t151) ++ t152) ++ t153).size + t155.size ≤ 9223372036854775807 then (some (((((((⟨#[83, 69, 71, 77]⟩ : ByteArray) ++ t149) ++ t150) ++ t151) ++ t152) ++ t153) ++ t155)) else (none)))) else (none))) else (none))) else (none)) = some r := H
        have A8 := Aside0.mk A80
        clear A80
        by_cases c9 : (((⟨#[83, 69, 71, 77]⟩ : ByteArray) ++ t149) ++ t150).size + t151.size ≤ 9223372036854775807
        · rw [if_pos c9] at H
          have c9b0 := eq_true c9
          have c9b1 : decide ((((⟨#[83, 69, 71, 77]⟩ : ByteArray) ++ t149) ++ t150).size + t151.size ≤ 9223372036854775807) = true := decide_eq_true c9
          try have c9b2 : (9223372036854775807 < (((⟨#[83, 69, 71, 77]⟩ : ByteArray) ++ t149) ++ t150).size + t151.size) = False := eq_false (Nat.not_lt.2 c9)
          try have c9b3 : ∀ x_ : Nat, x_ = (((⟨#[83, 69, 71, 77]⟩ : ByteArray) ++ t149) ++ t150).size + t151.size → (9223372036854775807 < x_) = False := fun x_ hx_ => hx_ ▸ c9b2
          replace H := Option.bind_eq_some_iff.mp H
          obtain ⟨t152, A100, H⟩ := H
          replace H : (if ((((⟨#[83, 69, 71, 77]⟩ : ByteArray) ++ t149) ++ t150) ++ t151).size + t152.size ≤ 9223372036854775807 then ((impl_FixText.f k a0_3 4).bind fun t153 => (if (((((⟨#[83, 69, 71, 77]⟩ : ByteArray) ++ t149) ++ t150) ++ t151) ++ t152).size + t153.size ≤ 9223372036854775807 then ((impl_SumOf.f k ((((((⟨#[83, 69, 71, 77]⟩ : ByteArray) ++ t149) ++ t150) ++ t151) ++ t152) ++ t153)).bind fun t154 => ((impl_FixText.f k t154 4).bind fun t155 => (if ((((((⟨#[83, 69, 71, 77]⟩ : ByteArray) ++ t149) ++ t150) ++ t151) ++ t152) ++ t153).size + t155.size ≤ 9223372036854775807 then (some (((((((⟨#[83, 69, 71, 77]⟩ : ByteArray) ++ t149) ++ t150) ++ t151) ++ t152) ++ t153) ++ t155)) else (none)))) else (none))) else (none)) = some r := H
          have A10 := Aside0.mk A100
          clear A100
          by_cases c11 : ((((⟨#[83, 69, 71, 77]⟩ : ByteArray) ++ t149) ++ t150) ++ t151).size + t152.size ≤ 9223372036854775807
          · rw [if_pos c11] at H
            have c11b0 := eq_true c11
            have c11b1 : decide (((((⟨#[83, 69, 71, 77]⟩ : ByteArray) ++ t149) ++ t150) ++ t151).size + t152.size ≤ 9223372036854775807) = true := decide_eq_true c11
            try have c11b2 : (9223372036854775807 < ((((⟨#[83, 69, 71, 77]⟩ : ByteArray) ++ t149) ++ t150) ++ t151).size + t152.size) = False := eq_false (Nat.not_lt.2 c11)
            try have c11b3 : ∀ x_ : Nat, x_ = ((((⟨#[83, 69, 71, 77]⟩ : ByteArray) ++ t149) ++ t150) ++ t151).size + t152.size → (9223372036854775807 < x_) = False := fun x_ hx_ => hx_ ▸ c11b2
            replace H := Option.bind_eq_some_iff.mp H
            obtain ⟨t153, A120, H⟩ := H
            replace H : (if (((((⟨#[83, 69, 71, 77]⟩ : ByteArray) ++ t149) ++ t150) ++ t151) ++ t152).size + t153.size ≤ 9223372036854775807 then ((impl_SumOf.f k ((((((⟨#[83, 69, 71, 77]⟩ : ByteArray) ++ t149) ++ t150) ++ t151) ++ t152) ++ t153)).bind fun t154 => ((impl_FixText.f k t154 4).bind fun t155 => (if ((((((⟨#[83, 69, 71, 77]⟩ : ByteArray) ++ t149) ++ t150) ++ t151) ++ t152) ++ t153).size + t155.size ≤ 9223372036854775807 then (some (((((((⟨#[83, 69, 71, 77]⟩ : ByteArray) ++ t149) ++ t150) ++ t151) ++ t152) ++ t153) ++ t155)) else (none)))) else (none)) = some r := H
            have A12 := Aside0.mk A120
            clear A120
            by_cases c13 : (((((⟨#[83, 69, 71, 77]⟩ : ByteArray) ++ t149) ++ t150) ++ t151) ++ t152).size + t153.size ≤ 9223372036854775807
            · rw [if_pos c13] at H
              have c13b0 := eq_true c13
              have c13b1 : decide ((((((⟨#[83, 69, 71, 77]⟩ : ByteArray) ++ t149) ++ t150) ++ t151) ++ t152).size + t153.size ≤ 9223372036854775807) = true := decide_eq_true c13
              try have c13b2 : (9223372036854775807 < (((((⟨#[83, 69, 71, 77]⟩ : ByteArray) ++ t149) ++ t150) ++ t151) ++ t152).size + t153.size) = False := eq_false (Nat.not_lt.2 c13)
              try have c13b3 : ∀ x_ : Nat, x_ = (((((⟨#[83, 69, 71, 77]⟩ : ByteArray) ++ t149) ++ t150) ++ t151) ++ t152).size + t153.size → (9223372036854775807 < x_) = False := fun x_ hx_ => hx_ ▸ c13b2
              replace H := Option.bind_eq_some_iff.mp H
              obtain ⟨t154, A140, H⟩ := H
              replace H : ((impl_FixText.f k t154 4).bind fun t155 => (if ((((((⟨#[83, 69, 71, 77]⟩ : ByteArray) ++ t149) ++ t150) ++ t151) ++ t152) ++ t153).size + t155.size ≤ 9223372036854775807 then (some (((((((⟨#[83, 69, 71, 77]⟩ : ByteArray) ++ t149) ++ t150) ++ t151) ++ t152) ++ t153) ++ t155)) else (none))) = some r := H
              have A14 := Aside0.mk A140
              clear A140
              replace H := Option.bind_eq_some_iff.mp H
              obtain ⟨t155, A150, H⟩ := H
              replace H : (if ((((((⟨#[83, 69, 71, 77]⟩ : ByteArray) ++ t149) ++ t150) ++ t151) ++ t152) ++ t153).size + t155.size ≤ 9223372036854775807 then (some (((((((⟨#[83, 69, 71, 77]⟩ : ByteArray) ++ t149) ++ t150) ++ t151) ++ t152) ++ t153) ++ t155)) else (none)) = some r := H
              have A15 := Aside0.mk A150
              clear A150
              by_cases c16 : ((((((⟨#[83, 69, 71, 77]⟩ : ByteArray) ++ t149) ++ t150) ++ t151) ++ t152) ++ t153).size + t155.size ≤ 9223372036854775807
              · rw [if_pos c16] at H
                have c16b0 := eq_true c16
                have c16b1 : decide (((((((⟨#[83, 69, 71, 77]⟩ : ByteArray) ++ t149) ++ t150) ++ t151) ++ t152) ++ t153).size + t155.size ≤ 9223372036854775807) = true := decide_eq_true c16
                try have c16b2 : (9223372036854775807 < ((((((⟨#[83, 69, 71, 77]⟩ : ByteArray) ++ t149) ++ t150) ++ t151) ++ t152) ++ t153).size + t155.size) = False := eq_false (Nat.not_lt.2 c16)
                try have c16b3 : ∀ x_ : Nat, x_ = ((((((⟨#[83, 69, 71, 77]⟩ : ByteArray) ++ t149) ++ t150) ++ t151) ++ t152) ++ t153).size + t155.size → (9223372036854775807 < x_) = False := fun x_ hx_ => hx_ ▸ c16b2
                obtain rfl := Option.some.inj H
                go_enter Try.func62, Try.ntmps62
                try go_wp2_with (first | ((with_reducible refine gate_dst (N := 1) rfl ?_); refine box_event ?hg (N := 1) ?hd (cs := #[.int .i64 a0_0, .int .i64 a0_1, .int .i64 a0_2, .int .i64 a0_3]) (t := 30) ?hr ?_; (case hd => rfl); (case hg => rfl); (case hr => first | (go_simp; done) | (go_simp; rfl)); intro gb147 hg w17 hbox hb; have n0_ := Aside0.mk (below_step (by repeat (first | (with_reducible first | exact HB.out | apply below_alloc | apply pw_below_drewN | apply below_drew1) | exact HB.out)) hb); have n1_ := Aside0.mk (hbox); have n2_ := Aside0.mk ((by rw [hg]; exact (below_size (by repeat (first | (with_reducible first | exact HB.out | apply below_alloc | apply pw_below_drewN | apply below_drew1) | exact HB.out))) : w.heap.size ≤ gb147)); have n3_ := Aside0.mk ((by rw [hg]; exact (below_size (by repeat (first | (with_reducible first | exact HB.out | apply below_alloc | apply pw_below_drewN | apply below_drew1) | exact HB.out))) : w.heap.size ≤ gb147)); clear HB; have HB := n0_; have BK147 := n1_; have GW147 := n2_; have GE147 := n3_; clear n0_ n1_ n2_ n3_; clear hb hbox hg; have hcz18_0 : w17.cell? ⟨gb147, 0, none⟩ = some (.int .i64 a0_0) := (blk_cell BK147.out 0).trans rfl; have hcz18_1 : w17.cell? ⟨gb147, 1, none⟩ = some (.int .i64 a0_1) := (blk_cell BK147.out 1).trans rfl; have hcz18_2 : w17.cell? ⟨gb147, 2, none⟩ = some (.int .i64 a0_2) := (blk_cell BK147.out 2).trans rfl; have hcz18_3 : w17.cell? ⟨gb147, 3, none⟩ = some (.int .i64 a0_3) := (blk_cell BK147.out 3).trans rfl; have hfz18_0 := blk_frozen BK147.out 0; have hfz18_1 := blk_frozen BK147.out 1; have hfz18_2 := blk_frozen BK147.out 2; have hfz18_3 := blk_frozen BK147.out 3) | ((with_reducible refine gate_callee (f := 69) rfl ?_); refine goesL_ (some 5) rfl rfl Try.func69 (by kernel_rfl) rfl #[.agg #[.int .i64 a0_0, .int .i64 a0_1, .int .i64 a0_2, .int .i64 a0_3]] rfl (by (try simp only [List.map_toArray, List.map_cons, List.map_nil]); first | done | rfl | (simp only [List.length_drop, List.length_take]; rfl)) ?_; (with_reducible refine (impl_HeadOk.calls a0_0 a0_1 a0_2 a0_3 true _ A2.out).mono ?_); rintro e w19 ⟨rfl, hb⟩; refine ⟨_, rfl, ?_⟩; have n0_ := Aside0.mk (blk_below (g := gb147) (o := .cells #[.int .i64 a0_0, .int .i64 a0_1, .int .i64 a0_2, .int .i64 a0_3] 30 (0, 0)) (by (with_reducible repeat (first | refine blk_drewN ?_ _ | refine blk_drew ?_ | refine blk_alloc ?_ _)); exact BK147.out) hb); have n1_ := Aside0.mk (below_step (by repeat (first | (with_reducible first | exact HB.out | apply below_alloc | apply pw_below_drewN | apply below_drew1 | refine below_set ?_ GE147.out) | exact HB.out)) hb); clear BK147; clear HB; have BK147 := n0_; have HB := n1_; clear n0_ n1_; (try clear hb); (try clear hb2); (try clear hk); (try clear hi)))
                have n0_ := Aside0.mk (blk_drew BK147.out)
                have n1_ := Aside0.mk (below_drew1 HB.out)
                clear BK147
                clear HB
                have BK147 := n0_
                have HB := n1_
                clear n0_ n1_
                refine start_ (n := 19) (S := fun w' => w'.cell? ⟨gb147, 0, none⟩ = some (.int .i64 a0_0) ∧ w'.cell? ⟨gb147, 1, none⟩ = some (.int .i64 a0_1) ∧ w'.cell? ⟨gb147, 2, none⟩ = some (.int .i64 a0_2) ∧ w'.cell? ⟨gb147, 3, none⟩ = some (.int .i64 a0_3)) (ds := []) #[false, false, false, false, false, false, false, false, false, false, false, false, false, false, false, false, false, false, false] (by kernel_rfl) rfl rfl ⟨(blk_cell BK147.out 0).trans rfl, (blk_cell BK147.out 1).trans rfl, (blk_cell BK147.out 2).trans rfl, (blk_cell BK147.out 3).trans rfl⟩ (fun hHeld => ?_); refine with_tabW impl_HeadText.tab3 impl_HeadText.bits3 (fun HT_ HW_ => ?_)
                generalize w19.drew = w20 at BK147 HB hHeld ⊢
                refine pure_ (i := 0) (N := some 7) (v := ?_) (a' := ?_) #[true, false, false, false, false, false, false, false, false, false, false, false, false, false, false, false, false, false, false] rfl rfl (any_of HT_.out (by kernel_rfl)) (fun _ _ _ h => h) (Or.inl ⟨by rfl, ?_⟩) ?_ ?_
                rotate_left
                · intro w'
                  go_simp
                  with_reducible rfl
                rotate_left
                · simp only [Act.put, List.setIfInBounds_toArray, List.set_cons_zero, List.set_cons_succ, i64_w, i32_w]
                  rfl
                refine pure_ (i := 4) (N := some 11) (v := ?_) (a' := ?_) #[true, false, false, false, true, false, false, false, false, false, false, false, false, false, false, false, false, false, false] rfl rfl (any_of HT_.out (by kernel_rfl)) (fun _ _ _ h => h) (Or.inl ⟨by rfl, ?_⟩) ?_ ?_
                rotate_left
                · intro w'
                  go_simp
                  with_reducible rfl
                rotate_left
                · simp only [Act.put, List.setIfInBounds_toArray, List.set_cons_zero, List.set_cons_succ, i64_w, i32_w]
                  rfl
                refine pure_ (i := 10) (N := some 17) (v := ?_) (a' := ?_) #[true, false, false, false, true, false, false, false, false, false, true, false, false, false, false, false, false, false, false] rfl rfl (any_of HT_.out (by kernel_rfl)) (fun _ _ _ h => h) (Or.inl ⟨by rfl, ?_⟩) ?_ ?_
                rotate_left
                · intro w'
                  go_simp
                  with_reducible rfl
                rotate_left
                · simp only [Act.put, List.setIfInBounds_toArray, List.set_cons_zero, List.set_cons_succ, i64_w, i32_w]
                  rfl
                refine pure_ (i := 14) (N := some 21) (v := ?_) (a' := ?_) #[true, false, false, false, true, false, false, false, false, false, true, false, false, false, true, false, false, false, false] rfl rfl (any_of HT_.out (by kernel_rfl)) (fun _ _ _ h => h) (Or.inl ⟨by rfl, ?_⟩) ?_ ?_
                rotate_left
                · intro w'
                  go_simp
                  with_reducible rfl
                rotate_left
                · simp only [Act.put, List.setIfInBounds_toArray, List.set_cons_zero, List.set_cons_succ, i64_w, i32_w]
                  rfl
                refine take_ (i := 1) (N := some 8) (v := ?_) (a' := ?_) #[true, true, false, false, true, false, false, false, false, false, true, false, false, false, true, false, false, false, false] rfl rfl (take_ofW HT_.out HW_.out (by kernel_rfl)) (fun _ _ _ h => h) (Or.inl ⟨by rfl, ?_⟩) hHeld ?_ ?_
                rotate_left
                · rintro w' ⟨s0, s1, s2, s3⟩
                  go_simp
                  with_reducible rfl
                rotate_left
                · simp only [Act.put, List.setIfInBounds_toArray, List.set_cons_zero, List.set_cons_succ, i64_w, i32_w]
                  rfl
                refine take_ (i := 5) (N := some 12) (v := ?_) (a' := ?_) #[true, true, false, false, true, true, false, false, false, false, true, false, false, false, true, false, false, false, false] rfl rfl (take_ofW HT_.out HW_.out (by kernel_rfl)) (fun _ _ _ h => h) (Or.inl ⟨by rfl, ?_⟩) hHeld ?_ ?_
                rotate_left
                · rintro w' ⟨s0, s1, s2, s3⟩
                  go_simp
                  with_reducible rfl
                rotate_left
                · simp only [Act.put, List.setIfInBounds_toArray, List.set_cons_zero, List.set_cons_succ, i64_w, i32_w]
                  rfl
                refine take_ (i := 11) (N := some 18) (v := ?_) (a' := ?_) #[true, true, false, false, true, true, false, false, false, false, true, true, false, false, true, false, false, false, false] rfl rfl (take_ofW HT_.out HW_.out (by kernel_rfl)) (fun _ _ _ h => h) (Or.inl ⟨by rfl, ?_⟩) hHeld ?_ ?_
                rotate_left
                · rintro w' ⟨s0, s1, s2, s3⟩
                  go_simp
                  with_reducible rfl
                rotate_left
                · simp only [Act.put, List.setIfInBounds_toArray, List.set_cons_zero, List.set_cons_succ, i64_w, i32_w]
                  rfl
                refine take_ (i := 15) (N := some 22) (v := ?_) (a' := ?_) #[true, true, false, false, true, true, false, false, false, false, true, true, false, false, true, true, false, false, false] rfl rfl (take_ofW HT_.out HW_.out (by kernel_rfl)) (fun _ _ _ h => h) (Or.inl ⟨by rfl, ?_⟩) hHeld ?_ ?_
                rotate_left
                · rintro w' ⟨s0, s1, s2, s3⟩
                  go_simp
                  with_reducible rfl
                rotate_left
                · simp only [Act.put, List.setIfInBounds_toArray, List.set_cons_zero, List.set_cons_succ, i64_w, i32_w]
                  rfl
                refine one_ (i := 2) (N := some 9) #[true, true, true, false, true, true, false, false, false, false, true, true, false, false, true, true, false, false, false] rfl rfl (one_of HT_.out (by kernel_rfl)) (by decide) (fun K hK => ?_)
                refine goes_ Try.func91 (by kernel_rfl) rfl #[.int .i64 a0_0, .int .i64 1] (by rfl) rfl rfl (by (try simp only [List.map_toArray, List.map_cons, List.map_nil]); first | done | rfl | (simp only [List.length_drop, List.length_take]; rfl)) ?_
                with_reducible refine (impl_FixText.calls k a0_0 1 t149 _ A4.out).mono ?_
                rintro e w21 ⟨rfl, hb⟩
                refine ⟨_, rfl, ?_⟩
                have n0_ := Aside0.mk (blk_below (g := gb147) (o := .cells #[.int .i64 a0_0, .int .i64 a0_1, .int .i64 a0_2, .int .i64 a0_3] 30 (0, 0)) (by (with_reducible repeat (first | refine blk_drewN ?_ _ | refine blk_drew ?_ | refine blk_alloc ?_ _)); exact BK147.out) hb)
                have n1_ := Aside0.mk (below_step (by repeat (first | (with_reducible first | exact HB.out | apply below_alloc | apply pw_below_drewN | apply below_drew1 | refine below_set ?_ GE147.out) | exact HB.out)) hb)
                clear BK147
                clear HB
                have BK147 := n0_
                have HB := n1_
                clear n0_ n1_
                (try clear hb)
                (try clear hb2)
                (try clear hk)
                (try clear hi)
                refine hK.out _ _ ⟨(blk_cell BK147.out 0).trans rfl, (blk_cell BK147.out 1).trans rfl, (blk_cell BK147.out 2).trans rfl, (blk_cell BK147.out 3).trans rfl⟩ (fun hHeld => ?_)
                clear hK K
                refine norm_ (a' := ?_) ?_ ?_
                rotate_left
                · show Act.put _ (some 9) _ = _
                  simp only [Act.put, List.setIfInBounds_toArray, List.set_cons_zero, List.set_cons_succ, i64_w, i32_w]
                  rfl
                refine pure_ (i := 3) (N := some 10) (v := ?_) (a' := ?_) #[true, true, true, true, true, true, false, false, false, false, true, true, false, false, true, true, false, false, false] rfl rfl (any_of HT_.out (by kernel_rfl)) (fun _ _ _ h => h) (Or.inl ⟨by rfl, ?_⟩) ?_ ?_
                rotate_left
                · intro w'
                  go_simp
                  with_reducible rfl
                rotate_left
                · simp only [Act.put, List.setIfInBounds_toArray, List.set_cons_zero, List.set_cons_succ, i64_w, i32_w]
                  rfl
                refine one_ (i := 6) (N := some 13) #[true, true, true, true, true, true, true, false, false, false, true, true, false, false, true, true, false, false, false] rfl rfl (one_of HT_.out (by kernel_rfl)) (by decide) (fun K hK => ?_)
                refine goes_ Try.func91 (by kernel_rfl) rfl #[.int .i64 a0_1, .int .i64 1] (by rfl) rfl rfl (by (try simp only [List.map_toArray, List.map_cons, List.map_nil]); first | done | rfl | (simp only [List.length_drop, List.length_take]; rfl)) ?_
                with_reducible refine (impl_FixText.calls k a0_1 1 t150 _ A6.out).mono ?_
                rintro e w22 ⟨rfl, hb⟩
                refine ⟨_, rfl, ?_⟩
                have n0_ := Aside0.mk (blk_below (g := gb147) (o := .cells #[.int .i64 a0_0, .int .i64 a0_1, .int .i64 a0_2, .int .i64 a0_3] 30 (0, 0)) (by (with_reducible repeat (first | refine blk_drewN ?_ _ | refine blk_drew ?_ | refine blk_alloc ?_ _)); exact BK147.out) hb)
                have n1_ := Aside0.mk (below_step (by repeat (first | (with_reducible first | exact HB.out | apply below_alloc | apply pw_below_drewN | apply below_drew1 | refine below_set ?_ GE147.out) | exact HB.out)) hb)
                clear BK147
                clear HB
                have BK147 := n0_
                have HB := n1_
                clear n0_ n1_
                (try clear hb)
                (try clear hb2)
                (try clear hk)
                (try clear hi)
                refine hK.out _ _ ⟨(blk_cell BK147.out 0).trans rfl, (blk_cell BK147.out 1).trans rfl, (blk_cell BK147.out 2).trans rfl, (blk_cell BK147.out 3).trans rfl⟩ (fun hHeld => ?_)
                clear hK K
                refine norm_ (a' := ?_) ?_ ?_
                rotate_left
                · show Act.put _ (some 13) _ = _
                  simp only [Act.put, List.setIfInBounds_toArray, List.set_cons_zero, List.set_cons_succ, i64_w, i32_w]
                  rfl
                refine pure_ (i := 7) (N := some 14) (v := ?_) (a' := ?_) #[true, true, true, true, true, true, true, true, false, false, true, true, false, false, true, true, false, false, false] rfl rfl (any_of HT_.out (by kernel_rfl)) (fun _ _ _ h => h) (Or.inl ⟨by rfl, ?_⟩) ?_ ?_
                rotate_left
                · intro w'
                  go_simp
                  with_reducible rfl
                rotate_left
                · simp only [Act.put, List.setIfInBounds_toArray, List.set_cons_zero, List.set_cons_succ, i64_w, i32_w]
                  rfl
                refine one_ (i := 8) (N := some 15) #[true, true, true, true, true, true, true, true, true, false, true, true, false, false, true, true, false, false, false] rfl rfl (one_of HT_.out (by kernel_rfl)) (by decide) (fun K hK => ?_)
                refine goes_ Try.func91 (by kernel_rfl) rfl #[.int .i64 0, .int .i64 2] (by rfl) rfl rfl (by (try simp only [List.map_toArray, List.map_cons, List.map_nil]); first | done | rfl | (simp only [List.length_drop, List.length_take]; rfl)) ?_
                with_reducible refine (impl_FixText.calls k 0 2 t151 _ A8.out).mono ?_
                rintro e w23 ⟨rfl, hb⟩
                refine ⟨_, rfl, ?_⟩
                have n0_ := Aside0.mk (blk_below (g := gb147) (o := .cells #[.int .i64 a0_0, .int .i64 a0_1, .int .i64 a0_2, .int .i64 a0_3] 30 (0, 0)) (by (with_reducible repeat (first | refine blk_drewN ?_ _ | refine blk_drew ?_ | refine blk_alloc ?_ _)); exact BK147.out) hb)
                have n1_ := Aside0.mk (below_step (by repeat (first | (with_reducible first | exact HB.out | apply below_alloc | apply pw_below_drewN | apply below_drew1 | refine below_set ?_ GE147.out) | exact HB.out)) hb)
                clear BK147
                clear HB
                have BK147 := n0_
                have HB := n1_
                clear n0_ n1_
                (try clear hb)
                (try clear hb2)
                (try clear hk)
                (try clear hi)
                refine hK.out _ _ ⟨(blk_cell BK147.out 0).trans rfl, (blk_cell BK147.out 1).trans rfl, (blk_cell BK147.out 2).trans rfl, (blk_cell BK147.out 3).trans rfl⟩ (fun hHeld => ?_)
                clear hK K
                refine norm_ (a' := ?_) ?_ ?_
                rotate_left
                · show Act.put _ (some 15) _ = _
                  simp only [Act.put, List.setIfInBounds_toArray, List.set_cons_zero, List.set_cons_succ, i64_w, i32_w]
                  rfl
                refine pure_ (i := 9) (N := some 16) (v := ?_) (a' := ?_) #[true, true, true, true, true, true, true, true, true, true, true, true, false, false, true, true, false, false, false] rfl rfl (any_of HT_.out (by kernel_rfl)) (fun _ _ _ h => h) (Or.inl ⟨by rfl, ?_⟩) ?_ ?_
                rotate_left
                · intro w'
                  go_simp
                  with_reducible rfl
                rotate_left
                · simp only [Act.put, List.setIfInBounds_toArray, List.set_cons_zero, List.set_cons_succ, i64_w, i32_w]
                  rfl
                refine one_ (i := 12) (N := some 19) #[true, true, true, true, true, true, true, true, true, true, true, true, true, false, true, true, false, false, false] rfl rfl (one_of HT_.out (by kernel_rfl)) (by decide) (fun K hK => ?_)
                refine goes_ Try.func91 (by kernel_rfl) rfl #[.int .i64 a0_2, .int .i64 8] (by rfl) rfl rfl (by (try simp only [List.map_toArray, List.map_cons, List.map_nil]); first | done | rfl | (simp only [List.length_drop, List.length_take]; rfl)) ?_
                with_reducible refine (impl_FixText.calls k a0_2 8 t152 _ A10.out).mono ?_
                rintro e w24 ⟨rfl, hb⟩
                refine ⟨_, rfl, ?_⟩
                have n0_ := Aside0.mk (blk_below (g := gb147) (o := .cells #[.int .i64 a0_0, .int .i64 a0_1, .int .i64 a0_2, .int .i64 a0_3] 30 (0, 0)) (by (with_reducible repeat (first | refine blk_drewN ?_ _ | refine blk_drew ?_ | refine blk_alloc ?_ _)); exact BK147.out) hb)
                have n1_ := Aside0.mk (below_step (by repeat (first | (with_reducible first | exact HB.out | apply below_alloc | apply pw_below_drewN | apply below_drew1 | refine below_set ?_ GE147.out) | exact HB.out)) hb)
                clear BK147
                clear HB
                have BK147 := n0_
                have HB := n1_
                clear n0_ n1_
                (try clear hb)
                (try clear hb2)
                (try clear hk)
                (try clear hi)
                refine hK.out _ _ ⟨(blk_cell BK147.out 0).trans rfl, (blk_cell BK147.out 1).trans rfl, (blk_cell BK147.out 2).trans rfl, (blk_cell BK147.out 3).trans rfl⟩ (fun hHeld => ?_)
                clear hK K
                refine norm_ (a' := ?_) ?_ ?_
                rotate_left
                · show Act.put _ (some 19) _ = _
                  simp only [Act.put, List.setIfInBounds_toArray, List.set_cons_zero, List.set_cons_succ, i64_w, i32_w]
                  rfl
                refine pure_ (i := 13) (N := some 20) (v := ?_) (a' := ?_) #[true, true, true, true, true, true, true, true, true, true, true, true, true, true, true, true, false, false, false] rfl rfl (any_of HT_.out (by kernel_rfl)) (fun _ _ _ h => h) (Or.inl ⟨by rfl, ?_⟩) ?_ ?_
                rotate_left
                · intro w'
                  go_simp
                  with_reducible rfl
                rotate_left
                · simp only [Act.put, List.setIfInBounds_toArray, List.set_cons_zero, List.set_cons_succ, i64_w, i32_w]
                  rfl
                refine one_ (i := 16) (N := some 23) #[true, true, true, true, true, true, true, true, true, true, true, true, true, true, true, true, true, false, false] rfl rfl (one_of HT_.out (by kernel_rfl)) (by decide) (fun K hK => ?_)
                refine goes_ Try.func91 (by kernel_rfl) rfl #[.int .i64 a0_3, .int .i64 4] (by rfl) rfl rfl (by (try simp only [List.map_toArray, List.map_cons, List.map_nil]); first | done | rfl | (simp only [List.length_drop, List.length_take]; rfl)) ?_
                with_reducible refine (impl_FixText.calls k a0_3 4 t153 _ A12.out).mono ?_
                rintro e w25 ⟨rfl, hb⟩
                refine ⟨_, rfl, ?_⟩
                have n0_ := Aside0.mk (blk_below (g := gb147) (o := .cells #[.int .i64 a0_0, .int .i64 a0_1, .int .i64 a0_2, .int .i64 a0_3] 30 (0, 0)) (by (with_reducible repeat (first | refine blk_drewN ?_ _ | refine blk_drew ?_ | refine blk_alloc ?_ _)); exact BK147.out) hb)
                have n1_ := Aside0.mk (below_step (by repeat (first | (with_reducible first | exact HB.out | apply below_alloc | apply pw_below_drewN | apply below_drew1 | refine below_set ?_ GE147.out) | exact HB.out)) hb)
                clear BK147
                clear HB
                have BK147 := n0_
                have HB := n1_
                clear n0_ n1_
                (try clear hb)
                (try clear hb2)
                (try clear hk)
                (try clear hi)
                refine hK.out _ _ ⟨(blk_cell BK147.out 0).trans rfl, (blk_cell BK147.out 1).trans rfl, (blk_cell BK147.out 2).trans rfl, (blk_cell BK147.out 3).trans rfl⟩ (fun hHeld => ?_)
                clear hK K
                refine norm_ (a' := ?_) ?_ ?_
                rotate_left
                · show Act.put _ (some 23) _ = _
                  simp only [Act.put, List.setIfInBounds_toArray, List.set_cons_zero, List.set_cons_succ, i64_w, i32_w]
                  rfl
                refine pure_ (i := 17) (N := some 24) (v := ?_) (a' := ?_) #[true, true, true, true, true, true, true, true, true, true, true, true, true, true, true, true, true, true, false] rfl rfl (any_of HT_.out (by kernel_rfl)) (fun _ _ _ h => h) (Or.inl ⟨by rfl, ?_⟩) ?_ ?_
                rotate_left
                · intro w'
                  go_simp
                  with_reducible rfl
                rotate_left
                · simp only [Act.put, List.setIfInBounds_toArray, List.set_cons_zero, List.set_cons_succ, i64_w, i32_w]
                  rfl
                refine pure_ (i := 18) (N := some 3) (v := ?_) (a' := ?_) #[true, true, true, true, true, true, true, true, true, true, true, true, true, true, true, true, true, true, true] rfl rfl (any_of HT_.out (by kernel_rfl)) (fun _ _ _ h => h) (Or.inl ⟨by rfl, ?_⟩) ?_ ?_
                rotate_left
                · intro w'
                  go_simp
                  with_reducible rfl
                rotate_left
                · simp only [Act.put, List.setIfInBounds_toArray, List.set_cons_zero, List.set_cons_succ, i64_w, i32_w]
                  rfl
                refine done_ (done_of HT_.out (by kernel_rfl)) ?_
                try go_wp2_with (first | ((with_reducible refine gate_callee (f := 72) rfl ?_); refine goesL_ (some 27) rfl rfl Try.func72 (by kernel_rfl) rfl #[.string ((((((⟨#[83, 69, 71, 77]⟩ : ByteArray) ++ t149) ++ t150) ++ t151) ++ t152) ++ t153)] rfl (by (try simp only [List.map_toArray, List.map_cons, List.map_nil]); first | done | rfl | (simp only [List.length_drop, List.length_take]; rfl)) ?_; (with_reducible refine (impl_SumOf.calls k ((((((⟨#[83, 69, 71, 77]⟩ : ByteArray) ++ t149) ++ t150) ++ t151) ++ t152) ++ t153) t154 _ A14.out).mono ?_); rintro e w' ⟨rfl, ⟨nd, rfl⟩⟩; refine ⟨_, rfl, ?_⟩) | ((with_reducible refine gate_callee (f := 91) rfl ?_); refine goesL_ (some 28) rfl rfl Try.func91 (by kernel_rfl) rfl #[.int .i64 t154, .int .i64 4] rfl (by (try simp only [List.map_toArray, List.map_cons, List.map_nil]); first | done | rfl | (simp only [List.length_drop, List.length_take]; rfl)) ?_; (with_reducible refine (impl_FixText.calls k t154 4 t155 _ A15.out).mono ?_); rintro e w26 ⟨rfl, hb⟩; refine ⟨_, rfl, ?_⟩; have n0_ := Aside0.mk (blk_below (g := gb147) (o := .cells #[.int .i64 a0_0, .int .i64 a0_1, .int .i64 a0_2, .int .i64 a0_3] 30 (0, 0)) (by (with_reducible repeat (first | refine blk_drewN ?_ _ | refine blk_drew ?_ | refine blk_alloc ?_ _)); exact BK147.out) hb); have n1_ := Aside0.mk (below_step (by repeat (first | (with_reducible first | exact HB.out | apply below_alloc | apply pw_below_drewN | apply below_drew1 | refine below_set ?_ GE147.out) | exact HB.out)) hb); clear BK147; clear HB; have BK147 := n0_; have HB := n1_; clear n0_ n1_; (try clear hb); (try clear hb2); (try clear hk); (try clear hi)))
                go_ret
                exact ⟨by first | rfl | (simp [errW_none, errW_some] <;> rfl) | (simp [*, errW_none, errW_some] <;> rfl), by repeat (first | (with_reducible first | exact HB.out | apply below_alloc | apply pw_below_drewN | apply below_drew1 | refine below_set ?_ GE147.out) | exact HB.out)⟩
              · rw [if_neg c16] at H
                exact absurd H (by simp)
            · rw [if_neg c13] at H
              exact absurd H (by simp)
          · rw [if_neg c11] at H
            exact absurd H (by simp)
        · rw [if_neg c9] at H
          exact absurd H (by simp)
      · rw [if_neg c7] at H
        exact absurd H (by simp)
    · rw [if_neg c5] at H
      exact absurd H (by simp)
  · replace c3 := Bool.eq_false_iff.mpr c3
    subst c3
    have H1 : (some (⟨#[]⟩ : ByteArray)) = some r := by rw [if_neg (show ¬ (false = true) by decide)] at H; exact H
    clear H
    have H := H1
    clear H1
    obtain rfl := Option.some.inj H
    go_enter Try.func62, Try.ntmps62
    go_wp2_with (first | ((with_reducible refine gate_dst (N := 1) rfl ?_); refine box_event ?hg (N := 1) ?hd (cs := #[.int .i64 a0_0, .int .i64 a0_1, .int .i64 a0_2, .int .i64 a0_3]) (t := 30) ?hr ?_; (case hd => rfl); (case hg => rfl); (case hr => first | (go_simp; done) | (go_simp; rfl)); intro gb147 hg w27 hbox hb; have n0_ := Aside0.mk (below_step (by repeat (first | (with_reducible first | exact HB.out | apply below_alloc | apply pw_below_drewN | apply below_drew1) | exact HB.out)) hb); have n1_ := Aside0.mk (hbox); have n2_ := Aside0.mk ((by rw [hg]; exact (below_size (by repeat (first | (with_reducible first | exact HB.out | apply below_alloc | apply pw_below_drewN | apply below_drew1) | exact HB.out))) : w.heap.size ≤ gb147)); have n3_ := Aside0.mk ((by rw [hg]; exact (below_size (by repeat (first | (with_reducible first | exact HB.out | apply below_alloc | apply pw_below_drewN | apply below_drew1) | exact HB.out))) : w.heap.size ≤ gb147)); clear HB; have HB := n0_; have BK147 := n1_; have GW147 := n2_; have GE147 := n3_; clear n0_ n1_ n2_ n3_; clear hb hbox hg; have hcz28_0 : w27.cell? ⟨gb147, 0, none⟩ = some (.int .i64 a0_0) := (blk_cell BK147.out 0).trans rfl; have hcz28_1 : w27.cell? ⟨gb147, 1, none⟩ = some (.int .i64 a0_1) := (blk_cell BK147.out 1).trans rfl; have hcz28_2 : w27.cell? ⟨gb147, 2, none⟩ = some (.int .i64 a0_2) := (blk_cell BK147.out 2).trans rfl; have hcz28_3 : w27.cell? ⟨gb147, 3, none⟩ = some (.int .i64 a0_3) := (blk_cell BK147.out 3).trans rfl; have hfz28_0 := blk_frozen BK147.out 0; have hfz28_1 := blk_frozen BK147.out 1; have hfz28_2 := blk_frozen BK147.out 2; have hfz28_3 := blk_frozen BK147.out 3) | ((with_reducible refine gate_callee (f := 69) rfl ?_); refine goesL_ (some 5) rfl rfl Try.func69 (by kernel_rfl) rfl #[.agg #[.int .i64 a0_0, .int .i64 a0_1, .int .i64 a0_2, .int .i64 a0_3]] rfl (by (try simp only [List.map_toArray, List.map_cons, List.map_nil]); first | done | rfl | (simp only [List.length_drop, List.length_take]; rfl)) ?_; (with_reducible refine (impl_HeadOk.calls a0_0 a0_1 a0_2 a0_3 false _ A2.out).mono ?_); rintro e w29 ⟨rfl, hb⟩; refine ⟨_, rfl, ?_⟩; have n0_ := Aside0.mk (blk_below (g := gb147) (o := .cells #[.int .i64 a0_0, .int .i64 a0_1, .int .i64 a0_2, .int .i64 a0_3] 30 (0, 0)) (by (with_reducible repeat (first | refine blk_drewN ?_ _ | refine blk_drew ?_ | refine blk_alloc ?_ _)); exact BK147.out) hb); have n1_ := Aside0.mk (below_step (by repeat (first | (with_reducible first | exact HB.out | apply below_alloc | apply pw_below_drewN | apply below_drew1 | refine below_set ?_ GE147.out) | exact HB.out)) hb); clear BK147; clear HB; have BK147 := n0_; have HB := n1_; clear n0_ n1_; (try clear hb); (try clear hb2); (try clear hk); (try clear hi)))
    go_ret
    exact ⟨by first | rfl | (simp [errW_none, errW_some] <;> rfl) | (simp [*, errW_none, errW_some] <;> rfl), by repeat (first | (with_reducible first | exact HB.out | apply below_alloc | apply pw_below_drewN | apply below_drew1 | refine below_set ?_ GE147.out) | exact HB.out)⟩

end Go.Proofs.Ytkkendhkiopnbaa.QFnExactReadHead
