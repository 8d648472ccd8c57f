-- Written by a program of this session (wip/myprint.py) for the law FnExactTailOf: plain functions and contracts, function by function.
import Derived.Test.YtkkendhkiopnbaaQFnExactTailOfx0
import Derived.Test.YtkkendhkiopnbaaQFnExactTailOfx1
namespace Go.Proofs.Ytkkendhkiopnbaa.QFnExactTailOf
open Go.RowKit Go.Proofs.YtkkendhkiopnbaaW.PrintWords Go.Proofs.YtkkendhkiopnbaaW.PrintLast Go.Proofs.YtkkendhkiopnbaaW.PrintMore
attribute [local go_sem] max2_int min2_int max_two min_two max_three min_three max_four min_four   -- for this text's walks alone
set_option linter.unusedVariables false
set_option linter.unusedSimpArgs false

/-! ### spec_HeadText: function 60 -/
def spec_HeadText.f (k : Nat) (a0_0 : Int) (a0_1 : Int) (a0_2 : Int) (a0_3 : Int) : Option (ByteArray) := (spec_HeadOk.f a0_0 a0_1 a0_2 a0_3).bind fun t118 => (if t118 = true then ((spec_FixText.f k a0_0 1).bind fun t119 => (if 4 + t119.size ≤ 9223372036854775807 then ((spec_FixText.f k a0_1 1).bind fun t120 => (if ((⟨#[83, 69, 71, 77]⟩ : ByteArray) ++ t119).size + t120.size ≤ 9223372036854775807 then (if (((⟨#[83, 69, 71, 77]⟩ : ByteArray) ++ t119) ++ t120).size + 2 ≤ 9223372036854775807 then ((spec_FixText.f k a0_2 8).bind fun t121 => (if ((((⟨#[83, 69, 71, 77]⟩ : ByteArray) ++ t119) ++ t120) ++ (⟨#[0, 0]⟩ : ByteArray)).size + t121.size ≤ 9223372036854775807 then ((spec_FixText.f k a0_3 4).bind fun t122 => (if (((((⟨#[83, 69, 71, 77]⟩ : ByteArray) ++ t119) ++ t120) ++ (⟨#[0, 0]⟩ : ByteArray)) ++ t121).size + t122.size ≤ 9223372036854775807 then ((spec_SumOf.f k ((((((⟨#[83, 69, 71, 77]⟩ : ByteArray) ++ t119) ++ t120) ++ (⟨#[0, 0]⟩ : ByteArray)) ++ t121) ++ t122)).bind fun t123 => ((spec_FixText.f k t123 4).bind fun t124 => (if ((((((⟨#[83, 69, 71, 77]⟩ : ByteArray) ++ t119) ++ t120) ++ (⟨#[0, 0]⟩ : ByteArray)) ++ t121) ++ t122).size + t124.size ≤ 9223372036854775807 then (some (((((((⟨#[83, 69, 71, 77]⟩ : ByteArray) ++ t119) ++ t120) ++ (⟨#[0, 0]⟩ : ByteArray)) ++ t121) ++ t122) ++ t124)) else (none)))) else (none))) else (none))) else (none)) else (none))) else (none))) else (some (⟨#[]⟩ : ByteArray)))
def spec_HeadText.T3 : Bool × List (List Nat × List Nat) := (true, [([], []), ([0], [0]), ([1], [1]), ([2], [2]), ([], []), ([4], [4]), ([5, 2], [5]), ([3, 6], [3, 6]), ([7], [7]), ([], []), ([9], [9]), ([10, 6], [10]), ([8, 11], [8, 11]), ([], []), ([13], [13]), ([14, 11], [14]), ([12, 15], [12, 15]), ([16, 15, 0, 1, 2, 3, 4, 5, 6, 7, 8, 9, 10, 11, 12, 13, 14, 15, 16], [16])])
def spec_HeadText.B3 : List Nat := [0, 1, 3, 7, 0, 16, 55, 127, 255, 0, 512, 1655, 4095, 0, 8192, 28279, 65535, 131071]
theorem spec_HeadText.tab3 : rtab .any (opsOf Try.f60 3) = spec_HeadText.T3 := by kernel_rfl
theorem spec_HeadText.bits3 : waitsOk spec_HeadText.T3.2 spec_HeadText.B3 = true := by kernel_rfl
set_option maxHeartbeats 8000000 in
set_option maxRecDepth 100000 in
theorem spec_HeadText.calls (k : Nat) (a0_0 : Int) (a0_1 : Int) (a0_2 : Int) (a0_3 : Int) (r : ByteArray) (w : World) (h : spec_HeadText.f k a0_0 a0_1 a0_2 a0_3 = some r) :
    Calls Try.prog 60 #[.agg #[.int .i64 a0_0, .int .i64 a0_1, .int .i64 a0_2, .int .i64 a0_3]] w fun e w' => e = .returned (.string r) ∧ Below w.heap.size w w' := by
  have hu30 := Try.underlying30
  have HB := Aside0.mk (Below.refl w.heap.size w)
  have H : ((spec_HeadOk.f a0_0 a0_1 a0_2 a0_3).bind fun t118 => (if t118 = true then ((spec_FixText.f k a0_0 1).bind fun t119 => (if 4 + t119.size ≤ 9223372036854775807 then ((spec_FixText.f k a0_1 1).bind fun t120 => (if ((⟨#[83, 69, 71, 77]⟩ : ByteArray) ++ t119).size + t120.size ≤ 9223372036854775807 then (if (((⟨#[83, 69, 71, 77]⟩ : ByteArray) ++ t119) ++ t120).size + 2 ≤ 9223372036854775807 then ((spec_FixText.f k a0_2 8).bind fun t121 => (if ((((⟨#[83, 69, 71, 77]⟩ : ByteArray) ++ t119) ++ t120) ++ (⟨#[0, 0]⟩ : ByteArray)).size + t121.size ≤ 9223372036854775807 then ((spec_FixText.f k a0_3 4).bind fun t122 => (if (((((⟨#[83, 69, 71, 77]⟩ : ByteArray) ++ t119) ++ t120) ++ (⟨#[0, 0]⟩ : ByteArray)) ++ t121).size + t122.size ≤ 9223372036854775807 then ((spec_SumOf.f k ((((((⟨#[83, 69, 71, 77]⟩ : ByteArray) ++ t119) ++ t120) ++ (⟨#[0, 0]⟩ : ByteArray)) ++ t121) ++ t122)).bind fun t123 => ((spec_FixText.f k t123 4).bind fun t124 => (if ((((((⟨#[83, 69, 71, 77]⟩ : ByteArray) ++ t119) ++ t120) ++ (⟨#[0, 0]⟩ : ByteArray)) ++ t121) ++ t122).size + t124.size ≤ 9223372036854775807 then (some (((((((⟨#[83, 69, 71, 77]⟩ : ByteArray) ++ t119) ++ t120) ++ (⟨#[0, 0]⟩ : ByteArray)) ++ t121) ++ t122) ++ t124)) else (none)))) else (none))) else (none))) else (none)) else (none))) else (none))) else (some (⟨#[]⟩ : ByteArray)))) = some r := h
  clear h
  replace H := Option.bind_eq_some_iff.mp H
  obtain ⟨t118, A20, H⟩ := H
  replace H : (if t118 = true then ((spec_FixText.f k a0_0 1).bind fun t119 => (if 4 + t119.size ≤ 9223372036854775807 then ((spec_FixText.f k a0_1 1).bind fun t120 => (if ((⟨#[83, 69, 71, 77]⟩ : ByteArray) ++ t119).size + t120.size ≤ 9223372036854775807 then (if (((⟨#[83, 69, 71, 77]⟩ : ByteArray) ++ t119) ++ t120).size + 2 ≤ 9223372036854775807 then ((spec_FixText.f k a0_2 8).bind fun t121 => (if ((((⟨#[83, 69, 71, 77]⟩ : ByteArray) ++ t119) ++ t120) ++ (⟨#[0, 0]⟩ : ByteArray)).size + t121.size ≤ 9223372036854775807 then ((spec_FixText.f k a0_3 4).bind fun t122 => (if (((((⟨#[83, 69, 71, 77]⟩ : ByteArray) ++ t119) ++ t120) ++ (⟨#[0, 0]⟩ : ByteArray)) ++ t121).size + t122.size ≤ 9223372036854775807 then ((spec_SumOf.f k ((((((⟨#[83, 69, 71, 77]⟩ : ByteArray) ++ t119) ++ t120) ++ (⟨#[0, 0]⟩ : ByteArray)) ++ t121) ++ t122)).bind fun t123 => ((spec_FixText.f k t123 4).bind fun t124 => (if ((((((⟨#[83, 69, 71, 77]⟩ : ByteArray) ++ t119) ++ t120) ++ (⟨#[0, 0]⟩ : ByteArray)) ++ t121) ++ t122).size + t124.size ≤ 9223372036854775807 then (some (((((((⟨#[83, 69, 71, 77]⟩ : ByteArray) ++ t119) ++ t120) ++ (⟨#[0, 0]⟩ : ByteArray)) ++ t121) ++ t122) ++ t124)) else (none)))) else (none))) else (none))) else (none)) else (none))) else (none))) else (some (⟨#[]⟩ : ByteArray))) = some r := H
  have A2 := Aside0.mk A20
  clear A20
  by_cases c3 : t118 = true
  · subst c3
    have H1 : ((spec_FixText.f k a0_0 1).bind fun t119 => (if 4 + t119.size ≤ 9223372036854775807 then ((spec_FixText.f k a0_1 1).bind fun t120 => (if ((⟨#[83, 69, 71, 77]⟩ : ByteArray) ++ t119).size + t120.size ≤ 9223372036854775807 then (if (((⟨#[83, 69, 71, 77]⟩ : ByteArray) ++ t119) ++ t120).size + 2 ≤ 9223372036854775807 then ((spec_FixText.f k a0_2 8).bind fun t121 => (if ((((⟨#[83, 69, 71, 77]⟩ : ByteArray) ++ t119) ++ t120) ++ (⟨#[0, 0]⟩ : ByteArray)).size + t121.size ≤ 9223372036854775807 then ((spec_FixText.f k a0_3 4).bind fun t122 => (if (((((⟨#[83, 69, 71, 77]⟩ : ByteArray) ++ t119) ++ t120) ++ (⟨#[0, 0]⟩ : ByteArray)) ++ t121).size + t122.size ≤ 9223372036854775807 then ((spec_SumOf.f k ((((((⟨#[83, 69, 71, 77]⟩ : ByteArray) ++ t119) ++ t120) ++ (⟨#[0, 0]⟩ : ByteArray)) ++ t121) ++ t122)).bind fun t123 => ((spec_FixText.f k t123 4).bind fun t124 => (if ((((((⟨#[83, 69, 71, 77]⟩ : ByteArray) ++ t119) ++ t120) ++ (⟨#[0, 0]⟩ : ByteArray)) ++ t121) ++ t122).size + t124.size ≤ 9223372036854775807 then (some (((((((⟨#[83, 69, 71, 77]⟩ : ByteArray) ++ t119) ++ t120) ++ (⟨#[0, 0]⟩ : ByteArray)) ++ t121) ++ t122) ++ t124)) else (none)))) else (none))) else (none))) else (none)) else (none))) else (none))) = some r := by rw [if_pos rfl] at H; exact H
    clear H
    have H := H1
    clear H1
    replace H := Option.bind_eq_some_iff.mp H
    obtain ⟨t119, A40, H⟩ := H
    replace H : (if 4 + t119.size ≤ 9223372036854775807 then ((spec_FixText.f k a0_1 1).bind fun t120 => (if ((⟨#[83, 69, 71, 77]⟩ : ByteArray) ++ t119).size + t120.size ≤ 9223372036854775807 then (if (((⟨#[83, 69, 71, 77]⟩ : ByteArray) ++ t119) ++ t120).size + 2 ≤ 9223372036854775807 then ((spec_FixText.f k a0_2 8).bind fun t121 => (if ((((⟨#[83, 69, 71, 77]⟩ : ByteArray) ++ t119) ++ t120) ++ (⟨#[0, 0]⟩ : ByteArray)).size + t121.size ≤ 9223372036854775807 then ((spec_FixText.f k a0_3 4).bind fun t122 => (if (((((⟨#[83, 69, 71, 77]⟩ : ByteArray) ++ t119) ++ t120) ++ (⟨#[0, 0]⟩ : ByteArray)) ++ t121).size + t122.size ≤ 9223372036854775807 then ((spec_SumOf.f k ((((((⟨#[83, 69, 71, 77]⟩ : ByteArray) ++ t119) ++ t120) ++ (⟨#[0, 0]⟩ : ByteArray)) ++ t121) ++ t122)).bind fun t123 => ((spec_FixText.f k t123 4).bind fun t124 => (if ((((((⟨#[83, 69, 71, 77]⟩ : ByteArray) ++ t119) ++ t120) ++ (⟨#[0, 0]⟩ : ByteArray)) ++ t121) ++ t122).size + t124.size ≤ 9223372036854775807 then (some (((((((⟨#[83, 69, 71, 77]⟩ : ByteArray) ++ t119) ++ t120) ++ (⟨#[0, 0]⟩ : ByteArray)) ++ t121) ++ t122) ++ t124)) else (none)))) else (none))) else (none))) else (none)) else (none))) else (none)) = some r := H
    have A4 := Aside0.mk A40
    clear A40
    by_cases c5 : 4 + t119.size ≤ 9223372036854775807
    · rw [if_pos c5] at H
      have c5b0 := eq_true c5
      have c5b1 : decide (4 + t119.size ≤ 9223372036854775807) = true := decide_eq_true c5
      try have c5b2 : (9223372036854775807 < 4 + t119.size) = False := eq_false (Nat.not_lt.2 c5)
      replace H := Option.bind_eq_some_iff.mp H
      obtain ⟨t120, A60, H⟩ := H
      replace H : (if ((⟨#[83, 69, 71, 77]⟩ : ByteArray) ++ t119).size + t120.size ≤ 9223372036854775807 then (if (((⟨#[83, 69, 71, 77]⟩ : ByteArray) ++ t119) ++ t120).size + 2 ≤ 9223372036854775807 then ((spec_FixText.f k a0_2 8).bind fun t121 => (if ((((⟨#[83, 69, 71, 77]⟩ : ByteArray) ++ t119) ++ t120) ++ (⟨#[0, 0]⟩ : ByteArray)).size + t121.size ≤ 9223372036854775807 then ((spec_FixText.f k a0_3 4).bind fun t122 => (if (((((⟨#[83, 69, 71, 77]⟩ : ByteArray) ++ t119) ++ t120) ++ (⟨#[0, 0]⟩ : ByteArray)) ++ t121).size + t122.size ≤ 9223372036854775807 then ((spec_SumOf.f k ((((((⟨#[83, 69, 71, 77]⟩ : ByteArray) ++ t119) ++ t120) ++ (⟨#[0, 0]⟩ : ByteArray)) ++ t121) ++ t122)).bind fun t123 => ((spec_FixText.f k t123 4).bind fun t124 => (if ((((((⟨#[83, 69, 71, 77]⟩ : ByteArray) ++ t119) ++ t120) ++ (⟨#[0, 0]⟩ : ByteArray)) ++ t121) ++ t122).size + t124.size ≤ 9223372036854775807 then (some (((((((⟨#[83, 69, 71, 77]⟩ : ByteArray) ++ t119) ++ t120) ++ (⟨#[0, 0]⟩ : ByteArray)) ++ t121) ++ t122) ++ t124)) else (none)))) else (none))) else (none))) else (none)) else (none)) = some r := H
      have A6 := Aside0.mk A60
      clear A60
      by_cases c7 : ((⟨#[83, 69, 71, 77]⟩ : ByteArray) ++ t119).size + t120.size ≤ 9223372036854775807
      · rw [if_pos c7] at H
        have c7b0 := eq_true c7
        have c7b1 : decide (((⟨#[83, 69, 71, 77]⟩ : ByteArray) ++ t119).size + t120.size ≤ 9223372036854775807) = true := decide_eq_true c7
        try have c7b2 : (9223372036854775807 < ((⟨#[83, 69, 71, 77]⟩ : ByteArray) ++ t119).size + t120.size) = False := eq_false (Nat.not_lt.2 c7)
        try have c7b3 : ∀ x_ : Nat, x_ = ((⟨#[83, 69, 71, 77]⟩ : ByteArray) ++ t119).size + t120.size → (9223372036854775807 < x_) = False := fun x_ hx_ => hx_ ▸ c7b2
        by_cases c8 : (((⟨#[83, 69, 71, 77]⟩ : ByteArray) ++ t119) ++ t120).size + 2 ≤ 9223372036854775807
        · rw [if_pos c8] at H
          have c8b0 := eq_true c8
          have c8b1 : decide ((((⟨#[83, 69, 71, 77]⟩ : ByteArray) ++ t119) ++ t120).size + 2 ≤ 9223372036854775807) = true := decide_eq_true c8
          try have c8b2 : (9223372036854775807 < (((⟨#[83, 69, 71, 77]⟩ : ByteArray) ++ t119) ++ t120).size + 2) = False := eq_false (Nat.not_lt.2 c8)
          try have c8b3 : ∀ x_ : Nat, x_ = (((⟨#[83, 69, 71, 77]⟩ : ByteArray) ++ t119) ++ t120).size + 2 → (9223372036854775807 < x_) = False := fun x_ hx_ => hx_ ▸ c8b2
          replace H := Option.bind_eq_some_iff.mp H
          obtain ⟨t121, A90, H⟩ := H
          replace H : (if ((((⟨#[83, 69, 71, 77]⟩ : ByteArray) ++ t119) ++ t120) ++ (⟨#[0, 0]⟩ : ByteArray)).size + t121.size ≤ 9223372036854775807 then ((spec_FixText.f k a0_3 4).bind fun t122 => (if (((((⟨#[83, 69, 71, 77]⟩ : ByteArray) ++ t119) ++ t120) ++ (⟨#[0, 0]⟩ : ByteArray)) ++ t121).size + t122.size ≤ 9223372036854775807 then ((spec_SumOf.f k ((((((⟨#[83, 69, 71, 77]⟩ : ByteArray) ++ t119) ++ t120) ++ (⟨#[0, 0]⟩ : ByteArray)) ++ t121) ++ t122)).bind fun t123 => ((spec_FixText.f k t123 4).bind fun t124 => (if ((((((⟨#[83, 69, 71, 77]⟩ : ByteArray) ++ t119) ++ t120) ++ (⟨#[0, 0]⟩ : ByteArray)) ++ t121) ++ t122).size + t124.size ≤ 9223372036854775807 then (some (((((((⟨#[83, 69, 71, 77]⟩ : ByteArray) ++ t119) ++ t120) ++ (⟨#[0, 0]⟩ : ByteArray)) ++ t121) ++ t122) ++ t124)) else (none)))) else (none))) else (none)) = some r := H
          have A9 := Aside0.mk A90
          clear A90
          by_cases c10 : ((((⟨#[83, 69, 71, 77]⟩ : ByteArray) ++ t119) ++ t120) ++ (⟨#[0, 0]⟩ : ByteArray)).size + t121.size ≤ 9223372036854775807
          · rw [if_pos c10] at H
            have c10b0 := eq_true c10
            have c10b1 : decide (((((⟨#[83, 69, 71, 77]⟩ : ByteArray) ++ t119) ++ t120) ++ (⟨#[0, 0]⟩ : ByteArray)).size + t121.size ≤ 9223372036854775807) = true := decide_eq_true c10
            try have c10b2 : (9223372036854775807 < ((((⟨#[83, 69, 71, 77]⟩ : ByteArray) ++ t119) ++ t120) ++ (⟨#[0, 0]⟩ : ByteArray)).size + t121.size) = False := eq_false (Nat.not_lt.2 c10)
            try have c10b3 : ∀ x_ : Nat, x_ = ((((⟨#[83, 69, 71, 77]⟩ : ByteArray) ++ t119) ++ t120) ++ (⟨#[0, 0]⟩ : ByteArray)).size + t121.size → (9223372036854775807 < x_) = False := fun x_ hx_ => hx_ ▸ c10b2
            replace H := Option.bind_eq_some_iff.mp H
            obtain ⟨t122, A110, H⟩ := H
            replace H : (if (((((⟨#[83, 69, 71, 77]⟩ : ByteArray) ++ t119) ++ t120) ++ (⟨#[0, 0]⟩ : ByteArray)) ++ t121).size + t122.size ≤ 9223372036854775807 then ((spec_SumOf.f k ((((((⟨#[83, 69, 71, 77]⟩ : ByteArray) ++ t119) ++ t120) ++ (⟨#[0, 0]⟩ : ByteArray)) ++ t121) ++ t122)).bind fun t123 => ((spec_FixText.f k t123 4).bind fun t124 => (if ((((((⟨#[83, 69, 71, 77]⟩ : ByteArray) ++ t119) ++ t120) ++ (⟨#[0, 0]⟩ : ByteArray)) ++ t121) ++ t122).size + t124.size ≤ 9223372036854775807 then (some (((((((⟨#[83, 69, 71, 77]⟩ : ByteArray) ++ t119) ++ t120) ++ (⟨#[0, 0]⟩ : ByteArray)) ++ t121) ++ t122) ++ t124)) else (none)))) else (none)) = some r := H
            have A11 := Aside0.mk A110
            clear A110
            by_cases c12 : (((((⟨#[83, 69, 71, 77]⟩ : ByteArray) ++ t119) ++ t120) ++ (⟨#[0, 0]⟩ : ByteArray)) ++ t121).size + t122.size ≤ 9223372036854775807
            · rw [if_pos c12] at H
              have c12b0 := eq_true c12
              have c12b1 : decide ((((((⟨#[83, 69, 71, 77]⟩ : ByteArray) ++ t119) ++ t120) ++ (⟨#[0, 0]⟩ : ByteArray)) ++ t121).size + t122.size ≤ 9223372036854775807) = true := decide_eq_true c12
              try have c12b2 : (9223372036854775807 < (((((⟨#[83, 69, 71, 77]⟩ : ByteArray) ++ t119) ++ t120) ++ (⟨#[0, 0]⟩ : ByteArray)) ++ t121).size + t122.size) = False := eq_false (Nat.not_lt.2 c12)
              try have c12b3 : ∀ x_ : Nat, x_ = (((((⟨#[83, 69, 71, 77]⟩ : ByteArray) ++ t119) ++ t120) ++ (⟨#[0, 0]⟩ : ByteArray)) ++ t121).size + t122.size → (9223372036854775807 < x_) = False := fun x_ hx_ => hx_ ▸ c12b2
              replace H := Option.bind_eq_some_iff.mp H
              obtain ⟨t123, A130, H⟩ := H
              replace H : ((spec_FixText.f k t123 4).bind fun t124 => (if ((((((⟨#[83, 69, 71, 77]⟩ : ByteArray) ++ t119) ++ t120) ++ (⟨#[0, 0]⟩ : ByteArray)) ++ t121) ++ t122).size + t124.size ≤ 9223372036854775807 then (some (((((((⟨#[83, 69, 71, 77]⟩ : ByteArray) ++ t119) ++ t120) ++ (⟨#[0, 0]⟩ : ByteArray)) ++ t121) ++ t122) ++ t124)) else (none))) = some r := H
              have A13 := Aside0.mk A130
              clear A130
              replace H := Option.bind_eq_some_iff.mp H
              obtain ⟨t124, A140, H⟩ := H
              replace H : (if ((((((⟨#[83, 69, 71, 77]⟩ : ByteArray) ++ t119) ++ t120) ++ (⟨#[0, 0]⟩ : ByteArray)) ++ t121) ++ t122).size + t124.size ≤ 9223372036854775807 then (some (((((((⟨#[83, 69, 71, 77]⟩ : ByteArray) ++ t119) ++ t120) ++ (⟨#[0, 0]⟩ : ByteArray)) ++ t121) ++ t122) ++ t124)) else (none)) = some r := H
              have A14 := Aside0.mk A140
              clear A140
              by_cases c15 : ((((((⟨#[83, 69, 71, 77]⟩ : ByteArray) ++ t119) ++ t120) ++ (⟨#[0, 0]⟩ : ByteArray)) ++ t121) ++ t122).size + t124.size ≤ 9223372036854775807
              · rw [if_pos c15] at H
                have c15b0 := eq_true c15
                have c15b1 : decide (((((((⟨#[83, 69, 71, 77]⟩ : ByteArray) ++ t119) ++ t120) ++ (⟨#[0, 0]⟩ : ByteArray)) ++ t121) ++ t122).size + t124.size ≤ 9223372036854775807) = true := decide_eq_true c15
                try have c15b2 : (9223372036854775807 < ((((((⟨#[83, 69, 71, 77]⟩ : ByteArray) ++ t119) ++ t120) ++ (⟨#[0, 0]⟩ : ByteArray)) ++ t121) ++ t122).size + t124.size) = False := eq_false (Nat.not_lt.2 c15)
                try have c15b3 : ∀ x_ : Nat, x_ = ((((((⟨#[83, 69, 71, 77]⟩ : ByteArray) ++ t119) ++ t120) ++ (⟨#[0, 0]⟩ : ByteArray)) ++ t121) ++ t122).size + t124.size → (9223372036854775807 < x_) = False := fun x_ hx_ => hx_ ▸ c15b2
                obtain rfl := Option.some.inj H
                go_enter Try.func60, Try.ntmps60
                try go_wp2_with (first | ((with_reducible refine gate_dst (N := 1) rfl ?_); refine box_event ?hg (N := 1) ?hd (cs := #[.int .i64 a0_0, .int .i64 a0_1, .int .i64 a0_2, .int .i64 a0_3]) (t := 30) ?hr ?_; (case hd => rfl); (case hg => rfl); (case hr => first | (go_simp; done) | (go_simp; rfl)); intro gb117 hg w16 hbox hb; have n0_ := Aside0.mk (below_step (by repeat (first | (with_reducible first | exact HB.out | apply below_alloc | apply pw_below_drewN | apply below_drew1) | exact HB.out)) hb); have n1_ := Aside0.mk (hbox); have n2_ := Aside0.mk ((by rw [hg]; exact (below_size (by repeat (first | (with_reducible first | exact HB.out | apply below_alloc | apply pw_below_drewN | apply below_drew1) | exact HB.out))) : w.heap.size ≤ gb117)); have n3_ := Aside0.mk ((by rw [hg]; exact (below_size (by repeat (first | (with_reducible first | exact HB.out | apply below_alloc | apply pw_below_drewN | apply below_drew1) | exact HB.out))) : w.heap.size ≤ gb117)); clear HB; have HB := n0_; have BK117 := n1_; have GW117 := n2_; have GE117 := n3_; clear n0_ n1_ n2_ n3_; clear hb hbox hg; have hcz17_0 : w16.cell? ⟨gb117, 0, none⟩ = some (.int .i64 a0_0) := (blk_cell BK117.out 0).trans rfl; have hcz17_1 : w16.cell? ⟨gb117, 1, none⟩ = some (.int .i64 a0_1) := (blk_cell BK117.out 1).trans rfl; have hcz17_2 : w16.cell? ⟨gb117, 2, none⟩ = some (.int .i64 a0_2) := (blk_cell BK117.out 2).trans rfl; have hcz17_3 : w16.cell? ⟨gb117, 3, none⟩ = some (.int .i64 a0_3) := (blk_cell BK117.out 3).trans rfl; have hfz17_0 := blk_frozen BK117.out 0; have hfz17_1 := blk_frozen BK117.out 1; have hfz17_2 := blk_frozen BK117.out 2; have hfz17_3 := blk_frozen BK117.out 3) | ((with_reducible refine gate_callee (f := 65) rfl ?_); refine goesL_ (some 5) rfl rfl Try.func65 (by kernel_rfl) rfl #[.agg #[.int .i64 a0_0, .int .i64 a0_1, .int .i64 a0_2, .int .i64 a0_3]] rfl (by (try simp only [List.map_toArray, List.map_cons, List.map_nil]); first | done | rfl | (simp only [List.length_drop, List.length_take]; rfl)) ?_; (with_reducible refine (spec_HeadOk.calls a0_0 a0_1 a0_2 a0_3 true _ A2.out).mono ?_); rintro e w18 ⟨rfl, hb⟩; refine ⟨_, rfl, ?_⟩; have n0_ := Aside0.mk (blk_below (g := gb117) (o := .cells #[.int .i64 a0_0, .int .i64 a0_1, .int .i64 a0_2, .int .i64 a0_3] 30 (0, 0)) (by (with_reducible repeat (first | refine blk_drewN ?_ _ | refine blk_drew ?_ | refine blk_alloc ?_ _)); exact BK117.out) hb); have n1_ := Aside0.mk (below_step (by repeat (first | (with_reducible first | exact HB.out | apply below_alloc | apply pw_below_drewN | apply below_drew1 | refine below_set ?_ GE117.out) | exact HB.out)) hb); clear BK117; clear HB; have BK117 := n0_; have HB := n1_; clear n0_ n1_; (try clear hb); (try clear hb2); (try clear hk); (try clear hi)))
                have n0_ := Aside0.mk (blk_drew BK117.out)
                have n1_ := Aside0.mk (below_drew1 HB.out)
                clear BK117
                clear HB
                have BK117 := n0_
                have HB := n1_
                clear n0_ n1_
                refine start_ (n := 18) (S := fun w' => w'.cell? ⟨gb117, 0, none⟩ = some (.int .i64 a0_0) ∧ w'.cell? ⟨gb117, 1, none⟩ = some (.int .i64 a0_1) ∧ w'.cell? ⟨gb117, 2, none⟩ = some (.int .i64 a0_2) ∧ w'.cell? ⟨gb117, 3, none⟩ = some (.int .i64 a0_3)) (ds := []) #[false, false, false, false, false, false, false, false, false, false, false, false, false, false, false, false, false, false] (by kernel_rfl) rfl rfl ⟨(blk_cell BK117.out 0).trans rfl, (blk_cell BK117.out 1).trans rfl, (blk_cell BK117.out 2).trans rfl, (blk_cell BK117.out 3).trans rfl⟩ (fun hHeld => ?_); refine with_tabW spec_HeadText.tab3 spec_HeadText.bits3 (fun HT_ HW_ => ?_)
                generalize w18.drew = w19 at BK117 HB hHeld ⊢
                refine pure_ (i := 0) (N := some 7) (v := ?_) (a' := ?_) #[true, false, false, false, false, false, false, false, false, false, false, false, false, false, false, false, false, false] rfl rfl (any_of HT_.out (by kernel_rfl)) (fun _ _ _ h => h) (Or.inl ⟨by rfl, ?_⟩) ?_ ?_
                rotate_left
                · intro w'
                  go_simp
                  with_reducible rfl
                rotate_left
                · simp only [Act.put, List.setIfInBounds_toArray, List.set_cons_zero, List.set_cons_succ, i64_w, i32_w]
                  rfl
                refine pure_ (i := 4) (N := some 11) (v := ?_) (a' := ?_) #[true, false, false, false, true, false, false, false, false, false, false, false, false, false, false, false, false, false] rfl rfl (any_of HT_.out (by kernel_rfl)) (fun _ _ _ h => h) (Or.inl ⟨by rfl, ?_⟩) ?_ ?_
                rotate_left
                · intro w'
                  go_simp
                  with_reducible rfl
                rotate_left
                · simp only [Act.put, List.setIfInBounds_toArray, List.set_cons_zero, List.set_cons_succ, i64_w, i32_w]
                  rfl
                refine pure_ (i := 9) (N := some 16) (v := ?_) (a' := ?_) #[true, false, false, false, true, false, false, false, false, true, false, false, false, false, false, false, false, false] rfl rfl (any_of HT_.out (by kernel_rfl)) (fun _ _ _ h => h) (Or.inl ⟨by rfl, ?_⟩) ?_ ?_
                rotate_left
                · intro w'
                  go_simp
                  with_reducible rfl
                rotate_left
                · simp only [Act.put, List.setIfInBounds_toArray, List.set_cons_zero, List.set_cons_succ, i64_w, i32_w]
                  rfl
                refine pure_ (i := 13) (N := some 20) (v := ?_) (a' := ?_) #[true, false, false, false, true, false, false, false, false, true, false, false, false, true, false, false, false, false] rfl rfl (any_of HT_.out (by kernel_rfl)) (fun _ _ _ h => h) (Or.inl ⟨by rfl, ?_⟩) ?_ ?_
                rotate_left
                · intro w'
                  go_simp
                  with_reducible rfl
                rotate_left
                · simp only [Act.put, List.setIfInBounds_toArray, List.set_cons_zero, List.set_cons_succ, i64_w, i32_w]
                  rfl
                refine take_ (i := 1) (N := some 8) (v := ?_) (a' := ?_) #[true, true, false, false, true, false, false, false, false, true, false, false, false, true, false, false, false, false] rfl rfl (take_ofW HT_.out HW_.out (by kernel_rfl)) (fun _ _ _ h => h) (Or.inl ⟨by rfl, ?_⟩) hHeld ?_ ?_
                rotate_left
                · rintro w' ⟨s0, s1, s2, s3⟩
                  go_simp
                  with_reducible rfl
                rotate_left
                · simp only [Act.put, List.setIfInBounds_toArray, List.set_cons_zero, List.set_cons_succ, i64_w, i32_w]
                  rfl
                refine take_ (i := 5) (N := some 12) (v := ?_) (a' := ?_) #[true, true, false, false, true, true, false, false, false, true, false, false, false, true, false, false, false, false] rfl rfl (take_ofW HT_.out HW_.out (by kernel_rfl)) (fun _ _ _ h => h) (Or.inl ⟨by rfl, ?_⟩) hHeld ?_ ?_
                rotate_left
                · rintro w' ⟨s0, s1, s2, s3⟩
                  go_simp
                  with_reducible rfl
                rotate_left
                · simp only [Act.put, List.setIfInBounds_toArray, List.set_cons_zero, List.set_cons_succ, i64_w, i32_w]
                  rfl
                refine take_ (i := 10) (N := some 17) (v := ?_) (a' := ?_) #[true, true, false, false, true, true, false, false, false, true, true, false, false, true, false, false, false, false] rfl rfl (take_ofW HT_.out HW_.out (by kernel_rfl)) (fun _ _ _ h => h) (Or.inl ⟨by rfl, ?_⟩) hHeld ?_ ?_
                rotate_left
                · rintro w' ⟨s0, s1, s2, s3⟩
                  go_simp
                  with_reducible rfl
                rotate_left
                · simp only [Act.put, List.setIfInBounds_toArray, List.set_cons_zero, List.set_cons_succ, i64_w, i32_w]
                  rfl
                refine take_ (i := 14) (N := some 21) (v := ?_) (a' := ?_) #[true, true, false, false, true, true, false, false, false, true, true, false, false, true, true, false, false, false] rfl rfl (take_ofW HT_.out HW_.out (by kernel_rfl)) (fun _ _ _ h => h) (Or.inl ⟨by rfl, ?_⟩) hHeld ?_ ?_
                rotate_left
                · rintro w' ⟨s0, s1, s2, s3⟩
                  go_simp
                  with_reducible rfl
                rotate_left
                · simp only [Act.put, List.setIfInBounds_toArray, List.set_cons_zero, List.set_cons_succ, i64_w, i32_w]
                  rfl
                refine one_ (i := 2) (N := some 9) #[true, true, true, false, true, true, false, false, false, true, true, false, false, true, true, false, false, false] rfl rfl (one_of HT_.out (by kernel_rfl)) (by decide) (fun K hK => ?_)
                refine goes_ Try.func93 (by kernel_rfl) rfl #[.int .i64 a0_0, .int .i64 1] (by rfl) rfl rfl (by (try simp only [List.map_toArray, List.map_cons, List.map_nil]); first | done | rfl | (simp only [List.length_drop, List.length_take]; rfl)) ?_
                with_reducible refine (spec_FixText.calls k a0_0 1 t119 _ A4.out).mono ?_
                rintro e w20 ⟨rfl, hb⟩
                refine ⟨_, rfl, ?_⟩
                have n0_ := Aside0.mk (blk_below (g := gb117) (o := .cells #[.int .i64 a0_0, .int .i64 a0_1, .int .i64 a0_2, .int .i64 a0_3] 30 (0, 0)) (by (with_reducible repeat (first | refine blk_drewN ?_ _ | refine blk_drew ?_ | refine blk_alloc ?_ _)); exact BK117.out) hb)
                have n1_ := Aside0.mk (below_step (by repeat (first | (with_reducible first | exact HB.out | apply below_alloc | apply pw_below_drewN | apply below_drew1 | refine below_set ?_ GE117.out) | exact HB.out)) hb)
                clear BK117
                clear HB
                have BK117 := n0_
                have HB := n1_
                clear n0_ n1_
                (try clear hb)
                (try clear hb2)
                (try clear hk)
                (try clear hi)
                refine hK.out _ _ ⟨(blk_cell BK117.out 0).trans rfl, (blk_cell BK117.out 1).trans rfl, (blk_cell BK117.out 2).trans rfl, (blk_cell BK117.out 3).trans rfl⟩ (fun hHeld => ?_)
                clear hK K
                refine norm_ (a' := ?_) ?_ ?_
                rotate_left
                · show Act.put _ (some 9) _ = _
                  simp only [Act.put, List.setIfInBounds_toArray, List.set_cons_zero, List.set_cons_succ, i64_w, i32_w]
                  rfl
                refine pure_ (i := 3) (N := some 10) (v := ?_) (a' := ?_) #[true, true, true, true, true, true, false, false, false, true, true, false, false, true, true, false, false, false] rfl rfl (any_of HT_.out (by kernel_rfl)) (fun _ _ _ h => h) (Or.inl ⟨by rfl, ?_⟩) ?_ ?_
                rotate_left
                · intro w'
                  go_simp
                  with_reducible rfl
                rotate_left
                · simp only [Act.put, List.setIfInBounds_toArray, List.set_cons_zero, List.set_cons_succ, i64_w, i32_w]
                  rfl
                refine one_ (i := 6) (N := some 13) #[true, true, true, true, true, true, true, false, false, true, true, false, false, true, true, false, false, false] rfl rfl (one_of HT_.out (by kernel_rfl)) (by decide) (fun K hK => ?_)
                refine goes_ Try.func93 (by kernel_rfl) rfl #[.int .i64 a0_1, .int .i64 1] (by rfl) rfl rfl (by (try simp only [List.map_toArray, List.map_cons, List.map_nil]); first | done | rfl | (simp only [List.length_drop, List.length_take]; rfl)) ?_
                with_reducible refine (spec_FixText.calls k a0_1 1 t120 _ A6.out).mono ?_
                rintro e w21 ⟨rfl, hb⟩
                refine ⟨_, rfl, ?_⟩
                have n0_ := Aside0.mk (blk_below (g := gb117) (o := .cells #[.int .i64 a0_0, .int .i64 a0_1, .int .i64 a0_2, .int .i64 a0_3] 30 (0, 0)) (by (with_reducible repeat (first | refine blk_drewN ?_ _ | refine blk_drew ?_ | refine blk_alloc ?_ _)); exact BK117.out) hb)
                have n1_ := Aside0.mk (below_step (by repeat (first | (with_reducible first | exact HB.out | apply below_alloc | apply pw_below_drewN | apply below_drew1 | refine below_set ?_ GE117.out) | exact HB.out)) hb)
                clear BK117
                clear HB
                have BK117 := n0_
                have HB := n1_
                clear n0_ n1_
                (try clear hb)
                (try clear hb2)
                (try clear hk)
                (try clear hi)
                refine hK.out _ _ ⟨(blk_cell BK117.out 0).trans rfl, (blk_cell BK117.out 1).trans rfl, (blk_cell BK117.out 2).trans rfl, (blk_cell BK117.out 3).trans rfl⟩ (fun hHeld => ?_)
                clear hK K
                refine norm_ (a' := ?_) ?_ ?_
                rotate_left
                · show Act.put _ (some 13) _ = _
                  simp only [Act.put, List.setIfInBounds_toArray, List.set_cons_zero, List.set_cons_succ, i64_w, i32_w]
                  rfl
                refine pure_ (i := 7) (N := some 14) (v := ?_) (a' := ?_) #[true, true, true, true, true, true, true, true, false, true, true, false, false, true, true, false, false, false] rfl rfl (any_of HT_.out (by kernel_rfl)) (fun _ _ _ h => h) (Or.inl ⟨by rfl, ?_⟩) ?_ ?_
                rotate_left
                · intro w'
                  go_simp
                  with_reducible rfl
                rotate_left
                · simp only [Act.put, List.setIfInBounds_toArray, List.set_cons_zero, List.set_cons_succ, i64_w, i32_w]
                  rfl
                refine pure_ (i := 8) (N := some 15) (v := ?_) (a' := ?_) #[true, true, true, true, true, true, true, true, true, true, true, false, false, true, true, false, false, false] rfl rfl (any_of HT_.out (by kernel_rfl)) (fun _ _ _ h => h) (Or.inl ⟨by rfl, ?_⟩) ?_ ?_
                rotate_left
                · intro w'
                  go_simp
                  with_reducible rfl
                rotate_left
                · simp only [Act.put, List.setIfInBounds_toArray, List.set_cons_zero, List.set_cons_succ, i64_w, i32_w]
                  rfl
                refine one_ (i := 11) (N := some 18) #[true, true, true, true, true, true, true, true, true, true, true, true, false, true, true, false, false, false] rfl rfl (one_of HT_.out (by kernel_rfl)) (by decide) (fun K hK => ?_)
                refine goes_ Try.func93 (by kernel_rfl) rfl #[.int .i64 a0_2, .int .i64 8] (by rfl) rfl rfl (by (try simp only [List.map_toArray, List.map_cons, List.map_nil]); first | done | rfl | (simp only [List.length_drop, List.length_take]; rfl)) ?_
                with_reducible refine (spec_FixText.calls k a0_2 8 t121 _ A9.out).mono ?_
                rintro e w22 ⟨rfl, hb⟩
                refine ⟨_, rfl, ?_⟩
                have n0_ := Aside0.mk (blk_below (g := gb117) (o := .cells #[.int .i64 a0_0, .int .i64 a0_1, .int .i64 a0_2, .int .i64 a0_3] 30 (0, 0)) (by (with_reducible repeat (first | refine blk_drewN ?_ _ | refine blk_drew ?_ | refine blk_alloc ?_ _)); exact BK117.out) hb)
                have n1_ := Aside0.mk (below_step (by repeat (first | (with_reducible first | exact HB.out | apply below_alloc | apply pw_below_drewN | apply below_drew1 | refine below_set ?_ GE117.out) | exact HB.out)) hb)
                clear BK117
                clear HB
                have BK117 := n0_
                have HB := n1_
                clear n0_ n1_
                (try clear hb)
                (try clear hb2)
                (try clear hk)
                (try clear hi)
                refine hK.out _ _ ⟨(blk_cell BK117.out 0).trans rfl, (blk_cell BK117.out 1).trans rfl, (blk_cell BK117.out 2).trans rfl, (blk_cell BK117.out 3).trans rfl⟩ (fun hHeld => ?_)
                clear hK K
                refine norm_ (a' := ?_) ?_ ?_
                rotate_left
                · show Act.put _ (some 18) _ = _
                  simp only [Act.put, List.setIfInBounds_toArray, List.set_cons_zero, List.set_cons_succ, i64_w, i32_w]
                  rfl
                refine pure_ (i := 12) (N := some 19) (v := ?_) (a' := ?_) #[true, true, true, true, true, true, true, true, true, true, true, true, true, true, true, false, false, false] rfl rfl (any_of HT_.out (by kernel_rfl)) (fun _ _ _ h => h) (Or.inl ⟨by rfl, ?_⟩) ?_ ?_
                rotate_left
                · intro w'
                  go_simp
                  with_reducible rfl
                rotate_left
                · simp only [Act.put, List.setIfInBounds_toArray, List.set_cons_zero, List.set_cons_succ, i64_w, i32_w]
                  rfl
                refine one_ (i := 15) (N := some 22) #[true, true, true, true, true, true, true, true, true, true, true, true, true, true, true, true, false, false] rfl rfl (one_of HT_.out (by kernel_rfl)) (by decide) (fun K hK => ?_)
                refine goes_ Try.func93 (by kernel_rfl) rfl #[.int .i64 a0_3, .int .i64 4] (by rfl) rfl rfl (by (try simp only [List.map_toArray, List.map_cons, List.map_nil]); first | done | rfl | (simp only [List.length_drop, List.length_take]; rfl)) ?_
                with_reducible refine (spec_FixText.calls k a0_3 4 t122 _ A11.out).mono ?_
                rintro e w23 ⟨rfl, hb⟩
                refine ⟨_, rfl, ?_⟩
                have n0_ := Aside0.mk (blk_below (g := gb117) (o := .cells #[.int .i64 a0_0, .int .i64 a0_1, .int .i64 a0_2, .int .i64 a0_3] 30 (0, 0)) (by (with_reducible repeat (first | refine blk_drewN ?_ _ | refine blk_drew ?_ | refine blk_alloc ?_ _)); exact BK117.out) hb)
                have n1_ := Aside0.mk (below_step (by repeat (first | (with_reducible first | exact HB.out | apply below_alloc | apply pw_below_drewN | apply below_drew1 | refine below_set ?_ GE117.out) | exact HB.out)) hb)
                clear BK117
                clear HB
                have BK117 := n0_
                have HB := n1_
                clear n0_ n1_
                (try clear hb)
                (try clear hb2)
                (try clear hk)
                (try clear hi)
                refine hK.out _ _ ⟨(blk_cell BK117.out 0).trans rfl, (blk_cell BK117.out 1).trans rfl, (blk_cell BK117.out 2).trans rfl, (blk_cell BK117.out 3).trans rfl⟩ (fun hHeld => ?_)
                clear hK K
                refine norm_ (a' := ?_) ?_ ?_
                rotate_left
                · show Act.put _ (some 22) _ = _
                  simp only [Act.put, List.setIfInBounds_toArray, List.set_cons_zero, List.set_cons_succ, i64_w, i32_w]
                  rfl
                refine pure_ (i := 16) (N := some 23) (v := ?_) (a' := ?_) #[true, true, true, true, true, true, true, true, true, true, true, true, true, true, true, true, true, false] rfl rfl (any_of HT_.out (by kernel_rfl)) (fun _ _ _ h => h) (Or.inl ⟨by rfl, ?_⟩) ?_ ?_
                rotate_left
                · intro w'
                  go_simp
                  with_reducible rfl
                rotate_left
                · simp only [Act.put, List.setIfInBounds_toArray, List.set_cons_zero, List.set_cons_succ, i64_w, i32_w]
                  rfl
                refine pure_ (i := 17) (N := some 3) (v := ?_) (a' := ?_) #[true, true, true, true, true, true, true, true, true, true, true, true, true, true, true, true, true, true] rfl rfl (any_of HT_.out (by kernel_rfl)) (fun _ _ _ h => h) (Or.inl ⟨by rfl, ?_⟩) ?_ ?_
                rotate_left
                · intro w'
                  go_simp
                  with_reducible rfl
                rotate_left
                · simp only [Act.put, List.setIfInBounds_toArray, List.set_cons_zero, List.set_cons_succ, i64_w, i32_w]
                  rfl
                refine done_ (done_of HT_.out (by kernel_rfl)) ?_
                try go_wp2_with (first | ((with_reducible refine gate_callee (f := 68) rfl ?_); refine goesL_ (some 26) rfl rfl Try.func68 (by kernel_rfl) rfl #[.string ((((((⟨#[83, 69, 71, 77]⟩ : ByteArray) ++ t119) ++ t120) ++ (⟨#[0, 0]⟩ : ByteArray)) ++ t121) ++ t122)] rfl (by (try simp only [List.map_toArray, List.map_cons, List.map_nil]); first | done | rfl | (simp only [List.length_drop, List.length_take]; rfl)) ?_; (with_reducible refine (spec_SumOf.calls k ((((((⟨#[83, 69, 71, 77]⟩ : ByteArray) ++ t119) ++ t120) ++ (⟨#[0, 0]⟩ : ByteArray)) ++ t121) ++ t122) t123 _ A13.out).mono ?_); rintro e w' ⟨rfl, ⟨nd, rfl⟩⟩; refine ⟨_, rfl, ?_⟩) | ((with_reducible refine gate_callee (f := 93) rfl ?_); refine goesL_ (some 27) rfl rfl Try.func93 (by kernel_rfl) rfl #[.int .i64 t123, .int .i64 4] rfl (by (try simp only [List.map_toArray, List.map_cons, List.map_nil]); first | done | rfl | (simp only [List.length_drop, List.length_take]; rfl)) ?_; (with_reducible refine (spec_FixText.calls k t123 4 t124 _ A14.out).mono ?_); rintro e w24 ⟨rfl, hb⟩; refine ⟨_, rfl, ?_⟩; have n0_ := Aside0.mk (blk_below (g := gb117) (o := .cells #[.int .i64 a0_0, .int .i64 a0_1, .int .i64 a0_2, .int .i64 a0_3] 30 (0, 0)) (by (with_reducible repeat (first | refine blk_drewN ?_ _ | refine blk_drew ?_ | refine blk_alloc ?_ _)); exact BK117.out) hb); have n1_ := Aside0.mk (below_step (by repeat (first | (with_reducible first | exact HB.out | apply below_alloc | apply pw_below_drewN | apply below_drew1 | refine below_set ?_ GE117.out) | exact HB.out)) hb); clear BK117; clear HB; have BK117 := n0_; have HB := n1_; clear n0_ n1_; (try clear hb); (try clear hb2); (try clear hk); (try clear hi)))
                go_ret
                exact ⟨by first | rfl | (simp [errW_none, errW_some] <;> rfl) | (simp [*, errW_none, errW_some] <;> rfl), by repeat (first | (with_reducible first | exact HB.out | apply below_alloc | apply pw_below_drewN | apply below_drew1 | refine below_set ?_ GE117.out) | exact HB.out)⟩
              · rw [if_neg c15] at H
                exact absurd H (by simp)
            · rw [if_neg c12] at H
              exact absurd H (by simp)
          · rw [if_neg c10] at H
            exact absurd H (by simp)
        · rw [if_neg c8] at H
          exact absurd H (by simp)
      · rw [if_neg c7] at H
        exact absurd H (by simp)
    · rw [if_neg c5] at H
      exact absurd H (by simp)
  · replace c3 := Bool.eq_false_iff.mpr c3
    subst c3
    have H1 : (some (⟨#[]⟩ : ByteArray)) = some r := by rw [if_neg (show ¬ (false = true) by decide)] at H; exact H
    clear H
    have H := H1
    clear H1
    obtain rfl := Option.some.inj H
    go_enter Try.func60, Try.ntmps60
    go_wp2_with (first | ((with_reducible refine gate_dst (N := 1) rfl ?_); refine box_event ?hg (N := 1) ?hd (cs := #[.int .i64 a0_0, .int .i64 a0_1, .int .i64 a0_2, .int .i64 a0_3]) (t := 30) ?hr ?_; (case hd => rfl); (case hg => rfl); (case hr => first | (go_simp; done) | (go_simp; rfl)); intro gb117 hg w25 hbox hb; have n0_ := Aside0.mk (below_step (by repeat (first | (with_reducible first | exact HB.out | apply below_alloc | apply pw_below_drewN | apply below_drew1) | exact HB.out)) hb); have n1_ := Aside0.mk (hbox); have n2_ := Aside0.mk ((by rw [hg]; exact (below_size (by repeat (first | (with_reducible first | exact HB.out | apply below_alloc | apply pw_below_drewN | apply below_drew1) | exact HB.out))) : w.heap.size ≤ gb117)); have n3_ := Aside0.mk ((by rw [hg]; exact (below_size (by repeat (first | (with_reducible first | exact HB.out | apply below_alloc | apply pw_below_drewN | apply below_drew1) | exact HB.out))) : w.heap.size ≤ gb117)); clear HB; have HB := n0_; have BK117 := n1_; have GW117 := n2_; have GE117 := n3_; clear n0_ n1_ n2_ n3_; clear hb hbox hg; have hcz26_0 : w25.cell? ⟨gb117, 0, none⟩ = some (.int .i64 a0_0) := (blk_cell BK117.out 0).trans rfl; have hcz26_1 : w25.cell? ⟨gb117, 1, none⟩ = some (.int .i64 a0_1) := (blk_cell BK117.out 1).trans rfl; have hcz26_2 : w25.cell? ⟨gb117, 2, none⟩ = some (.int .i64 a0_2) := (blk_cell BK117.out 2).trans rfl; have hcz26_3 : w25.cell? ⟨gb117, 3, none⟩ = some (.int .i64 a0_3) := (blk_cell BK117.out 3).trans rfl; have hfz26_0 := blk_frozen BK117.out 0; have hfz26_1 := blk_frozen BK117.out 1; have hfz26_2 := blk_frozen BK117.out 2; have hfz26_3 := blk_frozen BK117.out 3) | ((with_reducible refine gate_callee (f := 65) rfl ?_); refine goesL_ (some 5) rfl rfl Try.func65 (by kernel_rfl) rfl #[.agg #[.int .i64 a0_0, .int .i64 a0_1, .int .i64 a0_2, .int .i64 a0_3]] rfl (by (try simp only [List.map_toArray, List.map_cons, List.map_nil]); first | done | rfl | (simp only [List.length_drop, List.length_take]; rfl)) ?_; (with_reducible refine (spec_HeadOk.calls a0_0 a0_1 a0_2 a0_3 false _ A2.out).mono ?_); rintro e w27 ⟨rfl, hb⟩; refine ⟨_, rfl, ?_⟩; have n0_ := Aside0.mk (blk_below (g := gb117) (o := .cells #[.int .i64 a0_0, .int .i64 a0_1, .int .i64 a0_2, .int .i64 a0_3] 30 (0, 0)) (by (with_reducible repeat (first | refine blk_drewN ?_ _ | refine blk_drew ?_ | refine blk_alloc ?_ _)); exact BK117.out) hb); have n1_ := Aside0.mk (below_step (by repeat (first | (with_reducible first | exact HB.out | apply below_alloc | apply pw_below_drewN | apply below_drew1 | refine below_set ?_ GE117.out) | exact HB.out)) hb); clear BK117; clear HB; have BK117 := n0_; have HB := n1_; clear n0_ n1_; (try clear hb); (try clear hb2); (try clear hk); (try clear hi)))
    go_ret
    exact ⟨by first | rfl | (simp [errW_none, errW_some] <;> rfl) | (simp [*, errW_none, errW_some] <;> rfl), by repeat (first | (with_reducible first | exact HB.out | apply below_alloc | apply pw_below_drewN | apply below_drew1 | refine below_set ?_ GE117.out) | exact HB.out)⟩

end Go.Proofs.Ytkkendhkiopnbaa.QFnExactTailOf
