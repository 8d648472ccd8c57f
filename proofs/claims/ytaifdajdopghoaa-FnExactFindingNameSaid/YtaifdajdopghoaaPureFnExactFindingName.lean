/- The program's FindingName answers as the reference's, for every code. -/
import Derived.Test.YtaifdajdopghoaaQFnExactFindingNamex1
import Derived.Test.YtaifdajdopghoaaMath
namespace Go.Proofs.Ytaifdajdopghoaa.Pure
open Go.RowKit Go.Proofs.Ytaifdajdopghoaa.QFnExactFindingName Go.Proofs.YtaifdajdopghoaaW.PrintWords Go.Proofs.YtaifdajdopghoaaW.PrintLast Go.Proofs.YtaifdajdopghoaaW.PrintMore Go.Proofs.Ytaifdajdopghoaa.Mth
set_option linter.unusedVariables false
set_option linter.unusedSimpArgs false

theorem spec_In (a b c : Int) : spec_l01In.f a b c = some (decide (b ≤ a ∧ a ≤ c)) := by
  unfold spec_l01In.f
  by_cases h : a ≥ b <;> simp [h]

theorem impl_In (a b c : Int) : impl_within.f a b c = some (decide (b ≤ a ∧ a ≤ c)) := by
  unfold impl_within.f
  by_cases h : a ≥ b <;> simp [h]

theorem FnExactFindingName : laws_FnExactFindingName.Pure := by
  intro a _
  unfold laws_FnExactFindingName.f spec_FindingName.f impl_FindingName.f
  rw [spec_In, impl_In]
  by_cases h : 1 ≤ a ∧ a ≤ 4
  · obtain h | h | h | h : a = 1 ∨ a = 2 ∨ a = 3 ∨ a = 4 := by omega
    all_goals
      subst h
      decide +kernel
  · rw [decide_eq_false h]
    simp

end Go.Proofs.Ytaifdajdopghoaa.Pure
