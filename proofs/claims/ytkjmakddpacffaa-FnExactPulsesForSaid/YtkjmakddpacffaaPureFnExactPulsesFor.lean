/- The program's PulsesFor returns what the reference's returns, for all arguments. -/
import Derived.Test.YtkjmakddpacffaaPFnExactPulsesForx1
set_option linter.unusedVariables false
set_option linter.unusedSimpArgs false
namespace Go.Proofs.Ytkjmakddpacffaa.Pure
open Go.RowKit Go.Proofs.Ytkjmakddpacffaa.PFnExactPulsesFor Go.Proofs.YtkjmakddpacffaaW.PrintWords Go.Proofs.YtkjmakddpacffaaW.PrintLast

theorem l1In_eq (a b c : Int) : spec_l1In.f a b c = some (decide (b ≤ a ∧ a ≤ c)) := by
  unfold spec_l1In.f
  by_cases h : a ≥ b
  · rw [if_pos h]; congr 1; have : b ≤ a := h; simp [this]
  · rw [if_neg h]; have : ¬ b ≤ a := h; simp [this]
theorem l13Is_eq (a : Int) : spec_l13Is.f a = some (decide (0 ≤ a ∧ a ≤ 3)) := by unfold spec_l13Is.f; rw [l1In_eq]; rfl
theorem inRange_eq (a b c : Int) : impl_inRange.f a b c = some (decide (b ≤ a ∧ a ≤ c)) := by
  unfold impl_inRange.f
  by_cases h : b ≤ a
  · rw [if_pos h]; simp [h]
  · rw [if_neg h]; simp [h]
theorem isMask_eq (a : Int) : impl_isMask.f a = some (decide (0 ≤ a ∧ a ≤ 3)) := by unfold impl_isMask.f; rw [inRange_eq]; rfl
theorem eqIntResult_self (a b : Int) : laws_eqIntResult.f a b a b = some true := by simp [laws_eqIntResult.f]
theorem FnExactPulsesFor : laws_FnExactPulsesFor.Pure := by
  intro a _
  unfold laws_FnExactPulsesFor.f spec_PulsesFor.f impl_PulsesFor.f impl_pulsesFor.f
  simp only [l13Is_eq, isMask_eq, Option.bind_some, decide_eq_true_eq]
  by_cases h1 : 0 ≤ a ∧ a ≤ 3 <;> simp [h1, eqIntResult_self]

end Go.Proofs.Ytkjmakddpacffaa.Pure
