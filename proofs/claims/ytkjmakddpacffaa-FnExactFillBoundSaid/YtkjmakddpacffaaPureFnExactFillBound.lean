/- The program's FillBound returns what the reference's returns, for all arguments. -/
import Derived.Test.YtkjmakddpacffaaPFnExactFillBoundx1
set_option linter.unusedVariables false
set_option linter.unusedSimpArgs false
namespace Go.Proofs.Ytkjmakddpacffaa.Pure
open Go.RowKit Go.Proofs.Ytkjmakddpacffaa.PFnExactFillBound Go.Proofs.YtkjmakddpacffaaW.PrintWords Go.Proofs.YtkjmakddpacffaaW.PrintLast

theorem l1In_eq (a b c : Int) : spec_l1In.f a b c = some (decide (b ≤ a ∧ a ≤ c)) := by
  unfold spec_l1In.f
  by_cases h : a ≥ b
  · rw [if_pos h]; congr 1; have : b ≤ a := h; simp [this]
  · rw [if_neg h]; have : ¬ b ≤ a := h; simp [this]
theorem inRange_eq (a b c : Int) : impl_inRange.f a b c = some (decide (b ≤ a ∧ a ≤ c)) := by
  unfold impl_inRange.f
  by_cases h : b ≤ a
  · rw [if_pos h]; simp [h]
  · rw [if_neg h]; simp [h]
theorem l12Gain_eq (a : Int) : spec_l12Gain.f a = some (decide (0 ≤ a ∧ a ≤ 67108864)) := by unfold spec_l12Gain.f; rw [l1In_eq]; rfl
theorem isGain_eq (a : Int) : impl_isGain.f a = some (decide (0 ≤ a ∧ a ≤ 67108864)) := by unfold impl_isGain.f; rw [inRange_eq]; rfl
theorem eqIntResult_self (a b : Int) : laws_eqIntResult.f a b a b = some true := by simp [laws_eqIntResult.f]
theorem FnExactFillBound : laws_FnExactFillBound.Pure := by
  intro a b _ _
  unfold laws_FnExactFillBound.f spec_FillBound.f impl_FillBound.f
  simp only [l12Gain_eq, isGain_eq, Option.bind_some, decide_eq_true_eq]
  by_cases h1 : 0 ≤ a ∧ a ≤ 67108864 <;> by_cases h2 : 0 ≤ b ∧ b ≤ 67108864 <;> simp [h1, h2, eqIntResult_self]

end Go.Proofs.Ytkjmakddpacffaa.Pure
