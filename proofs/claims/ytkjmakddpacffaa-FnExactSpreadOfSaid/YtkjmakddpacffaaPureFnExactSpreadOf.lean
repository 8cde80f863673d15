/- The program's SpreadOf returns what the reference's returns, for all arguments. -/
import Derived.Test.YtkjmakddpacffaaPFnExactSpreadOfx1
set_option linter.unusedVariables false
set_option linter.unusedSimpArgs false
namespace Go.Proofs.Ytkjmakddpacffaa.Pure
open Go.RowKit Go.Proofs.Ytkjmakddpacffaa.PFnExactSpreadOf Go.Proofs.YtkjmakddpacffaaW.PrintWords Go.Proofs.YtkjmakddpacffaaW.PrintLast

theorem l1In_eq (a b c : Int) : spec_l1In.f a b c = some (decide (b ≤ a ∧ a ≤ c)) := by
  unfold spec_l1In.f
  by_cases h : a ≥ b
  · rw [if_pos h]; congr 1; have : b ≤ a := h; simp [this]
  · rw [if_neg h]; have : ¬ b ≤ a := h; simp [this]
theorem l10Spread_eq (a : Int) : spec_l10Spread.f a = some (decide (0 ≤ a ∧ a ≤ 2)) := by unfold spec_l10Spread.f; rw [l1In_eq]; rfl
theorem l10Side_eq (a b : Int) : spec_l10Side.f a b = some (decide ((0 ≤ a ∧ a ≤ 1) ∧ (0 ≤ b ∧ b ≤ 2))) := by
  unfold spec_l10Side.f; rw [l1In_eq, l10Spread_eq]; by_cases h : 0 ≤ a ∧ a ≤ 1 <;> simp [h]
theorem inRange_eq (a b c : Int) : impl_inRange.f a b c = some (decide (b ≤ a ∧ a ≤ c)) := by
  unfold impl_inRange.f
  by_cases h : b ≤ a
  · rw [if_pos h]; simp [h]
  · rw [if_neg h]; simp [h]
theorem isSide_eq (a : Int) : impl_isSide.f a = some (decide (0 ≤ a ∧ a ≤ 1)) := by unfold impl_isSide.f; rw [inRange_eq]; rfl
theorem isSpread_eq (a : Int) : impl_isSpread.f a = some (decide (0 ≤ a ∧ a ≤ 2)) := by unfold impl_isSpread.f; rw [inRange_eq]; rfl
theorem eqIntResult_self (a b : Int) : laws_eqIntResult.f a b a b = some true := by simp [laws_eqIntResult.f]
theorem FnExactSpreadOf : laws_FnExactSpreadOf.Pure := by
  intro a b c _ _
  unfold laws_FnExactSpreadOf.f spec_SpreadOf.f impl_SpreadOf.f spec_l10Off.f impl_spreadOf.f mn
  simp only [l10Side_eq, isSide_eq, isSpread_eq, Option.bind_some, decide_eq_true_eq]
  by_cases h1 : 0 ≤ a ∧ a ≤ 1
  · by_cases h2 : 0 ≤ b ∧ b ≤ 2
    · have ha : a = 0 ∨ a = 1 := by omega
      have hb : b = 0 ∨ b = 1 ∨ b = 2 := by omega
      rcases ha with rfl | rfl <;> rcases hb with rfl | rfl | rfl <;> cases c <;> decide
    · simp [h1, h2, eqIntResult_self]
  · simp [h1, eqIntResult_self]

end Go.Proofs.Ytkjmakddpacffaa.Pure
