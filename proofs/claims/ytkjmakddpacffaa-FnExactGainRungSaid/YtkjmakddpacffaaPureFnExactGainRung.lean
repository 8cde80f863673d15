/- The program's GainRung returns what the reference's returns, for all arguments. -/
import Derived.Test.YtkjmakddpacffaaPFnExactGainRungx1
set_option linter.unusedVariables false
set_option linter.unusedSimpArgs false
namespace Go.Proofs.Ytkjmakddpacffaa.Pure
open Go.RowKit Go.Proofs.Ytkjmakddpacffaa.PFnExactGainRung Go.Proofs.YtkjmakddpacffaaW.PrintWords Go.Proofs.YtkjmakddpacffaaW.PrintLast

theorem l1In_eq (a b c : Int) : spec_l1In.f a b c = some (decide (b ≤ a ∧ a ≤ c)) := by
  unfold spec_l1In.f
  by_cases h : a ≥ b
  · rw [if_pos h]; congr 1; have : b ≤ a := h; simp [this]
  · rw [if_neg h]; have : ¬ b ≤ a := h; simp [this]
theorem l9Rung_eq (a : Int) : spec_l9Rung.f a = some (decide (0 ≤ a ∧ a ≤ 47)) := by unfold spec_l9Rung.f; rw [l1In_eq]; rfl
theorem inRange_eq (a b c : Int) : impl_inRange.f a b c = some (decide (b ≤ a ∧ a ≤ c)) := by
  unfold impl_inRange.f
  by_cases h : b ≤ a
  · rw [if_pos h]; simp [h]
  · rw [if_neg h]; simp [h]
theorem isRung_eq (a : Int) : impl_isRung.f a = some (decide (0 ≤ a ∧ a ≤ 47)) := by unfold impl_isRung.f; rw [inRange_eq]; rfl
theorem l13Is_eq (a : Int) : spec_l13Is.f a = some (decide (0 ≤ a ∧ a ≤ 3)) := by unfold spec_l13Is.f; rw [l1In_eq]; rfl
theorem isMask_eq (a : Int) : impl_isMask.f a = some (decide (0 ≤ a ∧ a ≤ 3)) := by unfold impl_isMask.f; rw [inRange_eq]; rfl
theorem w64 {n : Int} (h1 : -9223372036854775808 ≤ n) (h2 : n ≤ 9223372036854775807) : wrap64 n = n := by unfold wrap64; omega
theorem gainRung_eq (r m : Int) (h0 : 0 ≤ r ∧ r ≤ 47) (h1 : 0 ≤ m ∧ m ≤ 3) : impl_gainRung.f r m = some (if r + 2 * m ≤ 47 then r + 2 * m else 47) := by
  unfold impl_gainRung.f mn
  simp only [w64 (n := 2 * m) (by omega) (by omega), w64 (n := r + 2 * m) (by omega) (by omega)]
  congr 1; split <;> split <;> omega
theorem l13Rung_eq (r m : Int) (h0 : 0 ≤ r ∧ r ≤ 47) (h1 : 0 ≤ m ∧ m ≤ 3) : spec_l13Rung.f r m = some (if r + 2 * m ≤ 47 then r + 2 * m else 47) := by
  unfold spec_l13Rung.f spec_l1Min.f
  simp only [w64 (n := 2 * m) (by omega) (by omega), w64 (n := r + 2 * m) (by omega) (by omega)]
  by_cases h : 47 < r + 2 * m
  · rw [if_pos h, if_neg (show ¬ r + 2 * m ≤ 47 by omega)]; rfl
  · rw [if_neg h, if_pos (show r + 2 * m ≤ 47 by omega)]; rfl
theorem eqIntResult_self (a b : Int) : laws_eqIntResult.f a b a b = some true := by simp [laws_eqIntResult.f]
theorem FnExactGainRung : laws_FnExactGainRung.Pure := by
  intro a b _ _
  unfold laws_FnExactGainRung.f spec_GainRung.f impl_GainRung.f
  simp only [l9Rung_eq, isRung_eq, l13Is_eq, isMask_eq, Option.bind_some, decide_eq_true_eq]
  by_cases h1 : 0 ≤ a ∧ a ≤ 47
  · by_cases h2 : 0 ≤ b ∧ b ≤ 3
    · rw [gainRung_eq a b h1 h2, l13Rung_eq a b h1 h2]
      simp [h1, h2, eqIntResult_self]
    · simp [h1, h2, eqIntResult_self]
  · simp [h1, eqIntResult_self]

end Go.Proofs.Ytkjmakddpacffaa.Pure
