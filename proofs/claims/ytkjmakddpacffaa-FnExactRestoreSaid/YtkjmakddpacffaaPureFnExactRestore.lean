/- The program's Restore returns what the reference's returns, for all arguments. -/
import Derived.Test.YtkjmakddpacffaaPFnExactRestorex1
set_option linter.unusedVariables false
set_option linter.unusedSimpArgs false
namespace Go.Proofs.Ytkjmakddpacffaa.Pure
open Go.RowKit Go.Proofs.Ytkjmakddpacffaa.PFnExactRestore Go.Proofs.YtkjmakddpacffaaW.PrintWords Go.Proofs.YtkjmakddpacffaaW.PrintLast

theorem l1In_eq (a b c : Int) : spec_l1In.f a b c = some (decide (b ≤ a ∧ a ≤ c)) := by
  unfold spec_l1In.f
  by_cases h : a ≥ b
  · rw [if_pos h]; congr 1; have : b ≤ a := h; simp [this]
  · rw [if_neg h]; have : ¬ b ≤ a := h; simp [this]
theorem l9Rung_eq (a : Int) : spec_l9Rung.f a = some (decide (0 ≤ a ∧ a ≤ 47)) := by unfold spec_l9Rung.f; rw [l1In_eq]; rfl
theorem inRange_eq (a b c : Int) : impl_inRange.f a b c = some (decide (b ≤ a ∧ a ≤ c)) := by
  unfold impl_inRange.f
  by_cases h : b ≤ a
  · rw [if_pos h]; simp [h]
  · rw [if_neg h]; simp [h]
theorem isRung_eq (a : Int) : impl_isRung.f a = some (decide (0 ≤ a ∧ a ≤ 47)) := by unfold impl_isRung.f; rw [inRange_eq]; rfl
theorem l9Coef_eq (a : Int) : spec_l9Coef.f a = some (decide (-16777216 ≤ a ∧ a ≤ 16777216)) := by unfold spec_l9Coef.f; rw [l1In_eq]; rfl
theorem w64 {n : Int} (h1 : -9223372036854775808 ≤ n) (h2 : n ≤ 9223372036854775807) : wrap64 n = n := by unfold wrap64; omega
theorem within_eq (a b : Int) (h0 : 0 ≤ b) (h1 : b ≤ 9223372036854775807) : impl_within.f a b = some (decide (-b ≤ a ∧ a ≤ b)) := by
  unfold impl_within.f; rw [w64 (by omega) (by omega), inRange_eq]; rfl
theorem isCoef_eq (a : Int) : impl_isCoef.f a = some (decide (-16777216 ≤ a ∧ a ≤ 16777216)) := by unfold impl_isCoef.f; rw [within_eq _ _ (by decide) (by decide)]; rfl
/-- The step of a rung. -/
def stp (r : Int) : Int := if r ≤ 0 then 1 else if r % 2 = 1 then 2 ^ ((r + 1) / 2).toNat else 3 * 2 ^ (r / 2 - 1).toNat
theorem stp_pos (r : Int) (h0 : 0 ≤ r) (h1 : r ≤ 47) : 1 ≤ stp r ∧ stp r ≤ 16777216 := by
  have key : ∀ n : Nat, n < 48 → 1 ≤ stp (n : Int) ∧ stp (n : Int) ≤ 16777216 := by decide +kernel
  have := key r.toNat (by omega)
  rwa [Int.toNat_of_nonneg h0] at this
theorem stp_lt (r : Int) (h0 : 0 ≤ r) (h1 : r < 47) : stp r < stp (r + 1) := by
  have key : ∀ n : Nat, n < 47 → stp (n : Int) < stp ((n : Int) + 1) := by decide +kernel
  have := key r.toNat (by omega)
  rwa [Int.toNat_of_nonneg h0] at this
theorem stepOf_eq (r : Int) (h0 : 0 ≤ r) (h1 : r ≤ 47) : impl_stepOf.f r = some (stp r) := by
  have key : ∀ n : Nat, n < 48 → impl_stepOf.f (n : Int) = some (stp (n : Int)) := by decide +kernel
  have := key r.toNat (by omega)
  rwa [Int.toNat_of_nonneg h0] at this
theorem l9Step_eq (r : Int) (h0 : 0 ≤ r) (h1 : r ≤ 47) (k : Nat) (hk : 30 ≤ k) : spec_l9Step.f k r = some (stp r) := by
  have key : ∀ n : Nat, n < 48 → spec_l9Step.f 30 (n : Int) = some (stp (n : Int)) := by decide +kernel
  have := key r.toNat (by omega)
  rw [Int.toNat_of_nonneg h0] at this
  exact at_rounds (g := fun k => spec_l9Step.f k r) (spec_l9Step.mono r) hk this

theorem eqIntResult_self (a b : Int) : laws_eqIntResult.f a b a b = some true := by simp [laws_eqIntResult.f]
theorem FnExactRestore : laws_FnExactRestore.Pure := by
  intro a b _ _
  refine ⟨30, ?_⟩
  unfold laws_FnExactRestore.f spec_Restore.f impl_Restore.f
  simp only [l9Rung_eq, isRung_eq, l9Coef_eq, isCoef_eq, Option.bind_some, decide_eq_true_eq]
  by_cases h1 : 0 ≤ b ∧ b ≤ 47
  · rw [l9Step_eq b h1.1 h1.2 30 (by omega), stepOf_eq b h1.1 h1.2]
    simp only [Option.bind_some, decide_eq_true_eq]
    by_cases h2 : -16777216 ≤ a ∧ a ≤ 16777216
    · by_cases h3 : -16777216 ≤ wrap64 (a * stp b) ∧ wrap64 (a * stp b) ≤ 16777216 <;> simp [h1, h2, h3, eqIntResult_self]
    · simp [h1, h2, eqIntResult_self]
  · simp [h1, eqIntResult_self]

end Go.Proofs.Ytkjmakddpacffaa.Pure
