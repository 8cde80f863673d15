/- The program's HalfStep returns what the reference's returns, for all arguments. -/
import Derived.Test.YtkjmakddpacffaaPFnExactHalfStepx1
set_option linter.unusedVariables false
set_option linter.unusedSimpArgs false
namespace Go.Proofs.Ytkjmakddpacffaa.Pure
open Go.RowKit Go.Proofs.Ytkjmakddpacffaa.PFnExactHalfStep Go.Proofs.YtkjmakddpacffaaW.PrintWords Go.Proofs.YtkjmakddpacffaaW.PrintLast

theorem inRange_eq (a b c : Int) : impl_inRange.f a b c = some (decide (b ≤ a ∧ a ≤ c)) := by
  unfold impl_inRange.f
  by_cases h : b ≤ a
  · rw [if_pos h]; simp [h]
  · rw [if_neg h]; simp [h]
theorem isRung_eq (a : Int) : impl_isRung.f a = some (decide (0 ≤ a ∧ a ≤ 47)) := by unfold impl_isRung.f; rw [inRange_eq]; rfl
/-- The step of a rung. -/
def stp (r : Int) : Int := if r ≤ 0 then 1 else if r % 2 = 1 then 2 ^ ((r + 1) / 2).toNat else 3 * 2 ^ (r / 2 - 1).toNat
theorem stp_pos (r : Int) (h0 : 0 ≤ r) (h1 : r ≤ 47) : 1 ≤ stp r ∧ stp r ≤ 16777216 := by
  have key : ∀ n : Nat, n < 48 → 1 ≤ stp (n : Int) ∧ stp (n : Int) ≤ 16777216 := by decide +kernel
  have := key r.toNat (by omega)
  rwa [Int.toNat_of_nonneg h0] at this
theorem stp_lt (r : Int) (h0 : 0 ≤ r) (h1 : r < 47) : stp r < stp (r + 1) := by
  have key : ∀ n : Nat, n < 47 → stp (n : Int) < stp ((n : Int) + 1) := by decide +kernel
  have := key r.toNat (by omega)
  rwa [Int.toNat_of_nonneg h0] at this
theorem stepOf_eq (r : Int) (h0 : 0 ≤ r) (h1 : r ≤ 47) : impl_stepOf.f r = some (stp r) := by
  have key : ∀ n : Nat, n < 48 → impl_stepOf.f (n : Int) = some (stp (n : Int)) := by decide +kernel
  have := key r.toNat (by omega)
  rwa [Int.toNat_of_nonneg h0] at this
def stepR (r : Int) : Int × Int := if 0 ≤ r ∧ r ≤ 47 then (0, stp r) else (3, 0)
theorem StepOf_eq (r : Int) : impl_StepOf.f r = some (stepR r) := by
  unfold impl_StepOf.f stepR
  simp only [isRung_eq, Option.bind_some, decide_eq_true_eq]
  by_cases h1 : 0 ≤ r ∧ r ≤ 47
  · rw [if_pos h1, if_pos h1, stepOf_eq r h1.1 h1.2]; rfl
  · rw [if_neg h1, if_neg h1]
theorem w64 {n : Int} (h1 : -9223372036854775808 ≤ n) (h2 : n ≤ 9223372036854775807) : wrap64 n = n := by unfold wrap64; omega
def halfR (r : Int) : Int × Int := if 0 ≤ r ∧ r ≤ 47 then (0, stp r / 2) else (3, 0)
theorem HalfStep_eq (r : Int) : impl_HalfStep.f r = some (halfR r) := by
  unfold impl_HalfStep.f
  rw [StepOf_eq]; simp only [Option.bind_some]
  unfold stepR halfR
  by_cases h1 : 0 ≤ r ∧ r ≤ 47
  · rw [if_pos h1, if_pos h1]
    have := stp_pos r h1.1 h1.2
    simp only
    rw [Int.tdiv_eq_ediv_of_nonneg (by omega), w64 (by omega) (by omega)]
  · rw [if_neg h1, if_neg h1]; decide +kernel
theorem l1In_eq (a b c : Int) : spec_l1In.f a b c = some (decide (b ≤ a ∧ a ≤ c)) := by
  unfold spec_l1In.f
  by_cases h : a ≥ b
  · rw [if_pos h]; congr 1; have : b ≤ a := h; simp [this]
  · rw [if_neg h]; have : ¬ b ≤ a := h; simp [this]
theorem l9Rung_eq (a : Int) : spec_l9Rung.f a = some (decide (0 ≤ a ∧ a ≤ 47)) := by unfold spec_l9Rung.f; rw [l1In_eq]; rfl
theorem l9Step_eq (r : Int) (h0 : 0 ≤ r) (h1 : r ≤ 47) (k : Nat) (hk : 30 ≤ k) : spec_l9Step.f k r = some (stp r) := by
  have key : ∀ n : Nat, n < 48 → spec_l9Step.f 30 (n : Int) = some (stp (n : Int)) := by decide +kernel
  have := key r.toNat (by omega)
  rw [Int.toNat_of_nonneg h0] at this
  exact at_rounds (g := fun k => spec_l9Step.f k r) (spec_l9Step.mono r) hk this

theorem specHalfStep_eq (r : Int) (k : Nat) (hk : 30 ≤ k) : spec_HalfStep.f k r = some (halfR r) := by
  unfold spec_HalfStep.f halfR
  simp only [l9Rung_eq, Option.bind_some, decide_eq_true_eq]
  by_cases h1 : 0 ≤ r ∧ r ≤ 47
  · have := stp_pos r h1.1 h1.2
    rw [if_pos h1, if_pos h1, l9Step_eq r h1.1 h1.2 k hk]
    simp only [Option.bind_some]
    rw [Int.tdiv_eq_ediv_of_nonneg (by omega), w64 (by omega) (by omega)]
  · rw [if_neg h1, if_neg h1]
theorem eqIntResult_self (a b : Int) : laws_eqIntResult.f a b a b = some true := by simp [laws_eqIntResult.f]
theorem FnExactHalfStep : laws_FnExactHalfStep.Pure := by
  intro a _
  refine ⟨30, ?_⟩
  unfold laws_FnExactHalfStep.f
  rw [HalfStep_eq, specHalfStep_eq a 30 (by omega)]
  simp [eqIntResult_self]

end Go.Proofs.Ytkjmakddpacffaa.Pure
