/- The program's ShapeBound returns what the reference's returns, for all arguments. -/
import Derived.Test.YtkjmakddpacffaaPFnExactShapeBoundx1
set_option linter.unusedVariables false
set_option linter.unusedSimpArgs false
namespace Go.Proofs.Ytkjmakddpacffaa.Pure
open Go.RowKit Go.Proofs.Ytkjmakddpacffaa.PFnExactShapeBound Go.Proofs.YtkjmakddpacffaaW.PrintWords Go.Proofs.YtkjmakddpacffaaW.PrintLast

theorem l1In_eq (a b c : Int) : spec_l1In.f a b c = some (decide (b ≤ a ∧ a ≤ c)) := by
  unfold spec_l1In.f
  by_cases h : a ≥ b
  · rw [if_pos h]; congr 1; have : b ≤ a := h; simp [this]
  · rw [if_neg h]; have : ¬ b ≤ a := h; simp [this]
theorem l12Gain_eq (a : Int) : spec_l12Gain.f a = some (decide (0 ≤ a ∧ a ≤ 67108864)) := by unfold spec_l12Gain.f; rw [l1In_eq]; rfl
theorem inRange_eq (a b c : Int) : impl_inRange.f a b c = some (decide (b ≤ a ∧ a ≤ c)) := by
  unfold impl_inRange.f
  by_cases h : b ≤ a
  · rw [if_pos h]; simp [h]
  · rw [if_neg h]; simp [h]
theorem isGain_eq (a : Int) : impl_isGain.f a = some (decide (0 ≤ a ∧ a ≤ 67108864)) := by unfold impl_isGain.f; rw [inRange_eq]; rfl
theorem w64 {n : Int} (h1 : -9223372036854775808 ≤ n) (h2 : n ≤ 9223372036854775807) : wrap64 n = n := by unfold wrap64; omega
theorem floorDiv_eq (a b : Int) (hb : 1 ≤ b) (h0 : -9223372036854775807 ≤ a) (h1 : a ≤ 9223372036854775807) (hb1 : b ≤ 9223372036854775807) : impl_floorDiv.f a b = some (a / b) := by
  unfold impl_floorDiv.f
  rw [if_neg (by omega)]
  have hq : -9223372036854775807 ≤ a / b ∧ a / b ≤ 9223372036854775807 := by
    have hm := Int.mul_ediv_add_emod a b
    have hr0 := Int.emod_nonneg a (show b ≠ 0 by omega)
    have hr1 := Int.emod_lt_of_pos a (show 0 < b by omega)
    rcases Int.lt_or_le a 0 with hneg | hpos
    · have h3 : a / b < 0 := Int.ediv_neg_of_neg_of_pos hneg (by omega)
      have h4 : a ≤ a / b := Int.le_ediv_of_mul_le (by omega) (by
        have : a * b ≤ a * 1 := Int.mul_le_mul_of_nonpos_left (by omega) (by omega)
        omega)
      omega
    · have h3 := Int.ediv_nonneg hpos (show 0 ≤ b by omega)
      have h4 := Int.ediv_le_self b hpos
      omega
  have hqr := Int.mul_tdiv_add_tmod a b
  have hm := Int.mul_ediv_add_emod a b
  have hr0 := Int.emod_nonneg a (show b ≠ 0 by omega)
  have hr1 := Int.emod_lt_of_pos a (show 0 < b by omega)
  rw [Int.tmod_eq_emod, Int.tdiv_eq_ediv]
  by_cases hc : 0 ≤ a ∨ b ∣ a
  · rw [if_pos hc, if_pos hc]
    simp only [Int.sub_zero, Int.add_zero]
    rw [if_neg (by have := hr0; omega)]
    rw [w64 (by omega) (by omega)]
  · rw [if_neg hc, if_neg hc]
    have hs : b.sign = 1 := Int.sign_eq_one_of_pos (by omega)
    have hbn : (b.natAbs : Int) = b := by omega
    rw [hs]
    rw [if_pos (by omega)]
    have : wrap64 (a / b + 1) = a / b + 1 := w64 (by omega) (by
      rcases Int.lt_or_le a 0 with hneg | hpos
      · have h3 : a / b < 0 := Int.ediv_neg_of_neg_of_pos hneg (by omega)
        omega
      · exact absurd (Or.inl hpos) hc)
    rw [this, w64 (by omega) (by omega)]
    congr 1; omega
theorem ceilDiv_eq (a b : Int) (hb : 1 ≤ b) (h0 : 0 ≤ a) (h1 : a ≤ 9223372036854775807) (hb1 : b ≤ 9223372036854775807) : impl_ceilDiv.f a b = some (-(-a / b)) := by
  unfold impl_ceilDiv.f
  rw [w64 (by omega) (by omega), floorDiv_eq (-a) b hb (by omega) (by omega) hb1]
  simp only [Option.bind_some]
  have hq : -a / b ≤ 0 := by have := Int.ediv_le_ediv (show 0 < b by omega) (show -a ≤ 0 by omega); simpa using this
  have h4 : -a ≤ -a / b := Int.le_ediv_of_mul_le (by omega) (by
        have : -a * b ≤ -a * 1 := Int.mul_le_mul_of_nonpos_left (by omega) (by omega)
        omega)
  rw [w64 (by omega) (by omega)]
theorem ceil_alt (a b : Int) (hb : 1 ≤ b) : (a + b - 1) / b = -(-a / b) := by
  have h1 := Int.mul_ediv_add_emod (-a) b
  have hr0 := Int.emod_nonneg (-a) (show b ≠ 0 by omega)
  have hr1 := Int.emod_lt_of_pos (-a) (show 0 < b by omega)
  have e : a + b - 1 = (b - 1 - (-a) % b) + b * (-(-a / b)) := by
    have : b * (-(-a / b)) = -(b * (-a / b)) := by rw [Int.mul_neg]
    omega
  rw [e, Int.add_mul_ediv_left _ _ (by omega), Int.ediv_eq_zero_of_lt (by omega) (by omega)]
  omega
theorem l1Ceil_eq (a b : Int) (hb : 1 ≤ b) (h0 : 0 ≤ a) (h1 : a ≤ 4611686018427387904) (hb1 : b ≤ 4611686018427387903) : spec_l1Ceil.f a b = some (-(-a / b)) := by
  unfold spec_l1Ceil.f
  rw [if_neg (by omega), w64 (n := a + b) (by omega) (by omega), w64 (n := a + b - 1) (by omega) (by omega), Int.tdiv_eq_ediv_of_nonneg (by omega), ceil_alt a b hb]
  have hq : -a / b ≤ 0 := by have := Int.ediv_le_ediv (show 0 < b by omega) (show -a ≤ 0 by omega); simpa using this
  have h4 : -a ≤ -a / b := Int.le_ediv_of_mul_le (by omega) (by
        have : -a * b ≤ -a * 1 := Int.mul_le_mul_of_nonpos_left (by omega) (by omega)
        omega)
  rw [w64 (by omega) (by omega)]
theorem eqIntResult_self (a b : Int) : laws_eqIntResult.f a b a b = some true := by simp [laws_eqIntResult.f]
theorem FnExactShapeBound : laws_FnExactShapeBound.Pure := by
  intro a b c _ _ _
  unfold laws_FnExactShapeBound.f spec_ShapeBound.f impl_ShapeBound.f impl_shapeBound.f
  simp only [l12Gain_eq, isGain_eq, l1In_eq, inRange_eq, Option.bind_some, decide_eq_true_eq]
  by_cases h1 : 0 ≤ a ∧ a ≤ 67108864
  · by_cases h2 : 0 ≤ c ∧ c ≤ 67108864
    · by_cases h3 : 1 ≤ b ∧ b ≤ 8
      · rw [l1Ceil_eq a b h3.1 h1.1 (by omega) (by omega), ceilDiv_eq a b h3.1 h1.1 (by omega) (by omega)]
        simp [h1, h2, h3, eqIntResult_self]
      · simp [h1, h2, h3, eqIntResult_self]
    · simp [h1, h2, eqIntResult_self]
  · simp [h1, eqIntResult_self]

end Go.Proofs.Ytkjmakddpacffaa.Pure
