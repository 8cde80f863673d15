/- The program's JoinIndex returns what the reference's returns, for all arguments. -/
import Derived.Test.YtfjljllkofcmbaaPFnExactJoinIndexx2
set_option linter.unusedVariables false
set_option linter.unusedSimpArgs false
namespace Go.Proofs.Ytfjljllkofcmbaa.Pure
open Go.RowKit Go.Proofs.Ytfjljllkofcmbaa.PFnExactJoinIndex Go.Proofs.YtfjljllkofcmbaaW.PrintWords Go.Proofs.YtfjljllkofcmbaaW.PrintLast

/-- The two numbers of an index, rounded down. -/
def spl (q k : Int) (t : Bool) : Int × Int :=
  let p : Int × Int := if k = 1 then ((q + 1) / 2, q / 2) else if k = 2 then (if q % 3 = 1 then (q / 3, q / 3 + 1) else if q % 3 = 2 then (q / 3 + 1, q / 3) else (q / 3, q / 3)) else (q, q)
  if t = true then (p.2, p.1) else p
theorem spl_bound (q k : Int) (t : Bool) (h0 : -100000 ≤ q) (h1 : q ≤ 100000) : -100001 ≤ (spl q k t).1 ∧ (spl q k t).1 ≤ 100001 ∧ -100001 ≤ (spl q k t).2 ∧ (spl q k t).2 ≤ 100001 := by
  unfold spl
  by_cases c1 : k = 1
  · cases t <;> simp only [c1, if_true, Bool.false_eq_true, if_false] <;> omega
  · by_cases c2 : k = 2
    · by_cases c3 : q % 3 = 1
      · cases t <;> simp [c1, c2, c3] <;> omega
      · by_cases c4 : q % 3 = 2
        · cases t <;> simp [c1, c2, c3, c4] <;> omega
        · cases t <;> simp [c1, c2, c3, c4] <;> omega
    · cases t <;> simp [c1, c2] <;> omega
/-- The only index that two numbers can have. -/
def joinq (a b k : Int) (t : Bool) : Int := if k = 0 then a else if k = 1 then a + b else if t = true then (if a = b then 3 * a else if a < b then 3 * a + 2 else 3 * b + 1) else (if a = b then 3 * a else if a < b then 3 * a + 1 else 3 * b + 2)
theorem joinq_spl (q a b k : Int) (t : Bool) (hk : 0 ≤ k ∧ k ≤ 2) (h : spl q k t = (a, b)) : q = joinq a b k t ∧ (k + 1) * (if b < a then b else a) ≤ q ∧ q ≤ (k + 1) * (if b < a then b else a) + k + 1 ∧ (k + 1) * a - 3 ≤ q ∧ q ≤ (k + 1) * a + 3 ∧ (k + 1) * a - 2 ≤ q ∧ q ≤ (k + 1) * a + 2 ∧ (k + 1) * b - 2 ≤ q ∧ q ≤ (k + 1) * b + 2 := by
  have hk' : k = 0 ∨ k = 1 ∨ k = 2 := by omega
  unfold spl at h
  unfold joinq
  rcases hk' with rfl | rfl | rfl
  · cases t <;> simp at h <;> obtain ⟨rfl, rfl⟩ := h <;> simp <;> omega
  · cases t <;> simp at h <;> obtain ⟨h1, h2⟩ := h <;> simp <;> split <;> omega
  · by_cases c3 : q % 3 = 1
    · cases t <;> simp [c3] at h <;> obtain ⟨h1, h2⟩ := h <;> simp <;> (repeat' split) <;> omega
    · by_cases c4 : q % 3 = 2
      · cases t <;> simp [c4] at h <;> obtain ⟨h1, h2⟩ := h <;> simp <;> (repeat' split) <;> omega
      · cases t <;> simp [c3, c4] at h <;> obtain ⟨h1, h2⟩ := h <;> simp <;> (repeat' split) <;> omega
theorem w64 {n : Int} (h1 : -9223372036854775808 ≤ n) (h2 : n ≤ 9223372036854775807) : wrap64 n = n := by unfold wrap64; omega
theorem floorDiv_eq (a b : Int) (hb : 1 ≤ b) (h0 : -9223372036854775807 ≤ a) (h1 : a ≤ 9223372036854775807) (hb1 : b ≤ 9223372036854775807) : impl_floorDiv.f a b = some (a / b) := by
  unfold impl_floorDiv.f
  rw [if_neg (by omega)]
  have hq : -9223372036854775807 ≤ a / b ∧ a / b ≤ 9223372036854775807 := by
    have hm := Int.mul_ediv_add_emod a b
    have hr0 := Int.emod_nonneg a (show b ≠ 0 by omega)
    have hr1 := Int.emod_lt_of_pos a (show 0 < b by omega)
    rcases Int.lt_or_le a 0 with hneg | hpos
    · have h3 : a / b < 0 := Int.ediv_neg_of_neg_of_pos hneg (by omega)
      have h4 : a ≤ a / b := Int.le_ediv_of_mul_le (by omega) (by
        have : a * b ≤ a * 1 := Int.mul_le_mul_of_nonpos_left (by omega) (by omega)
        omega)
      omega
    · have h3 := Int.ediv_nonneg hpos (show 0 ≤ b by omega)
      have h4 := Int.ediv_le_self b hpos
      omega
  have hqr := Int.mul_tdiv_add_tmod a b
  have hm := Int.mul_ediv_add_emod a b
  have hr0 := Int.emod_nonneg a (show b ≠ 0 by omega)
  have hr1 := Int.emod_lt_of_pos a (show 0 < b by omega)
  rw [Int.tmod_eq_emod, Int.tdiv_eq_ediv]
  by_cases hc : 0 ≤ a ∨ b ∣ a
  · rw [if_pos hc, if_pos hc]
    simp only [Int.sub_zero, Int.add_zero]
    rw [if_neg (by have := hr0; omega)]
    rw [w64 (by omega) (by omega)]
  · rw [if_neg hc, if_neg hc]
    have hs : b.sign = 1 := Int.sign_eq_one_of_pos (by omega)
    have hbn : (b.natAbs : Int) = b := by omega
    rw [hs]
    rw [if_pos (by omega)]
    have : wrap64 (a / b + 1) = a / b + 1 := w64 (by omega) (by
      rcases Int.lt_or_le a 0 with hneg | hpos
      · have h3 : a / b < 0 := Int.ediv_neg_of_neg_of_pos hneg (by omega)
        omega
      · exact absurd (Or.inl hpos) hc)
    rw [this, w64 (by omega) (by omega)]
    congr 1; omega
theorem splitIndex_eq (q k : Int) (t : Bool) (h0 : -100000 ≤ q) (h1 : q ≤ 100000) : impl_splitIndex.f q k t = some (spl q k t) := by
  unfold impl_splitIndex.f spl
  by_cases c1 : k = 1
  · rw [if_pos c1, w64 (n := q + 1) (by omega) (by omega), floorDiv_eq (q + 1) 2 (by omega) (by omega) (by omega) (by omega), floorDiv_eq q 2 (by omega) (by omega) (by omega) (by omega)]
    cases t <;> simp [c1]
  · rw [if_neg c1]
    by_cases c2 : k = 2
    · rw [if_pos c2, floorDiv_eq q 3 (by omega) (by omega) (by omega) (by omega)]
      simp only [Option.bind_some]
      rw [w64 (n := 3 * (q / 3)) (by omega) (by omega), w64 (n := q - 3 * (q / 3)) (by omega) (by omega), w64 (n := q / 3 + 1) (by omega) (by omega)]
      have e : q - 3 * (q / 3) = q % 3 := by omega
      rw [e]
      by_cases c3 : q % 3 = 1
      · cases t <;> simp [c1, c2, c3]
      · by_cases c4 : q % 3 = 2
        · cases t <;> simp [c1, c2, c3, c4]
        · cases t <;> simp [c1, c2, c3, c4]
    · cases t <;> simp [c1, c2]
theorem inRange_eq (a b c : Int) : impl_inRange.f a b c = some (decide (b ≤ a ∧ a ≤ c)) := by
  unfold impl_inRange.f
  by_cases h : b ≤ a
  · rw [if_pos h]; simp [h]
  · rw [if_neg h]; simp [h]
theorem isSpread_eq (a : Int) : impl_isSpread.f a = some (decide (0 ≤ a ∧ a ≤ 2)) := by unfold impl_isSpread.f; rw [inRange_eq]; rfl
theorem within_eq (a b : Int) (h0 : 0 ≤ b) (h1 : b ≤ 9223372036854775807) : impl_within.f a b = some (decide (-b ≤ a ∧ a ≤ b)) := by
  unfold impl_within.f; rw [w64 (by omega) (by omega), inRange_eq]; rfl
theorem isIndexOf_eq (a : Int) : impl_isIndexOf.f a = some (decide (-30000 ≤ a ∧ a ≤ 30000)) := by unfold impl_isIndexOf.f; rw [within_eq _ _ (by decide) (by decide)]; rfl
/-- What JoinIndex answers. -/
def joinR (a b k : Int) (t : Bool) : Int × Int := if (0 ≤ k ∧ k ≤ 2) ∧ (-30000 ≤ a ∧ a ≤ 30000) ∧ (-30000 ≤ b ∧ b ≤ 30000) then (if (-30000 ≤ joinq a b k t ∧ joinq a b k t ≤ 30000) ∧ spl (joinq a b k t) k t = (a, b) then (0, joinq a b k t) else (4, 0)) else (3, 0)
theorem JoinIndex_l0 (a b k : Int) (t : Bool) (hk : 0 ≤ k ∧ k ≤ 2) (ha : -30000 ≤ a ∧ a ≤ 30000) (hb : -30000 ≤ b ∧ b ≤ 30000) (hi : Int) (hhi : hi = (k + 1) * (if b < a then b else a) + k + 1) (hhb : -100000 ≤ hi ∧ hi ≤ 99999) :
    ∀ (n : Nat) (x : Int) (K : Nat), hi + 1 - x = n → -100000 ≤ x → n < K →
    impl_JoinIndex.l0 K a b k t x = some (if ((-30000 ≤ joinq a b k t ∧ joinq a b k t ≤ 30000) ∧ spl (joinq a b k t) k t = (a, b)) ∧ x ≤ joinq a b k t then (0, joinq a b k t) else (4, 0)) := by
  have hk' : k = 0 ∨ k = 1 ∨ k = 2 := by omega
  have ew : wrap64 (wrap64 (wrap64 (wrap64 (k + 1) * mn a b) + k) + 1) = hi := by
    subst hhi
    unfold mn
    rcases hk' with rfl | rfl | rfl <;> split <;> simp only [wrap64] <;> omega
  intro n
  induction n with
  | zero =>
    intro x K hn hx hK
    obtain ⟨K, rfl⟩ : ∃ m, K = m + 1 := ⟨K - 1, by omega⟩
    simp only [impl_JoinIndex.l0]
    rw [ew, if_neg (by omega), if_neg]
    rintro ⟨⟨_, h⟩, h2⟩
    have := joinq_spl _ a b k t hk h
    omega
  | succ n ih =>
    intro x K hn hx hK
    obtain ⟨K, rfl⟩ : ∃ m, K = m + 1 := ⟨K - 1, by omega⟩
    simp only [impl_JoinIndex.l0]
    rw [ew, if_pos (by omega), splitIndex_eq x k t (by omega) (by omega), isIndexOf_eq]
    simp only [Option.bind_some, decide_eq_true_eq]
    rw [w64 (n := x + 1) (by omega) (by omega), ih (x + 1) K (by omega) (by omega) (by omega)]
    by_cases hq : spl x k t = (a, b)
    · have hj := (joinq_spl x a b k t hk hq).1
      rw [← hj, hq]
      simp only [if_true, and_true]
      by_cases hin : -30000 ≤ x ∧ x ≤ 30000
      · rw [if_pos hin, if_pos ⟨hin, Int.le_refl _⟩]
      · rw [if_neg hin, if_neg (fun h => hin h.1), if_neg (fun h => hin h.1)]
    · have hne : ¬ ((spl x k t).1 = a ∧ (spl x k t).2 = b) := fun h => hq (Prod.ext h.1 h.2)
      have same : ((((-30000 ≤ joinq a b k t ∧ joinq a b k t ≤ 30000) ∧ spl (joinq a b k t) k t = (a, b)) ∧ x + 1 ≤ joinq a b k t) ↔ (((-30000 ≤ joinq a b k t ∧ joinq a b k t ≤ 30000) ∧ spl (joinq a b k t) k t = (a, b)) ∧ x ≤ joinq a b k t)) := by
        constructor
        · rintro ⟨h, h2⟩; exact ⟨h, by omega⟩
        · rintro ⟨h, h2⟩
          refine ⟨h, ?_⟩
          have : x ≠ joinq a b k t := fun e => hq (by rw [e]; exact h.2)
          omega
      simp only [same]
      by_cases h1 : (spl x k t).1 = a
      · have h2 : ¬ (spl x k t).2 = b := fun h => hne ⟨h1, h⟩
        rw [if_pos h1, if_neg h2]; simp
      · rw [if_neg h1]; simp
theorem JoinIndex_eq (a b k : Int) (t : Bool) (K : Nat) (hK : 20 ≤ K) : impl_JoinIndex.f K a b k t = some (joinR a b k t) := by
  obtain ⟨K, rfl⟩ : ∃ m, K = m + 1 := ⟨K - 1, by omega⟩
  unfold impl_JoinIndex.f joinR
  simp only [isSpread_eq, isIndexOf_eq, Option.bind_some, decide_eq_true_eq]
  by_cases h1 : 0 ≤ k ∧ k ≤ 2
  · by_cases h2 : -30000 ≤ a ∧ a ≤ 30000
    · by_cases h3 : -30000 ≤ b ∧ b ≤ 30000
      · rw [if_pos h1, if_pos h2, if_pos ⟨h1, h2, h3⟩]
        simp only [h3, and_self, decide_true, Bool.not_true, impl_JoinIndex.j0]
        rw [if_neg (by simp)]
        have hk' : k = 0 ∨ k = 1 ∨ k = 2 := by omega
        have ew : wrap64 (wrap64 (k + 1) * mn a b) = (k + 1) * (if b < a then b else a) := by
          unfold mn
          rcases hk' with rfl | rfl | rfl <;> split <;> simp only [wrap64] <;> omega
        have hlo : (k + 1) * (if b < a then b else a) ≤ 90000 ∧ -90000 ≤ (k + 1) * (if b < a then b else a) := by
          rcases hk' with rfl | rfl | rfl <;> split <;> omega
        rw [ew, JoinIndex_l0 a b k t h1 h2 h3 ((k + 1) * (if b < a then b else a) + k + 1) rfl (by omega) (k.toNat + 2) _ K (by omega) (by omega) (by omega)]
        congr 1
        by_cases c : (-30000 ≤ joinq a b k t ∧ joinq a b k t ≤ 30000) ∧ spl (joinq a b k t) k t = (a, b)
        · rw [if_pos c, if_pos ⟨c, (joinq_spl _ a b k t h1 c.2).2.1⟩]
        · rw [if_neg c, if_neg (fun h => c h.1)]
      · rw [if_pos h1, if_pos h2, if_neg (fun h => h3 h.2.2)]
        simp only [h3, decide_false, Bool.not_false, impl_JoinIndex.j0, if_true]
    · rw [if_pos h1, if_neg h2, if_neg (fun h => h2 h.2.1)]; simp only [impl_JoinIndex.j0, if_true]
  · rw [if_neg h1, if_neg (fun h => h1 h.1)]; simp only [impl_JoinIndex.j0, if_true]
/-- So many numbers from x on. -/
def iv : Nat → Int → List Int
  | 0, _ => []
  | n + 1, x => x :: iv n (x + 1)
theorem iv_length : ∀ (n : Nat) (x : Int), (iv n x).length = n
  | 0, _ => rfl
  | n + 1, x => by simp [iv, iv_length n]
theorem ceil_alt (a b : Int) (hb : 1 ≤ b) : (a + b - 1) / b = -(-a / b) := by
  have h1 := Int.mul_ediv_add_emod (-a) b
  have hr0 := Int.emod_nonneg (-a) (show b ≠ 0 by omega)
  have hr1 := Int.emod_lt_of_pos (-a) (show 0 < b by omega)
  have e : a + b - 1 = (b - 1 - (-a) % b) + b * (-(-a / b)) := by
    have : b * (-(-a / b)) = -(b * (-a / b)) := by rw [Int.mul_neg]
    omega
  rw [e, Int.add_mul_ediv_left _ _ (by omega), Int.ediv_eq_zero_of_lt (by omega) (by omega)]
  omega
theorem l1Ceil_eq (a b : Int) (hb : 1 ≤ b) (h0 : 0 ≤ a) (h1 : a ≤ 4611686018427387904) (hb1 : b ≤ 4611686018427387903) : spec_l1Ceil.f a b = some (-(-a / b)) := by
  unfold spec_l1Ceil.f
  rw [if_neg (by omega), w64 (n := a + b) (by omega) (by omega), w64 (n := a + b - 1) (by omega) (by omega), Int.tdiv_eq_ediv_of_nonneg (by omega), ceil_alt a b hb]
  have hq : -a / b ≤ 0 := by have := Int.ediv_le_ediv (show 0 < b by omega) (show -a ≤ 0 by omega); simpa using this
  have h4 : -a ≤ -a / b := Int.le_ediv_of_mul_le (by omega) (by
        have : -a * b ≤ -a * 1 := Int.mul_le_mul_of_nonpos_left (by omega) (by omega)
        omega)
  rw [w64 (by omega) (by omega)]
theorem l1Floor_eq (a b : Int) (hb : 1 ≤ b) (h0 : -4611686018427387904 ≤ a) (h1 : a ≤ 4611686018427387904) (hb1 : b ≤ 4611686018427387903) : spec_l1Floor.f a b = some (a / b) := by
  unfold spec_l1Floor.f
  by_cases ha : a < 0
  · rw [if_pos ha, w64 (n := -a) (by omega) (by omega), l1Ceil_eq (-a) b hb (by omega) (by omega) hb1]
    simp only [Option.bind_some, Int.neg_neg]
    have h3 : a / b < 0 := Int.ediv_neg_of_neg_of_pos ha (by omega)
    have h4 : a ≤ a / b := Int.le_ediv_of_mul_le (by omega) (by
        have : a * b ≤ a * 1 := Int.mul_le_mul_of_nonpos_left (by omega) (by omega)
        omega)
    rw [w64 (by omega) (by omega)]
  · rw [if_neg ha, if_neg (by omega), Int.tdiv_eq_ediv_of_nonneg (by omega)]
    have h3 := Int.ediv_nonneg (show 0 ≤ a by omega) (show 0 ≤ b by omega)
    have h4 := Int.ediv_le_self b (show 0 ≤ a by omega)
    rw [w64 (by omega) (by omega)]
theorem l10Split_eq (q k : Int) (t : Bool) (h0 : -100000 ≤ q) (h1 : q ≤ 100000) (K : Nat) (hK : 1 ≤ K) : spec_l10Split.f K q k t = some (spl q k t) := by
  obtain ⟨K, rfl⟩ : ∃ m, K = m + 1 := ⟨K - 1, by omega⟩
  unfold spec_l10Split.f spl
  by_cases c1 : k = 1
  · rw [if_pos c1, w64 (n := q + 1) (by omega) (by omega), l1Floor_eq (q + 1) 2 (by omega) (by omega) (by omega) (by omega), l1Floor_eq q 2 (by omega) (by omega) (by omega) (by omega)]
    cases t <;> simp [c1]
  · rw [if_neg c1]
    by_cases c2 : k = 2
    · rw [if_pos c2, l1Floor_eq q 3 (by omega) (by omega) (by omega) (by omega)]
      simp only [Option.bind_some]
      rw [w64 (n := 3 * (q / 3)) (by omega) (by omega), w64 (n := 3 * (q / 3) + 1) (by omega) (by omega), w64 (n := q / 3 + 1) (by omega) (by omega)]
      simp only [spec_l10Split.j0]
      rw [w64 (n := 3 * (q / 3)) (by omega) (by omega), w64 (n := 3 * (q / 3) + 2) (by omega) (by omega), w64 (n := q / 3 + 1) (by omega) (by omega)]
      by_cases c3 : q % 3 = 1
      · rw [if_pos (show q = 3 * (q / 3) + 1 by omega), if_neg (show ¬ q = 3 * (q / 3) + 2 by omega)]
        cases t <;> simp [c1, c2, c3]
      · rw [if_neg (show ¬ q = 3 * (q / 3) + 1 by omega)]
        by_cases c4 : q % 3 = 2
        · rw [if_pos (show q = 3 * (q / 3) + 2 by omega)]
          cases t <;> simp [c1, c2, c3, c4]
        · rw [if_neg (show ¬ q = 3 * (q / 3) + 2 by omega)]
          cases t <;> simp [c1, c2, c3, c4]
    · cases t <;> simp [c1, c2]
theorem l1In_eq (a b c : Int) : spec_l1In.f a b c = some (decide (b ≤ a ∧ a ≤ c)) := by
  unfold spec_l1In.f
  by_cases h : a ≥ b
  · rw [if_pos h]; congr 1; have : b ≤ a := h; simp [this]
  · rw [if_neg h]; have : ¬ b ≤ a := h; simp [this]
theorem l10Index_eq (a : Int) : spec_l10Index.f a = some (decide (-30000 ≤ a ∧ a ≤ 30000)) := by unfold spec_l10Index.f; rw [l1In_eq]; rfl
/-- All indices out of a run of numbers that have a number on a side. -/
def cellP (side v k : Int) (t : Bool) (q : Int) : Bool := decide (-30000 ≤ q ∧ q ≤ 30000) && (decide (side = 0 ∧ (spl q k t).1 = v) || decide (side = 1 ∧ (spl q k t).2 = v))
theorem l10Cell_l0 (side v k : Int) (t : Bool) (hk : 0 ≤ k ∧ k ≤ 2) (hv : -30000 ≤ v ∧ v ≤ 30000) (hi : Int) (hhi : hi = (k + 1) * v + 3) :
    ∀ (n : Nat) (x : Int) (acc : List Int) (K : Nat), hi + 1 - x = n → -100000 ≤ x → n + 1 < K → acc.length + n ≤ 1000 →
    spec_l10Cell.l0 K side v k t acc x = some (acc ++ (iv n x).filter (cellP side v k t)) := by
  have hk' : k = 0 ∨ k = 1 ∨ k = 2 := by omega
  have ew : wrap64 (wrap64 (wrap64 (k + 1) * v) + 3) = hi := by
    subst hhi
    rcases hk' with rfl | rfl | rfl <;> simp only [wrap64] <;> omega
  have hhb : -100000 ≤ hi ∧ hi ≤ 99999 := by subst hhi; rcases hk' with rfl | rfl | rfl <;> omega
  intro n
  induction n with
  | zero =>
    intro x acc K hn hx hK ha
    obtain ⟨K, rfl⟩ : ∃ m, K = m + 1 := ⟨K - 1, by omega⟩
    simp only [spec_l10Cell.l0]
    rw [ew, if_neg (by omega)]; simp [iv]
  | succ n ih =>
    intro x acc K hn hx hK ha
    obtain ⟨K, rfl⟩ : ∃ m, K = m + 1 := ⟨K - 1, by omega⟩
    simp only [spec_l10Cell.l0]
    rw [ew, if_pos (by omega), l10Split_eq x k t (by omega) (by omega) K (by omega), l10Index_eq]
    simp only [Option.bind_some, decide_eq_true_eq]
    have hlim : acc.length < 17592186044416 := by omega
    have go1 := ih (x + 1) acc K (by omega) (by omega) (by omega) (by omega)
    have go2 := ih (x + 1) (acc ++ [x]) K (by omega) (by omega) (by omega) (by simp; omega)
    simp only [w64 (n := x + 1) (by omega) (by omega), if_pos hlim, go1, go2, iv, List.filter_cons, cellP]
    by_cases c1 : -30000 ≤ x ∧ x ≤ 30000
    · by_cases c2 : side = 0
      · by_cases c3 : (spl x k t).1 = v
        · simp [c1, c2, c3]
        · simp [c1, c2, c3]
      · by_cases c3 : side = 1
        · by_cases c4 : (spl x k t).2 = v
          · simp [c1, c3, c4]
          · simp [c1, c3, c4]
        · simp [c1, c2, c3]
    · simp [c1]
theorem l10Cell_eq (side v k : Int) (t : Bool) (hk : 0 ≤ k ∧ k ≤ 2) (hv : -30000 ≤ v ∧ v ≤ 30000) (K : Nat) (hK : 12 ≤ K) : spec_l10Cell.f K side v k t = some ((iv 7 ((k + 1) * v - 3)).filter (cellP side v k t)) := by
  have hk' : k = 0 ∨ k = 1 ∨ k = 2 := by omega
  have ew : wrap64 (wrap64 (wrap64 (k + 1) * v) - 3) = (k + 1) * v - 3 := by
    rcases hk' with rfl | rfl | rfl <;> simp only [wrap64] <;> omega
  have hlo : -100000 ≤ (k + 1) * v - 3 := by rcases hk' with rfl | rfl | rfl <;> omega
  unfold spec_l10Cell.f
  rw [ew, l10Cell_l0 side v k t hk hv _ rfl 7 _ [] K (by omega) hlo (by omega) (by simp)]
  simp
theorem l10Spread_eq (a : Int) : spec_l10Spread.f a = some (decide (0 ≤ a ∧ a ≤ 2)) := by unfold spec_l10Spread.f; rw [l1In_eq]; rfl
theorem rd_append_right (P Q : List Int) (i : Int) (h : i = (P.length : Int)) (x : Int) (R : List Int) (hQ : Q = x :: R) : rd (P ++ Q) i = x := by
  subst hQ; unfold rd; rw [h, Int.toNat_natCast, List.getD_eq_getElem?_getD, List.getElem?_append_right (Nat.le_refl _)]; simp
theorem rd_get (l : List Int) (i : Int) (h0 : 0 ≤ i) (h1 : i < (l.length : Int)) : rd l i = l[i.toNat]'(by omega) := by
  unfold rd; rw [List.getD_eq_getElem?_getD, List.getElem?_eq_getElem (by omega)]; rfl
theorem l10Join_l0 (b k : Int) (t : Bool) : ∀ (l pre : List Int) (i : Int) (K : Nat), (pre.length : Int) = i → (∀ x ∈ l, -100000 ≤ x ∧ x ≤ 100000) → pre.length + l.length ≤ 1000 → l.length + 1 < K →
    spec_l10Join.l0 K b k t (pre ++ l) i = some (match l.find? (fun q => decide ((spl q k t).2 = b)) with | some q => (q, true) | none => (0, false)) := by
  intro l
  induction l with
  | nil =>
    intro pre i K hi _ hlen hK
    obtain ⟨K, rfl⟩ : ∃ m, K = m + 1 := ⟨K - 1, by omega⟩
    simp only [spec_l10Join.l0]
    rw [if_neg (by simp; omega)]; rfl
  | cons x l ih =>
    intro pre i K hi hb hlen hK
    simp only [List.length_cons] at hlen hK
    obtain ⟨K, rfl⟩ : ∃ m, K = m + 1 := ⟨K - 1, by omega⟩
    have hx := hb x (by simp)
    simp only [spec_l10Join.l0]
    rw [if_pos (by simp; omega), if_pos (by omega), rd_append_right pre _ i hi.symm x l rfl, l10Split_eq x k t hx.1 hx.2 K (by omega), w64 (n := i + 1) (by omega) (by omega)]
    simp only [Option.bind_some, List.find?_cons]
    by_cases c : (spl x k t).2 = b
    · simp [c]
    · have e : pre ++ x :: l = (pre ++ [x]) ++ l := by simp
      rw [if_neg c, e, ih (pre ++ [x]) (i + 1) K (by simp; omega) (fun y hy => hb y (by simp [hy])) (by simp; omega) (by omega)]
      simp [c]
theorem find_filter_iv (a b k : Int) (t : Bool) (hk : 0 ≤ k ∧ k ≤ 2) : ∀ (n : Nat) (x : Int),
    ((iv n x).filter (cellP 0 a k t)).find? (fun q => decide ((spl q k t).2 = b)) = if ((-30000 ≤ joinq a b k t ∧ joinq a b k t ≤ 30000) ∧ spl (joinq a b k t) k t = (a, b)) ∧ x ≤ joinq a b k t ∧ joinq a b k t < x + n then some (joinq a b k t) else none := by
  intro n
  induction n with
  | zero => intro x; rw [if_neg (by omega)]; rfl
  | succ n ih =>
    intro x
    simp only [iv, List.filter_cons]
    by_cases hc : cellP 0 a k t x = true
    · rw [if_pos hc, List.find?_cons]
      have hc' : (-30000 ≤ x ∧ x ≤ 30000) ∧ (spl x k t).1 = a := by simpa [cellP] using hc
      by_cases h2 : (spl x k t).2 = b
      · have hq : spl x k t = (a, b) := Prod.ext hc'.2 h2
        have hj := (joinq_spl x a b k t hk hq).1
        simp only [h2, decide_true]
        rw [← hj, if_pos ⟨⟨hc'.1, hq⟩, by omega⟩]
      · simp only [h2, decide_false]
        rw [ih (x + 1)]
        by_cases c : ((-30000 ≤ joinq a b k t ∧ joinq a b k t ≤ 30000) ∧ spl (joinq a b k t) k t = (a, b))
        · have : x ≠ joinq a b k t := fun e => h2 (by rw [e, c.2])
          by_cases c2 : x ≤ joinq a b k t ∧ joinq a b k t < x + (n + 1 : Nat)
          · rw [if_pos ⟨c, by omega, by omega⟩, if_pos ⟨c, c2⟩]
          · rw [if_neg (fun h => c2 ⟨by omega, by omega⟩), if_neg (fun h => c2 h.2)]
        · rw [if_neg (fun h => c h.1), if_neg (fun h => c h.1)]
    · rw [if_neg hc, ih (x + 1)]
      by_cases c : ((-30000 ≤ joinq a b k t ∧ joinq a b k t ≤ 30000) ∧ spl (joinq a b k t) k t = (a, b))
      · have : x ≠ joinq a b k t := fun e => hc (by rw [e]; simp [cellP, c.1, c.2])
        by_cases c2 : x ≤ joinq a b k t ∧ joinq a b k t < x + (n + 1 : Nat)
        · rw [if_pos ⟨c, by omega, by omega⟩, if_pos ⟨c, c2⟩]
        · rw [if_neg (fun h => c2 ⟨by omega, by omega⟩), if_neg (fun h => c2 h.2)]
      · rw [if_neg (fun h => c h.1), if_neg (fun h => c h.1)]
theorem mem_iv : ∀ (n : Nat) (x y : Int), y ∈ iv n x → x ≤ y ∧ y < x + n
  | 0, _, _, h => by simp [iv] at h
  | n + 1, x, y, h => by
    simp only [iv, List.mem_cons] at h
    rcases h with rfl | h
    · omega
    · have := mem_iv n (x + 1) y h; omega
theorem l10Join_eq (a b k : Int) (t : Bool) (hk : 0 ≤ k ∧ k ≤ 2) (ha : -30000 ≤ a ∧ a ≤ 30000) (K : Nat) (hK : 16 ≤ K) :
    spec_l10Join.f K a b k t = some (if (-30000 ≤ joinq a b k t ∧ joinq a b k t ≤ 30000) ∧ spl (joinq a b k t) k t = (a, b) then (joinq a b k t, true) else (0, false)) := by
  have hk' : k = 0 ∨ k = 1 ∨ k = 2 := by omega
  have hlo : -90003 ≤ (k + 1) * a - 3 ∧ (k + 1) * a - 3 ≤ 89997 := by rcases hk' with rfl | rfl | rfl <;> omega
  unfold spec_l10Join.f
  rw [l10Cell_eq 0 a k t hk ha K (by omega)]
  simp only [Option.bind_some]
  have hl : ((iv 7 ((k + 1) * a - 3)).filter (cellP 0 a k t)).length ≤ 7 := Nat.le_trans (List.length_filter_le _ _) (by simp [iv_length])
  have := l10Join_l0 b k t ((iv 7 ((k + 1) * a - 3)).filter (cellP 0 a k t)) [] 0 K rfl (fun x hx => by have := mem_iv _ _ _ (List.mem_filter.1 hx).1; omega) (by simp; omega) (by omega)
  rw [List.nil_append] at this
  rw [this, find_filter_iv a b k t hk]
  by_cases c : (-30000 ≤ joinq a b k t ∧ joinq a b k t ≤ 30000) ∧ spl (joinq a b k t) k t = (a, b)
  · have := joinq_spl _ a b k t hk c.2
    rw [if_pos c, if_pos ⟨c, by omega, by omega⟩]
  · rw [if_neg c, if_neg (fun h => c h.1)]
theorem specJoinIndex_eq (a b k : Int) (t : Bool) (K : Nat) (hK : 20 ≤ K) : spec_JoinIndex.f K a b k t = some (joinR a b k t) := by
  obtain ⟨K, rfl⟩ : ∃ m, K = m + 1 := ⟨K - 1, by omega⟩
  unfold spec_JoinIndex.f joinR
  simp only [l10Spread_eq, l10Index_eq, Option.bind_some, decide_eq_true_eq]
  by_cases h1 : 0 ≤ k ∧ k ≤ 2
  · by_cases h2 : -30000 ≤ a ∧ a ≤ 30000
    · by_cases h3 : -30000 ≤ b ∧ b ≤ 30000
      · rw [if_pos h1, if_pos h2, if_pos ⟨h1, h2, h3⟩]
        simp only [h3, and_self, decide_true, Bool.not_true, spec_JoinIndex.j0]
        rw [if_neg (by simp), l10Join_eq a b k t h1 h2 K (by omega)]
        simp only [Option.bind_some]
        split <;> simp
      · rw [if_pos h1, if_pos h2, if_neg (fun h => h3 h.2.2)]
        simp only [h3, decide_false, Bool.not_false, spec_JoinIndex.j0, if_true]
    · rw [if_pos h1, if_neg h2, if_neg (fun h => h2 h.2.1)]; simp only [spec_JoinIndex.j0, if_true]
  · rw [if_neg h1, if_neg (fun h => h1 h.1)]; simp only [spec_JoinIndex.j0, if_true]
theorem eqIntResult_self (a b : Int) : laws_eqIntResult.f a b a b = some true := by simp [laws_eqIntResult.f]
theorem FnExactJoinIndex : laws_FnExactJoinIndex.Pure := by
  intro a b k t _ _ _
  refine ⟨20, ?_⟩
  unfold laws_FnExactJoinIndex.f
  rw [JoinIndex_eq a b k t 20 (by omega), specJoinIndex_eq a b k t 20 (by omega)]
  simp only [Option.bind_some]
  rw [eqIntResult_self]; rfl

end Go.Proofs.Ytfjljllkofcmbaa.Pure
