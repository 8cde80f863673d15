/- The program's CellOf returns what the reference's returns, for all arguments. -/
import Derived.Test.YtoepnammegcjeaaPFnExactCellOfx3
set_option linter.unusedVariables false
set_option linter.unusedSimpArgs false
namespace Go.Proofs.Ytoepnammegcjeaa.Pure
open Go.RowKit Go.Proofs.Ytoepnammegcjeaa.PFnExactCellOf Go.Proofs.YtoepnammegcjeaaW.PrintWords Go.Proofs.YtoepnammegcjeaaW.PrintLast

theorem inRange_eq (a b c : Int) : impl_inRange.f a b c = some (decide (b ≤ a ∧ a ≤ c)) := by
  unfold impl_inRange.f
  by_cases h : b ≤ a
  · rw [if_pos h]; simp [h]
  · rw [if_neg h]; simp [h]
theorem isSide_eq (a : Int) : impl_isSide.f a = some (decide (0 ≤ a ∧ a ≤ 1)) := by unfold impl_isSide.f; rw [inRange_eq]; rfl
theorem isSpread_eq (a : Int) : impl_isSpread.f a = some (decide (0 ≤ a ∧ a ≤ 2)) := by unfold impl_isSpread.f; rw [inRange_eq]; rfl
theorem w64 {n : Int} (h1 : -9223372036854775808 ≤ n) (h2 : n ≤ 9223372036854775807) : wrap64 n = n := by unfold wrap64; omega
theorem within_eq (a b : Int) (h0 : 0 ≤ b) (h1 : b ≤ 9223372036854775807) : impl_within.f a b = some (decide (-b ≤ a ∧ a ≤ b)) := by
  unfold impl_within.f; rw [w64 (by omega) (by omega), inRange_eq]; rfl
theorem isIndexOf_eq (a : Int) : impl_isIndexOf.f a = some (decide (-30000 ≤ a ∧ a ≤ 30000)) := by unfold impl_isIndexOf.f; rw [within_eq _ _ (by decide) (by decide)]; rfl
theorem codeIf_eq (b : Bool) (c : Int) : impl_codeIf.f b c = some (if b = true then c else 0) := by unfold impl_codeIf.f; split <;> rfl
/-- The two numbers of an index, rounded down. -/
def spl (q k : Int) (t : Bool) : Int × Int :=
  let p : Int × Int := if k = 1 then ((q + 1) / 2, q / 2) else if k = 2 then (if q % 3 = 1 then (q / 3, q / 3 + 1) else if q % 3 = 2 then (q / 3 + 1, q / 3) else (q / 3, q / 3)) else (q, q)
  if t = true then (p.2, p.1) else p
theorem spl_bound (q k : Int) (t : Bool) (h0 : -100000 ≤ q) (h1 : q ≤ 100000) : -100001 ≤ (spl q k t).1 ∧ (spl q k t).1 ≤ 100001 ∧ -100001 ≤ (spl q k t).2 ∧ (spl q k t).2 ≤ 100001 := by
  unfold spl
  by_cases c1 : k = 1
  · cases t <;> simp only [c1, if_true, Bool.false_eq_true, if_false] <;> omega
  · by_cases c2 : k = 2
    · by_cases c3 : q % 3 = 1
      · cases t <;> simp [c1, c2, c3] <;> omega
      · by_cases c4 : q % 3 = 2
        · cases t <;> simp [c1, c2, c3, c4] <;> omega
        · cases t <;> simp [c1, c2, c3, c4] <;> omega
    · cases t <;> simp [c1, c2] <;> omega
theorem floorDiv_eq (a b : Int) (hb : 1 ≤ b) (h0 : -9223372036854775807 ≤ a) (h1 : a ≤ 9223372036854775807) (hb1 : b ≤ 9223372036854775807) : impl_floorDiv.f a b = some (a / b) := by
  unfold impl_floorDiv.f
  rw [if_neg (by omega)]
  have hq : -9223372036854775807 ≤ a / b ∧ a / b ≤ 9223372036854775807 := by
    have hm := Int.mul_ediv_add_emod a b
    have hr0 := Int.emod_nonneg a (show b ≠ 0 by omega)
    have hr1 := Int.emod_lt_of_pos a (show 0 < b by omega)
    rcases Int.lt_or_le a 0 with hneg | hpos
    · have h3 : a / b < 0 := Int.ediv_neg_of_neg_of_pos hneg (by omega)
      have h4 : a ≤ a / b := Int.le_ediv_of_mul_le (by omega) (by
        have : a * b ≤ a * 1 := Int.mul_le_mul_of_nonpos_left (by omega) (by omega)
        omega)
      omega
    · have h3 := Int.ediv_nonneg hpos (show 0 ≤ b by omega)
      have h4 := Int.ediv_le_self b hpos
      omega
  have hqr := Int.mul_tdiv_add_tmod a b
  have hm := Int.mul_ediv_add_emod a b
  have hr0 := Int.emod_nonneg a (show b ≠ 0 by omega)
  have hr1 := Int.emod_lt_of_pos a (show 0 < b by omega)
  rw [Int.tmod_eq_emod, Int.tdiv_eq_ediv]
  by_cases hc : 0 ≤ a ∨ b ∣ a
  · rw [if_pos hc, if_pos hc]
    simp only [Int.sub_zero, Int.add_zero]
    rw [if_neg (by have := hr0; omega)]
    rw [w64 (by omega) (by omega)]
  · rw [if_neg hc, if_neg hc]
    have hs : b.sign = 1 := Int.sign_eq_one_of_pos (by omega)
    have hbn : (b.natAbs : Int) = b := by omega
    rw [hs]
    rw [if_pos (by omega)]
    have : wrap64 (a / b + 1) = a / b + 1 := w64 (by omega) (by
      rcases Int.lt_or_le a 0 with hneg | hpos
      · have h3 : a / b < 0 := Int.ediv_neg_of_neg_of_pos hneg (by omega)
        omega
      · exact absurd (Or.inl hpos) hc)
    rw [this, w64 (by omega) (by omega)]
    congr 1; omega
theorem splitIndex_eq (q k : Int) (t : Bool) (h0 : -100000 ≤ q) (h1 : q ≤ 100000) : impl_splitIndex.f q k t = some (spl q k t) := by
  unfold impl_splitIndex.f spl
  by_cases c1 : k = 1
  · rw [if_pos c1, w64 (n := q + 1) (by omega) (by omega), floorDiv_eq (q + 1) 2 (by omega) (by omega) (by omega) (by omega), floorDiv_eq q 2 (by omega) (by omega) (by omega) (by omega)]
    cases t <;> simp [c1]
  · rw [if_neg c1]
    by_cases c2 : k = 2
    · rw [if_pos c2, floorDiv_eq q 3 (by omega) (by omega) (by omega) (by omega)]
      simp only [Option.bind_some]
      rw [w64 (n := 3 * (q / 3)) (by omega) (by omega), w64 (n := q - 3 * (q / 3)) (by omega) (by omega), w64 (n := q / 3 + 1) (by omega) (by omega)]
      have e : q - 3 * (q / 3) = q % 3 := by omega
      rw [e]
      by_cases c3 : q % 3 = 1
      · cases t <;> simp [c1, c2, c3]
      · by_cases c4 : q % 3 = 2
        · cases t <;> simp [c1, c2, c3, c4]
        · cases t <;> simp [c1, c2, c3, c4]
    · cases t <;> simp [c1, c2]
/-- The only index that two numbers can have. -/
def joinq (a b k : Int) (t : Bool) : Int := if k = 0 then a else if k = 1 then a + b else if t = true then (if a = b then 3 * a else if a < b then 3 * a + 2 else 3 * b + 1) else (if a = b then 3 * a else if a < b then 3 * a + 1 else 3 * b + 2)
theorem joinq_spl (q a b k : Int) (t : Bool) (hk : 0 ≤ k ∧ k ≤ 2) (h : spl q k t = (a, b)) : q = joinq a b k t ∧ (k + 1) * (if b < a then b else a) ≤ q ∧ q ≤ (k + 1) * (if b < a then b else a) + k + 1 ∧ (k + 1) * a - 3 ≤ q ∧ q ≤ (k + 1) * a + 3 ∧ (k + 1) * a - 2 ≤ q ∧ q ≤ (k + 1) * a + 2 ∧ (k + 1) * b - 2 ≤ q ∧ q ≤ (k + 1) * b + 2 := by
  have hk' : k = 0 ∨ k = 1 ∨ k = 2 := by omega
  unfold spl at h
  unfold joinq
  rcases hk' with rfl | rfl | rfl
  · cases t <;> simp at h <;> obtain ⟨rfl, rfl⟩ := h <;> simp <;> omega
  · cases t <;> simp at h <;> obtain ⟨h1, h2⟩ := h <;> simp <;> split <;> omega
  · by_cases c3 : q % 3 = 1
    · cases t <;> simp [c3] at h <;> obtain ⟨h1, h2⟩ := h <;> simp <;> (repeat' split) <;> omega
    · by_cases c4 : q % 3 = 2
      · cases t <;> simp [c4] at h <;> obtain ⟨h1, h2⟩ := h <;> simp <;> (repeat' split) <;> omega
      · cases t <;> simp [c3, c4] at h <;> obtain ⟨h1, h2⟩ := h <;> simp <;> (repeat' split) <;> omega
/-- So many numbers from x on. -/
def iv : Nat → Int → List Int
  | 0, _ => []
  | n + 1, x => x :: iv n (x + 1)
theorem iv_length : ∀ (n : Nat) (x : Int), (iv n x).length = n
  | 0, _ => rfl
  | n + 1, x => by simp [iv, iv_length n]
theorem ceil_alt (a b : Int) (hb : 1 ≤ b) : (a + b - 1) / b = -(-a / b) := by
  have h1 := Int.mul_ediv_add_emod (-a) b
  have hr0 := Int.emod_nonneg (-a) (show b ≠ 0 by omega)
  have hr1 := Int.emod_lt_of_pos (-a) (show 0 < b by omega)
  have e : a + b - 1 = (b - 1 - (-a) % b) + b * (-(-a / b)) := by
    have : b * (-(-a / b)) = -(b * (-a / b)) := by rw [Int.mul_neg]
    omega
  rw [e, Int.add_mul_ediv_left _ _ (by omega), Int.ediv_eq_zero_of_lt (by omega) (by omega)]
  omega
theorem l1Ceil_eq (a b : Int) (hb : 1 ≤ b) (h0 : 0 ≤ a) (h1 : a ≤ 4611686018427387904) (hb1 : b ≤ 4611686018427387903) : spec_l1Ceil.f a b = some (-(-a / b)) := by
  unfold spec_l1Ceil.f
  rw [if_neg (by omega), w64 (n := a + b) (by omega) (by omega), w64 (n := a + b - 1) (by omega) (by omega), Int.tdiv_eq_ediv_of_nonneg (by omega), ceil_alt a b hb]
  have hq : -a / b ≤ 0 := by have := Int.ediv_le_ediv (show 0 < b by omega) (show -a ≤ 0 by omega); simpa using this
  have h4 : -a ≤ -a / b := Int.le_ediv_of_mul_le (by omega) (by
        have : -a * b ≤ -a * 1 := Int.mul_le_mul_of_nonpos_left (by omega) (by omega)
        omega)
  rw [w64 (by omega) (by omega)]
theorem l1Floor_eq (a b : Int) (hb : 1 ≤ b) (h0 : -4611686018427387904 ≤ a) (h1 : a ≤ 4611686018427387904) (hb1 : b ≤ 4611686018427387903) : spec_l1Floor.f a b = some (a / b) := by
  unfold spec_l1Floor.f
  by_cases ha : a < 0
  · rw [if_pos ha, w64 (n := -a) (by omega) (by omega), l1Ceil_eq (-a) b hb (by omega) (by omega) hb1]
    simp only [Option.bind_some, Int.neg_neg]
    have h3 : a / b < 0 := Int.ediv_neg_of_neg_of_pos ha (by omega)
    have h4 : a ≤ a / b := Int.le_ediv_of_mul_le (by omega) (by
        have : a * b ≤ a * 1 := Int.mul_le_mul_of_nonpos_left (by omega) (by omega)
        omega)
    rw [w64 (by omega) (by omega)]
  · rw [if_neg ha, if_neg (by omega), Int.tdiv_eq_ediv_of_nonneg (by omega)]
    have h3 := Int.ediv_nonneg (show 0 ≤ a by omega) (show 0 ≤ b by omega)
    have h4 := Int.ediv_le_self b (show 0 ≤ a by omega)
    rw [w64 (by omega) (by omega)]
theorem l10Split_eq (q k : Int) (t : Bool) (h0 : -100000 ≤ q) (h1 : q ≤ 100000) (K : Nat) (hK : 1 ≤ K) : spec_l10Split.f K q k t = some (spl q k t) := by
  obtain ⟨K, rfl⟩ : ∃ m, K = m + 1 := ⟨K - 1, by omega⟩
  unfold spec_l10Split.f spl
  by_cases c1 : k = 1
  · rw [if_pos c1, w64 (n := q + 1) (by omega) (by omega), l1Floor_eq (q + 1) 2 (by omega) (by omega) (by omega) (by omega), l1Floor_eq q 2 (by omega) (by omega) (by omega) (by omega)]
    cases t <;> simp [c1]
  · rw [if_neg c1]
    by_cases c2 : k = 2
    · rw [if_pos c2, l1Floor_eq q 3 (by omega) (by omega) (by omega) (by omega)]
      simp only [Option.bind_some]
      rw [w64 (n := 3 * (q / 3)) (by omega) (by omega), w64 (n := 3 * (q / 3) + 1) (by omega) (by omega), w64 (n := q / 3 + 1) (by omega) (by omega)]
      simp only [spec_l10Split.j0]
      rw [w64 (n := 3 * (q / 3)) (by omega) (by omega), w64 (n := 3 * (q / 3) + 2) (by omega) (by omega), w64 (n := q / 3 + 1) (by omega) (by omega)]
      by_cases c3 : q % 3 = 1
      · rw [if_pos (show q = 3 * (q / 3) + 1 by omega), if_neg (show ¬ q = 3 * (q / 3) + 2 by omega)]
        cases t <;> simp [c1, c2, c3]
      · rw [if_neg (show ¬ q = 3 * (q / 3) + 1 by omega)]
        by_cases c4 : q % 3 = 2
        · rw [if_pos (show q = 3 * (q / 3) + 2 by omega)]
          cases t <;> simp [c1, c2, c3, c4]
        · rw [if_neg (show ¬ q = 3 * (q / 3) + 2 by omega)]
          cases t <;> simp [c1, c2, c3, c4]
    · cases t <;> simp [c1, c2]
theorem l1In_eq (a b c : Int) : spec_l1In.f a b c = some (decide (b ≤ a ∧ a ≤ c)) := by
  unfold spec_l1In.f
  by_cases h : a ≥ b
  · rw [if_pos h]; congr 1; have : b ≤ a := h; simp [this]
  · rw [if_neg h]; have : ¬ b ≤ a := h; simp [this]
theorem l10Index_eq (a : Int) : spec_l10Index.f a = some (decide (-30000 ≤ a ∧ a ≤ 30000)) := by unfold spec_l10Index.f; rw [l1In_eq]; rfl
/-- All indices out of a run of numbers that have a number on a side. -/
def cellP (side v k : Int) (t : Bool) (q : Int) : Bool := decide (-30000 ≤ q ∧ q ≤ 30000) && (decide (side = 0 ∧ (spl q k t).1 = v) || decide (side = 1 ∧ (spl q k t).2 = v))
theorem l10Cell_l0 (side v k : Int) (t : Bool) (hk : 0 ≤ k ∧ k ≤ 2) (hv : -30000 ≤ v ∧ v ≤ 30000) (hi : Int) (hhi : hi = (k + 1) * v + 3) :
    ∀ (n : Nat) (x : Int) (acc : List Int) (K : Nat), hi + 1 - x = n → -100000 ≤ x → n + 1 < K → acc.length + n ≤ 1000 →
    spec_l10Cell.l0 K side v k t acc x = some (acc ++ (iv n x).filter (cellP side v k t)) := by
  have hk' : k = 0 ∨ k = 1 ∨ k = 2 := by omega
  have ew : wrap64 (wrap64 (wrap64 (k + 1) * v) + 3) = hi := by
    subst hhi
    rcases hk' with rfl | rfl | rfl <;> simp only [wrap64] <;> omega
  have hhb : -100000 ≤ hi ∧ hi ≤ 99999 := by subst hhi; rcases hk' with rfl | rfl | rfl <;> omega
  intro n
  induction n with
  | zero =>
    intro x acc K hn hx hK ha
    obtain ⟨K, rfl⟩ : ∃ m, K = m + 1 := ⟨K - 1, by omega⟩
    simp only [spec_l10Cell.l0]
    rw [ew, if_neg (by omega)]; simp [iv]
  | succ n ih =>
    intro x acc K hn hx hK ha
    obtain ⟨K, rfl⟩ : ∃ m, K = m + 1 := ⟨K - 1, by omega⟩
    simp only [spec_l10Cell.l0]
    rw [ew, if_pos (by omega), l10Split_eq x k t (by omega) (by omega) K (by omega), l10Index_eq]
    simp only [Option.bind_some, decide_eq_true_eq]
    have hlim : acc.length < 17592186044416 := by omega
    have go1 := ih (x + 1) acc K (by omega) (by omega) (by omega) (by omega)
    have go2 := ih (x + 1) (acc ++ [x]) K (by omega) (by omega) (by omega) (by simp; omega)
    simp only [w64 (n := x + 1) (by omega) (by omega), if_pos hlim, go1, go2, iv, List.filter_cons, cellP]
    by_cases c1 : -30000 ≤ x ∧ x ≤ 30000
    · by_cases c2 : side = 0
      · by_cases c3 : (spl x k t).1 = v
        · simp [c1, c2, c3]
        · simp [c1, c2, c3]
      · by_cases c3 : side = 1
        · by_cases c4 : (spl x k t).2 = v
          · simp [c1, c3, c4]
          · simp [c1, c3, c4]
        · simp [c1, c2, c3]
    · simp [c1]
theorem l10Cell_eq (side v k : Int) (t : Bool) (hk : 0 ≤ k ∧ k ≤ 2) (hv : -30000 ≤ v ∧ v ≤ 30000) (K : Nat) (hK : 12 ≤ K) : spec_l10Cell.f K side v k t = some ((iv 7 ((k + 1) * v - 3)).filter (cellP side v k t)) := by
  have hk' : k = 0 ∨ k = 1 ∨ k = 2 := by omega
  have ew : wrap64 (wrap64 (wrap64 (k + 1) * v) - 3) = (k + 1) * v - 3 := by
    rcases hk' with rfl | rfl | rfl <;> simp only [wrap64] <;> omega
  have hlo : -100000 ≤ (k + 1) * v - 3 := by rcases hk' with rfl | rfl | rfl <;> omega
  unfold spec_l10Cell.f
  rw [ew, l10Cell_l0 side v k t hk hv _ rfl 7 _ [] K (by omega) hlo (by omega) (by simp)]
  simp
theorem cell_bounds (side v k : Int) (t : Bool) (hk : 0 ≤ k ∧ k ≤ 2) (q : Int) (h : cellP side v k t q = true) : (k + 1) * v - 2 ≤ q ∧ q ≤ (k + 1) * v + 2 := by
  unfold cellP at h
  simp only [Bool.and_eq_true, Bool.or_eq_true, decide_eq_true_eq] at h
  rcases h.2 with ⟨_, h1⟩ | ⟨_, h1⟩
  · have := joinq_spl q v (spl q k t).2 k t hk (Prod.ext h1 rfl); omega
  · have := joinq_spl q (spl q k t).1 v k t hk (Prod.ext rfl h1); omega
theorem cell_7_5 (side v k : Int) (t : Bool) (hk : 0 ≤ k ∧ k ≤ 2) : (iv 7 ((k + 1) * v - 3)).filter (cellP side v k t) = (iv 5 ((k + 1) * v - 2)).filter (cellP side v k t) := by
  have a := cell_bounds side v k t hk
  have e : iv 7 ((k + 1) * v - 3) = ((k + 1) * v - 3) :: (iv 5 ((k + 1) * v - 2) ++ [(k + 1) * v + 3]) := by
    simp only [iv, List.cons_append, List.nil_append]
    congr 1; congr 1; · omega
    congr 1; · omega
    congr 1; · omega
    congr 1; · omega
    congr 1; · omega
    congr 1; omega
  have n1 : ¬ cellP side v k t ((k + 1) * v - 3) = true := fun h => by have := a _ h; omega
  have n2 : ¬ cellP side v k t ((k + 1) * v + 3) = true := fun h => by have := a _ h; omega
  rw [e, List.filter_cons, if_neg n1, List.filter_append, List.filter_cons, if_neg n2]; simp
theorem sideFault_eq (a b c : Int) : impl_sideFault.f a b c = some (if (0 ≤ a ∧ a ≤ 1) ∧ (0 ≤ c ∧ c ≤ 2) ∧ (-30000 ≤ b ∧ b ≤ 30000) then 0 else 3) := by
  unfold impl_sideFault.f
  simp only [isSide_eq, isSpread_eq, isIndexOf_eq, codeIf_eq, Option.bind_some, decide_eq_true_eq]
  by_cases h1 : 0 ≤ a ∧ a ≤ 1 <;> by_cases h2 : 0 ≤ c ∧ c ≤ 2 <;> by_cases h3 : -30000 ≤ b ∧ b ≤ 30000 <;> simp [h1, h2, h3]
/-- What CellOf answers. -/
def cellR (side v k : Int) (t : Bool) : Int × List Int := if (0 ≤ side ∧ side ≤ 1) ∧ (0 ≤ k ∧ k ≤ 2) ∧ (-30000 ≤ v ∧ v ≤ 30000) then (0, (iv 5 ((k + 1) * v - 2)).filter (cellP side v k t)) else (3, [])
theorem cellR_length (side v k : Int) (t : Bool) : (cellR side v k t).2.length ≤ 5 := by
  unfold cellR; split
  · exact Nat.le_trans (List.length_filter_le _ _) (by simp [iv_length])
  · simp
theorem CellOf_l0 (side v k : Int) (t : Bool) (hk : 0 ≤ k ∧ k ≤ 2) (hv : -30000 ≤ v ∧ v ≤ 30000) (hi : Int) (hhi : hi = (k + 1) * v + 2) :
    ∀ (n : Nat) (x : Int) (acc : List Int) (K : Nat), hi + 1 - x = n → -100000 ≤ x → n + 1 < K → acc.length + n ≤ 1000 →
    impl_CellOf.l0 K side v k t acc x = some (0, acc ++ (iv n x).filter (cellP side v k t)) := by
  have hk' : k = 0 ∨ k = 1 ∨ k = 2 := by omega
  have ew : wrap64 (wrap64 (wrap64 (k + 1) * v) + 2) = hi := by
    subst hhi
    rcases hk' with rfl | rfl | rfl <;> simp only [wrap64] <;> omega
  have hhb : -100000 ≤ hi ∧ hi ≤ 99999 := by subst hhi; rcases hk' with rfl | rfl | rfl <;> omega
  intro n
  induction n with
  | zero =>
    intro x acc K hn hx hK ha
    obtain ⟨K, rfl⟩ : ∃ m, K = m + 1 := ⟨K - 1, by omega⟩
    simp only [impl_CellOf.l0]
    rw [ew, if_neg (by omega)]; simp [iv]
  | succ n ih =>
    intro x acc K hn hx hK ha
    obtain ⟨K, rfl⟩ : ∃ m, K = m + 1 := ⟨K - 1, by omega⟩
    simp only [impl_CellOf.l0]
    rw [ew, if_pos (by omega), splitIndex_eq x k t (by omega) (by omega), isIndexOf_eq]
    simp only [Option.bind_some, decide_eq_true_eq]
    have hlim : acc.length < 17592186044416 := by omega
    have go1 := ih (x + 1) acc K (by omega) (by omega) (by omega) (by omega)
    have go2 := ih (x + 1) (acc ++ [x]) K (by omega) (by omega) (by omega) (by simp; omega)
    simp only [w64 (n := x + 1) (by omega) (by omega), if_pos hlim, go1, go2, iv, List.filter_cons, cellP]
    by_cases c1 : -30000 ≤ x ∧ x ≤ 30000
    · by_cases c2 : side = 0
      · by_cases c3 : (spl x k t).1 = v
        · simp [c1, c2, c3]
        · simp [c1, c2, c3]
      · by_cases c3 : side = 1
        · by_cases c4 : (spl x k t).2 = v
          · simp [c1, c3, c4]
          · simp [c1, c3, c4]
        · simp [c1, c2, c3]
    · simp [c1]
theorem CellOf_eq (side v k : Int) (t : Bool) (K : Nat) (hK : 12 ≤ K) : impl_CellOf.f K side v k t = some (cellR side v k t) := by
  unfold impl_CellOf.f cellR
  rw [sideFault_eq]
  simp only [Option.bind_some]
  by_cases h : (0 ≤ side ∧ side ≤ 1) ∧ (0 ≤ k ∧ k ≤ 2) ∧ (-30000 ≤ v ∧ v ≤ 30000)
  · rw [if_pos h, if_pos rfl, if_pos h]
    have hk' : k = 0 ∨ k = 1 ∨ k = 2 := by omega
    have ew : wrap64 (wrap64 (wrap64 (k + 1) * v) - 2) = (k + 1) * v - 2 := by
      rcases hk' with rfl | rfl | rfl <;> simp only [wrap64] <;> omega
    have hlo : -100000 ≤ (k + 1) * v - 2 := by rcases hk' with rfl | rfl | rfl <;> omega
    rw [ew, CellOf_l0 side v k t h.2.1 h.2.2 _ rfl 5 _ [] K (by omega) hlo (by omega) (by simp)]
    simp
  · rw [if_neg h, if_neg (by decide), if_neg h]
theorem l10Spread_eq (a : Int) : spec_l10Spread.f a = some (decide (0 ≤ a ∧ a ≤ 2)) := by unfold spec_l10Spread.f; rw [l1In_eq]; rfl
theorem l10Side_eq (a b : Int) : spec_l10Side.f a b = some (decide ((0 ≤ a ∧ a ≤ 1) ∧ (0 ≤ b ∧ b ≤ 2))) := by
  unfold spec_l10Side.f; rw [l1In_eq, l10Spread_eq]; by_cases h : 0 ≤ a ∧ a ≤ 1 <;> simp [h]
theorem specCellOf_eq (side v k : Int) (t : Bool) (K : Nat) (hK : 12 ≤ K) : spec_CellOf.f K side v k t = some (cellR side v k t) := by
  unfold spec_CellOf.f cellR
  simp only [l10Side_eq, l10Index_eq, Option.bind_some, decide_eq_true_eq]
  by_cases h1 : (0 ≤ side ∧ side ≤ 1) ∧ (0 ≤ k ∧ k ≤ 2)
  · by_cases h2 : -30000 ≤ v ∧ v ≤ 30000
    · rw [if_pos h1, if_pos h2, if_pos ⟨h1.1, h1.2, h2⟩, l10Cell_eq side v k t h1.2 h2 K (by omega), cell_7_5 side v k t h1.2]; rfl
    · rw [if_pos h1, if_neg h2, if_neg (fun h => h2 h.2.2)]
  · rw [if_neg h1, if_neg (fun h => h1 ⟨h.1, h.2.1⟩)]
theorem eqInt64S_l0 (l : List Int) (hl : l.length ≤ 1000000000000) : ∀ (d k : Nat) (i : Int), (l.length : Int) - i = d → 0 ≤ i → d < k → laws_eqInt64S.l0 k l l i = some true := by
  intro d
  induction d with
  | zero =>
    intro k i hd h0 hk
    obtain ⟨k, rfl⟩ : ∃ m, k = m + 1 := ⟨k - 1, by omega⟩
    simp only [laws_eqInt64S.l0]; rw [if_neg (by omega)]
  | succ d ih =>
    intro k i hd h0 hk
    obtain ⟨k, rfl⟩ : ∃ m, k = m + 1 := ⟨k - 1, by omega⟩
    simp only [laws_eqInt64S.l0]
    rw [if_pos (by omega), if_pos h0, if_pos (by omega), if_pos True.intro, w64 (by omega) (by omega)]
    exact ih k (i + 1) (by omega) (by omega) (by omega)
theorem eqInt64S_self (l : List Int) (hl : l.length ≤ 1000000000000) (k : Nat) (hk : l.length < k) : laws_eqInt64S.f k l l = some true := by
  unfold laws_eqInt64S.f; rw [if_pos rfl]; exact eqInt64S_l0 l hl l.length k 0 (by omega) (by omega) hk
theorem markInt64S_l0 : ∀ (rest pre : List Int) (a i : Int) (k : Nat), (pre.length : Int) = i → rest.length < k → 0 ≤ a → a + rest.length ≤ 1000000000000 → i + rest.length ≤ 1000000000000 →
    laws_markInt64S.l0 k (pre ++ rest) a i = some (a + rest.length, pre ++ iv rest.length a) := by
  intro rest
  induction rest with
  | nil =>
    intro pre a i k hi hk h0 h1 h2
    obtain ⟨k, rfl⟩ : ∃ m, k = m + 1 := ⟨k - 1, by omega⟩
    simp only [laws_markInt64S.l0]
    rw [if_neg (by simp; omega)]; simp [iv]
  | cons x rest ih =>
    intro pre a i k hi hk h0 h1 h2
    obtain ⟨k, rfl⟩ : ∃ m, k = m + 1 := ⟨k - 1, by omega⟩
    simp only [List.length_cons] at hk h1 h2
    simp only [laws_markInt64S.l0]
    rw [if_pos (by simp; omega), if_pos (by omega), w64 (n := a + 1) (by omega) (by omega), w64 (n := i + 1) (by omega) (by omega)]
    have e : (pre ++ x :: rest).set i.toNat a = (pre ++ [a]) ++ rest := by
      have hn : i.toNat = pre.length := by omega
      rw [hn, List.set_append_right _ _ (Nat.le_refl _)]; simp
    rw [e, ih (pre ++ [a]) (a + 1) (i + 1) k (by simp; omega) (by omega) (by omega) (by omega) (by omega)]
    simp [iv]; omega
theorem markInt64S_eq (l : List Int) (a : Int) (k : Nat) (hk : l.length < k) (h0 : 0 ≤ a) (h1 : a + l.length ≤ 1000000000000) : laws_markInt64S.f k l a = some (a + l.length, iv l.length a) := by
  unfold laws_markInt64S.f
  have := markInt64S_l0 l [] a 0 k rfl hk h0 h1 (by omega)
  simpa using this
theorem rd_append_right (P Q : List Int) (i : Int) (h : i = (P.length : Int)) (x : Int) (R : List Int) (hQ : Q = x :: R) : rd (P ++ Q) i = x := by
  subst hQ; unfold rd; rw [h, Int.toNat_natCast, List.getD_eq_getElem?_getD, List.getElem?_append_right (Nat.le_refl _)]; simp
theorem rd_get (l : List Int) (i : Int) (h0 : 0 ≤ i) (h1 : i < (l.length : Int)) : rd l i = l[i.toNat]'(by omega) := by
  unfold rd; rw [List.getD_eq_getElem?_getD, List.getElem?_eq_getElem (by omega)]; rfl
theorem heldInt64S_l0 : ∀ (n : Nat) (pre : List Int) (a i : Int) (k : Nat), (pre.length : Int) = i → n < k → 0 ≤ a → a + n ≤ 1000000000000 → i + n ≤ 1000000000000 →
    laws_heldInt64S.l0 k (pre ++ iv n a) a i = some (a + n) := by
  intro n
  induction n with
  | zero =>
    intro pre a i k hi hk h0 h1 h2
    obtain ⟨k, rfl⟩ : ∃ m, k = m + 1 := ⟨k - 1, by omega⟩
    simp only [laws_heldInt64S.l0]
    rw [if_neg (by simp [iv]; omega)]; simp
  | succ n ih =>
    intro pre a i k hi hk h0 h1 h2
    obtain ⟨k, rfl⟩ : ∃ m, k = m + 1 := ⟨k - 1, by omega⟩
    simp only [laws_heldInt64S.l0]
    rw [if_pos (by simp [iv_length]; omega), if_pos (by omega), if_pos (rd_append_right pre (iv (n + 1) a) i hi.symm a (iv n (a + 1)) rfl), w64 (n := a + 1) (by omega) (by omega), w64 (n := i + 1) (by omega) (by omega)]
    have e : pre ++ iv (n + 1) a = (pre ++ [a]) ++ iv n (a + 1) := by simp [iv]
    rw [e, ih (pre ++ [a]) (a + 1) (i + 1) k (by simp; omega) (by omega) (by omega) (by omega) (by omega)]
    congr 1; omega
theorem heldInt64S_eq (n : Nat) (a : Int) (k : Nat) (hk : n < k) (h0 : 0 ≤ a) (h1 : a + n ≤ 1000000000000) : laws_heldInt64S.f k (iv n a) a = some (a + n) := by
  unfold laws_heldInt64S.f
  have := heldInt64S_l0 n [] a 0 k rfl hk h0 h1 (by omega)
  simpa using this
theorem eqIntsResult_self (c : Int) (l : List Int) (hl : l.length ≤ 1000000) (k : Nat) (hk : l.length < k) : laws_eqIntsResult.f k c l c l = some true := by
  unfold laws_eqIntsResult.f; rw [if_pos rfl, eqInt64S_self l (by omega) k hk]; rfl
theorem markIntsResult_eq (c : Int) (l : List Int) (a : Int) (k : Nat) (hk : l.length < k) (h0 : 0 ≤ a) (h1 : a + l.length ≤ 1000000000000) : laws_markIntsResult.f k c l a = some (a + l.length, iv l.length a) := by
  unfold laws_markIntsResult.f; rw [markInt64S_eq l a k hk h0 h1]; rfl
theorem heldIntsResult_eq (c : Int) (n : Nat) (a : Int) (k : Nat) (hk : n < k) (h0 : 0 ≤ a) (h1 : a + n ≤ 1000000000000) : laws_heldIntsResult.f k c (iv n a) a = some (a + n) := by
  unfold laws_heldIntsResult.f; rw [heldInt64S_eq n a k hk h0 h1]; simp only [Option.bind_some]; rw [if_neg (by omega)]
theorem FnExactCellOf : laws_FnExactCellOf.Pure := by
  intro a b c t _ _ _
  refine ⟨20, ?_⟩
  unfold laws_FnExactCellOf.f
  rw [CellOf_eq a b c t 20 (by omega), specCellOf_eq a b c t 20 (by omega)]
  have hl := cellR_length a b c t
  simp only [Option.bind_some, if_true]
  rw [eqIntsResult_self _ _ (by omega) 20 (by omega), markIntsResult_eq _ _ 1 20 (by omega) (by omega) (by omega)]
  simp only [Option.bind_some, if_true]
  rw [heldIntsResult_eq _ _ 1 20 (by omega) (by omega) (by omega)]
  simp only [Option.bind_some, if_true]
  rw [if_neg (by omega), if_neg (by omega)]

end Go.Proofs.Ytoepnammegcjeaa.Pure
