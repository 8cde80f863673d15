/- The program's PulsesFault returns what the reference's returns, for all arguments. -/
import Derived.Test.YtfjljllkofcmbaaPFnExactPulsesFaultx2
set_option linter.unusedVariables false
set_option linter.unusedSimpArgs false
namespace Go.Proofs.Ytfjljllkofcmbaa.Pure
open Go.RowKit Go.Proofs.Ytfjljllkofcmbaa.PFnExactPulsesFault Go.Proofs.YtfjljllkofcmbaaW.PrintWords Go.Proofs.YtfjljllkofcmbaaW.PrintLast

theorem inRange_eq (a b c : Int) : impl_inRange.f a b c = some (decide (b ≤ a ∧ a ≤ c)) := by
  unfold impl_inRange.f
  by_cases h : b ≤ a
  · rw [if_pos h]; simp [h]
  · rw [if_neg h]; simp [h]
theorem isDim_eq (a : Int) : impl_isDim.f a = some (decide (1 ≤ a ∧ a ≤ 4)) := by unfold impl_isDim.f; rw [inRange_eq]; rfl
theorem isPulses_eq (a : Int) : impl_isPulses.f a = some (decide (0 ≤ a ∧ a ≤ 8)) := by unfold impl_isPulses.f; rw [inRange_eq]; rfl
theorem codeIf_eq (b : Bool) (c : Int) : impl_codeIf.f b c = some (if b = true then c else 0) := by unfold impl_codeIf.f; split <;> rfl
theorem idxP_any (p : Int → Option Bool) (q : Int → Bool) : ∀ (l : List Int) (i : Int), 0 ≤ i → (∀ x ∈ l, p x = some (q x)) → ∃ r, idxP p l i = some r ∧ decide (0 ≤ r) = l.any q
  | [], i, _, _ => ⟨-1, rfl, by simp⟩
  | x :: l, i, hi, h => by
    obtain ⟨r, hr, hq⟩ := idxP_any p q l (i + 1) (by omega) (fun y hy => h y (by simp [hy]))
    simp only [idxP]
    rw [h x (by simp)]
    simp only [Option.bind_some]
    cases hx : q x with
    | true => exact ⟨i, by simp, by simp [hx, hi]⟩
    | false => exact ⟨r, by simp [hr], by simp [hx, hq]⟩
theorem anyP_eq (p : Int → Option Bool) (q : Int → Bool) (l : List Int) (h : ∀ x ∈ l, p x = some (q x)) : anyP p l = some (l.any q) := by
  obtain ⟨r, hr, hq⟩ := idxP_any p q l 0 (by omega) h
  unfold anyP; rw [hr]; simp only [Option.bind_some]; rw [hq]
/-- All of a list lie between two bounds. -/
def allW (l : List Int) (a b : Int) : Bool := l.all fun x => decide (a ≤ x ∧ x ≤ b)
theorem allW_cons (x : Int) (l : List Int) (a b : Int) : allW (x :: l) a b = (decide (a ≤ x ∧ x ≤ b) && allW l a b) := by simp [allW]
theorem allW_mem {l : List Int} {a b : Int} (h : allW l a b = true) {x : Int} (hx : x ∈ l) : a ≤ x ∧ x ≤ b := by
  unfold allW at h; rw [List.all_eq_true] at h; simpa using h x hx
theorem allW_mk {l : List Int} {a b : Int} (h : ∀ x ∈ l, a ≤ x ∧ x ≤ b) : allW l a b = true := by
  unfold allW; rw [List.all_eq_true]; intro x hx; simpa using h x hx
theorem w64 {n : Int} (h1 : -9223372036854775808 ≤ n) (h2 : n ≤ 9223372036854775807) : wrap64 n = n := by unfold wrap64; omega
theorem within_eq (a b : Int) (h0 : 0 ≤ b) (h1 : b ≤ 9223372036854775807) : impl_within.f a b = some (decide (-b ≤ a ∧ a ≤ b)) := by
  unfold impl_within.f; rw [w64 (by omega) (by omega), inRange_eq]; rfl
theorem allWithin_eq (l : List Int) (m : Int) (h0 : 0 ≤ m) (h1 : m ≤ 9223372036854775807) : impl_allWithin.f l m = some (allW l (-m) m) := by
  unfold impl_allWithin.f
  rw [anyP_eq (notWithinP m) (fun x => !decide (-m ≤ x ∧ x ≤ m)) l (fun x _ => by unfold notWithinP; rw [within_eq x m h0 h1]; rfl)]
  simp only [Option.bind_some]
  congr 1
  unfold allW
  rw [List.any_eq_not_all_not]; simp
/-- The sum of the absolute values. -/
def nrm : List Int → Nat
  | [] => 0
  | x :: l => x.natAbs + nrm l
theorem nrm_append : ∀ (a b : List Int), nrm (a ++ b) = nrm a + nrm b
  | [], b => by simp [nrm]
  | x :: a, b => by simp only [List.cons_append, nrm, nrm_append a b]; omega
theorem nrm_le (M : Nat) : ∀ (l : List Int), (∀ x ∈ l, x.natAbs ≤ M) → nrm l ≤ M * l.length
  | [], _ => by simp [nrm]
  | x :: l, h => by
    have h1 := nrm_le M l (fun y hy => h y (by simp [hy]))
    have h2 := h x (by simp)
    simp only [nrm, List.length_cons, Nat.mul_add, Nat.mul_one]; omega
theorem nrm_mem : ∀ {l : List Int} {x : Int}, x ∈ l → x.natAbs ≤ nrm l
  | y :: l, x, h => by
    simp only [nrm]
    rcases List.mem_cons.1 h with rfl | h
    · omega
    · have := nrm_mem h; omega
theorem allW_nrm {l : List Int} {M : Nat} (h : allW l (-(M : Int)) M = true) : nrm l ≤ M * l.length :=
  nrm_le M l (fun x hx => by have := allW_mem h hx; omega)
theorem abs_eq (x : Int) (h0 : -9223372036854775807 ≤ x) (h1 : x ≤ 9223372036854775807) : impl_abs.f x = some (x.natAbs : Int) := by
  unfold impl_abs.f mx; rw [w64 (by omega) (by omega)]; congr 1; split <;> omega
theorem rd_append_right (P Q : List Int) (i : Int) (h : i = (P.length : Int)) (x : Int) (R : List Int) (hQ : Q = x :: R) : rd (P ++ Q) i = x := by
  subst hQ; unfold rd; rw [h, Int.toNat_natCast, List.getD_eq_getElem?_getD, List.getElem?_append_right (Nat.le_refl _)]; simp
theorem rd_get (l : List Int) (i : Int) (h0 : 0 ≤ i) (h1 : i < (l.length : Int)) : rd l i = l[i.toNat]'(by omega) := by
  unfold rd; rw [List.getD_eq_getElem?_getD, List.getElem?_eq_getElem (by omega)]; rfl
theorem normOf_l0 (l : List Int) (hl : l.length ≤ 2000000) (hb : ∀ x ∈ l, x.natAbs ≤ 1099511627776) : ∀ (rest pre : List Int) (i s : Int) (k : Nat), l = pre ++ rest → (pre.length : Int) = i → rest.length < k → s = (nrm pre : Int) → impl_normOf.l0 k s l (l.length : Int) i = some (nrm l : Int) := by
  intro rest
  induction rest with
  | nil =>
    intro pre i s k h1 hi hk hs
    obtain ⟨k, rfl⟩ : ∃ m, k = m + 1 := ⟨k - 1, by omega⟩
    simp only [impl_normOf.l0]
    rw [if_neg (by rw [h1]; simp; omega), hs, h1]; simp
  | cons x rest ih =>
    intro pre i s k h1 hi hk hs
    obtain ⟨k, rfl⟩ : ∃ m, k = m + 1 := ⟨k - 1, by omega⟩
    simp only [List.length_cons] at hk
    have hlen : l.length = pre.length + (rest.length + 1) := by rw [h1]; simp
    have hx := hb x (by rw [h1]; simp)
    have hp := nrm_le 1099511627776 pre (fun y hy => hb y (by rw [h1]; simp [hy]))
    have hp2 : 1099511627776 * pre.length ≤ 1099511627776 * 2000000 := Nat.mul_le_mul_left _ (by omega)
    simp only [impl_normOf.l0]
    have hr : rd l i = x := by rw [h1]; exact rd_append_right pre (x :: rest) i hi.symm x rest rfl
    rw [if_pos (by omega), if_pos (by omega), if_pos (by omega), hr, abs_eq x (by omega) (by omega)]
    simp only [Option.bind_some]
    rw [w64 (n := s + _) (by omega) (by omega), w64 (n := i + 1) (by omega) (by omega)]
    exact ih (pre ++ [x]) (i + 1) _ k (by rw [h1]; simp) (by simp; omega) (by omega) (by rw [nrm_append]; simp only [nrm]; omega)
theorem normOf_eq (l : List Int) (hl : l.length ≤ 2000000) (hb : ∀ x ∈ l, x.natAbs ≤ 1099511627776) (k : Nat) (hk : l.length < k) : impl_normOf.f k l = some (nrm l : Int) := by
  unfold impl_normOf.f; exact normOf_l0 l hl hb l [] 0 0 k rfl rfl hk rfl
/-- The first code that is not 0. -/
def fst0 : List Int → Int
  | [] => 0
  | x :: l => if x = 0 then fst0 l else x
theorem first_l0 (l : List Int) (hl : l.length ≤ 2000000) : ∀ (rest pre : List Int) (i : Int) (k : Nat), l = pre ++ rest → (pre.length : Int) = i → rest.length < k → impl_first.l0 k l (l.length : Int) i = some (fst0 rest) := by
  intro rest
  induction rest with
  | nil =>
    intro pre i k h1 hi hk
    obtain ⟨k, rfl⟩ : ∃ m, k = m + 1 := ⟨k - 1, by omega⟩
    simp only [impl_first.l0]
    rw [if_neg (by rw [h1]; simp; omega)]; rfl
  | cons x rest ih =>
    intro pre i k h1 hi hk
    obtain ⟨k, rfl⟩ : ∃ m, k = m + 1 := ⟨k - 1, by omega⟩
    simp only [List.length_cons] at hk
    have hlen : l.length = pre.length + (rest.length + 1) := by rw [h1]; simp
    simp only [impl_first.l0]
    have hr : rd l i = x := by rw [h1]; exact rd_append_right pre (x :: rest) i hi.symm x rest rfl
    rw [if_pos (by omega), if_pos (by omega), if_pos (by omega), hr, w64 (n := i + 1) (by omega) (by omega)]
    simp only [fst0]
    by_cases c : x = 0
    · rw [if_pos c, if_pos c]; exact ih (pre ++ [x]) (i + 1) k (by rw [h1]; simp) (by simp; omega) (by omega)
    · rw [if_neg c, if_neg c]
theorem first_eq (l : List Int) (hl : l.length ≤ 1000) (k : Nat) (hk : l.length < k) : impl_first.f k l = some (fst0 l) := by
  unfold impl_first.f; exact first_l0 l (by omega) l [] 0 k rfl rfl hk
/-- The code of pulses. -/
def pfR (l : List Int) (k : Int) : Int := if ¬ (1 ≤ (l.length : Int) ∧ (l.length : Int) ≤ 4) then 2 else if ¬ (0 ≤ k ∧ k ≤ 8) then 3 else if allW l (-8) 8 = true ∧ (nrm l : Int) = k then 0 else 1
theorem allW8_nat {l : List Int} (h : allW l (-8) 8 = true) : ∀ x ∈ l, x.natAbs ≤ 1099511627776 := fun x hx => by have := allW_mem h hx; omega
theorem PulsesFault_eq (l : List Int) (a : Int) (hl : l.length ≤ 2000000) (k : Nat) (hk : l.length + 10 < k) : impl_PulsesFault.f k l a = some (pfR l a) := by
  unfold impl_PulsesFault.f
  simp only [isDim_eq, isPulses_eq, codeIf_eq, Option.bind_some]
  rw [allWithin_eq l 8 (by omega) (by omega)]
  simp only [Option.bind_some]
  unfold pfR
  by_cases hw : allW l (-8) 8 = true
  · rw [if_pos hw, normOf_eq l hl (allW8_nat hw) k (by omega)]
    simp only [Option.bind_some]
    rw [first_eq _ (by simp) k (by simp; omega)]
    by_cases h1 : 1 ≤ (l.length : Int) ∧ (l.length : Int) ≤ 4
    · by_cases h2 : 0 ≤ a ∧ a ≤ 8
      · by_cases h3 : (nrm l : Int) = a
        · simp [h1, h2, h3, hw, fst0]
        · simp [h1, h2, h3, hw, fst0]
      · simp [h1, h2, fst0]
    · simp [h1, fst0]
  · rw [if_neg hw]
    simp only [if_true, Option.bind_some]
    rw [first_eq _ (by simp) k (by simp; omega)]
    by_cases h1 : 1 ≤ (l.length : Int) ∧ (l.length : Int) ≤ 4
    · by_cases h2 : 0 ≤ a ∧ a ≤ 8
      · simp [h1, h2, hw, fst0]
      · simp [h1, h2, fst0]
    · simp [h1, fst0]
theorem l1In_eq (a b c : Int) : spec_l1In.f a b c = some (decide (b ≤ a ∧ a ≤ c)) := by
  unfold spec_l1In.f
  by_cases h : a ≥ b
  · rw [if_pos h]; congr 1; have : b ≤ a := h; simp [this]
  · rw [if_neg h]; have : ¬ b ≤ a := h; simp [this]
theorem l1All_l0 (a b : Int) : ∀ (rest pre : List Int) (i : Int) (k : Nat), (pre.length : Int) = i → rest.length < k → pre.length + rest.length ≤ 1000000000 → spec_l1All.l0 k (pre ++ rest) a b i = some (allW rest a b) := by
  intro rest
  induction rest with
  | nil =>
    intro pre i k hi hk hl
    obtain ⟨k, rfl⟩ : ∃ m, k = m + 1 := ⟨k - 1, by omega⟩
    simp only [spec_l1All.l0]
    rw [if_neg (by simp; omega)]; rfl
  | cons x rest ih =>
    intro pre i k hi hk hl
    obtain ⟨k, rfl⟩ : ∃ m, k = m + 1 := ⟨k - 1, by omega⟩
    simp only [List.length_cons] at hk hl
    simp only [spec_l1All.l0]
    rw [if_pos (by simp; omega), if_pos (by omega), rd_append_right pre (x :: rest) i hi.symm x rest rfl, l1In_eq, w64 (n := i + 1) (by omega) (by omega)]
    have e : pre ++ x :: rest = (pre ++ [x]) ++ rest := by simp
    rw [e, ih (pre ++ [x]) (i + 1) k (by simp; omega) (by omega) (by simp; omega), allW_cons]
    by_cases c : a ≤ x ∧ x ≤ b <;> simp [c]
theorem l1All_eq (l : List Int) (a b : Int) (k : Nat) (hk : l.length < k) (hl : l.length ≤ 1000000000) : spec_l1All.f k l a b = some (allW l a b) := by
  unfold spec_l1All.f; have := l1All_l0 a b l [] 0 k rfl hk (by simpa using hl); simpa using this
theorem l1Abs_eq (x : Int) (h0 : -9223372036854775807 ≤ x) (h1 : x ≤ 9223372036854775807) : spec_l1Abs.f x = some (x.natAbs : Int) := by
  unfold spec_l1Abs.f
  by_cases h : x < 0
  · rw [if_pos h, w64 (by omega) (by omega)]; congr 1; omega
  · rw [if_neg h]; congr 1; omega
theorem l1Norm_l0 (l : List Int) (hl : l.length ≤ 2000000) (hb : ∀ x ∈ l, x.natAbs ≤ 1099511627776) : ∀ (rest pre : List Int) (i s : Int) (k : Nat), l = pre ++ rest → (pre.length : Int) = i → rest.length < k → s = (nrm pre : Int) → spec_l1Norm.l0 k l s i = some (nrm l : Int) := by
  intro rest
  induction rest with
  | nil =>
    intro pre i s k h1 hi hk hs
    obtain ⟨k, rfl⟩ : ∃ m, k = m + 1 := ⟨k - 1, by omega⟩
    simp only [spec_l1Norm.l0]
    rw [if_neg (by rw [h1]; simp; omega), hs, h1]; simp
  | cons x rest ih =>
    intro pre i s k h1 hi hk hs
    obtain ⟨k, rfl⟩ : ∃ m, k = m + 1 := ⟨k - 1, by omega⟩
    simp only [List.length_cons] at hk
    have hlen : l.length = pre.length + (rest.length + 1) := by rw [h1]; simp
    have hx := hb x (by rw [h1]; simp)
    have hp := nrm_le 1099511627776 pre (fun y hy => hb y (by rw [h1]; simp [hy]))
    have hp2 : 1099511627776 * pre.length ≤ 1099511627776 * 2000000 := Nat.mul_le_mul_left _ (by omega)
    simp only [spec_l1Norm.l0]
    have hr : rd l i = x := by rw [h1]; exact rd_append_right pre (x :: rest) i hi.symm x rest rfl
    rw [if_pos (by omega), if_pos (by omega), hr, l1Abs_eq x (by omega) (by omega)]
    simp only [Option.bind_some]
    rw [w64 (n := s + _) (by omega) (by omega), w64 (n := i + 1) (by omega) (by omega)]
    exact ih (pre ++ [x]) (i + 1) _ k (by rw [h1]; simp) (by simp; omega) (by omega) (by rw [nrm_append]; simp only [nrm]; omega)
theorem l1Norm_eq (l : List Int) (hl : l.length ≤ 2000000) (hb : ∀ x ∈ l, x.natAbs ≤ 1099511627776) (k : Nat) (hk : l.length < k) : spec_l1Norm.f k l = some (nrm l : Int) := by
  unfold spec_l1Norm.f; exact l1Norm_l0 l hl hb l [] 0 0 k rfl rfl hk rfl
theorem allW_k {l : List Int} {k : Int} (hk : 0 ≤ k ∧ k ≤ 8) : (allW l (-k) k = true ∧ (nrm l : Int) = k) ↔ (allW l (-8) 8 = true ∧ (nrm l : Int) = k) := by
  constructor
  · rintro ⟨h1, h2⟩; exact ⟨allW_mk fun x hx => by have := allW_mem h1 hx; omega, h2⟩
  · rintro ⟨h1, h2⟩; exact ⟨allW_mk fun x hx => by have := nrm_mem hx; omega, h2⟩
theorem specPulsesFault_eq (l : List Int) (a : Int) (hl : l.length ≤ 2000000) (k : Nat) (hk : l.length + 10 < k) : spec_PulsesFault.f k l a = some (pfR l a) := by
  obtain ⟨k, rfl⟩ : ∃ m, k = m + 1 := ⟨k - 1, by omega⟩
  unfold spec_PulsesFault.f pfR
  by_cases h0 : (l.length : Int) < 1
  · rw [if_pos h0, if_pos (by omega)]; simp only [spec_PulsesFault.j0, if_true]
  · rw [if_neg h0]
    by_cases h1 : (l.length : Int) > 4
    · rw [decide_eq_true h1, if_pos (by omega)]; simp only [spec_PulsesFault.j0, if_true]
    · rw [decide_eq_false h1, if_neg (by omega)]
      simp only [spec_PulsesFault.j0]
      rw [if_neg (by simp), l1In_eq]
      simp only [Option.bind_some, decide_eq_true_eq]
      by_cases h2 : 0 ≤ a ∧ a ≤ 8
      · rw [if_pos h2, if_neg (by simp [h2]), w64 (n := -a) (by omega) (by omega), l1All_eq l (-a) a k (by omega) (by omega)]
        simp only [Option.bind_some]
        simp only [← allW_k h2]
        by_cases h3 : allW l (-a) a = true
        · have h4 : ∀ x ∈ l, x.natAbs ≤ 1099511627776 := fun x hx => by have := allW_mem h3 hx; omega
          rw [if_pos h3, l1Norm_eq l hl h4 k (by omega)]
          simp only [Option.bind_some]
          by_cases h5 : (nrm l : Int) = a
          · rw [if_pos h5, if_pos ⟨h3, h5⟩]
          · rw [if_neg h5, if_neg (fun h => h5 h.2)]
        · rw [if_neg h3, if_neg (fun h => h3 h.1)]
      · rw [if_neg h2, if_pos (by simpa using h2)]
theorem toInt64S_l0 (l : List Int) (hl : l.length ≤ 1000000000000) : ∀ (rest pre : List Int) (i : Int) (k : Nat) (z : List Int), l = pre ++ rest → (pre.length : Int) = i → rest.length < k → z.length = rest.length →
    laws_toInt64S.l0 k l (pre ++ z) i = some l := by
  intro rest
  induction rest with
  | nil =>
    intro pre i k z hl2 hi hk hz
    obtain ⟨k, rfl⟩ : ∃ m, k = m + 1 := ⟨k - 1, by omega⟩
    have : z = [] := List.eq_nil_of_length_eq_zero hz
    subst this
    simp only [laws_toInt64S.l0]
    rw [if_neg (by rw [hl2]; simp; omega), hl2]
  | cons x rest ih =>
    intro pre i k z hl2 hi hk hz
    obtain ⟨k, rfl⟩ : ∃ m, k = m + 1 := ⟨k - 1, by omega⟩
    obtain ⟨y, z, rfl⟩ : ∃ y z', z = y :: z' := by cases z with | nil => simp at hz | cons y z => exact ⟨y, z, rfl⟩
    simp only [List.length_cons] at hk hz
    have hlen : l.length = pre.length + (rest.length + 1) := by rw [hl2]; simp
    simp only [laws_toInt64S.l0]
    have hr : rd l i = x := by rw [hl2]; exact rd_append_right pre (x :: rest) i hi.symm x rest rfl
    rw [if_pos (by omega), if_pos (by omega), if_pos (by simp; omega), hr, w64 (n := i + 1) (by omega) (by omega)]
    have e : (pre ++ y :: z).set i.toNat x = (pre ++ [x]) ++ z := by
      have hn : i.toNat = pre.length := by omega
      rw [hn, List.set_append_right _ _ (Nat.le_refl _)]; simp
    rw [e]
    exact ih (pre ++ [x]) (i + 1) k z (by rw [hl2]; simp) (by simp; omega) (by omega) (by omega)
theorem toInt64S_eq (l : List Int) (hl : l.length ≤ 1000000000) (k : Nat) (hk : l.length < k) : laws_toInt64S.f k l = some l := by
  unfold laws_toInt64S.f
  rw [if_pos (by omega), if_pos (by omega)]
  have := toInt64S_l0 l (by omega) l [] 0 k (List.replicate ((l.length : Int)).toNat 0) rfl rfl hk (by simp)
  simpa using this
theorem eqInt64S_l0 (l : List Int) (hl : l.length ≤ 1000000000000) : ∀ (d k : Nat) (i : Int), (l.length : Int) - i = d → 0 ≤ i → d < k → laws_eqInt64S.l0 k l l i = some true := by
  intro d
  induction d with
  | zero =>
    intro k i hd h0 hk
    obtain ⟨k, rfl⟩ : ∃ m, k = m + 1 := ⟨k - 1, by omega⟩
    simp only [laws_eqInt64S.l0]; rw [if_neg (by omega)]
  | succ d ih =>
    intro k i hd h0 hk
    obtain ⟨k, rfl⟩ : ∃ m, k = m + 1 := ⟨k - 1, by omega⟩
    simp only [laws_eqInt64S.l0]
    rw [if_pos (by omega), if_pos h0, if_pos (by omega), if_pos True.intro, w64 (by omega) (by omega)]
    exact ih k (i + 1) (by omega) (by omega) (by omega)
theorem eqInt64S_self (l : List Int) (hl : l.length ≤ 1000000000000) (k : Nat) (hk : l.length < k) : laws_eqInt64S.f k l l = some true := by
  unfold laws_eqInt64S.f; rw [if_pos rfl]; exact eqInt64S_l0 l hl l.length k 0 (by omega) (by omega) hk
theorem FnExactPulsesFault : laws_FnExactPulsesFault.Pure := by
  intro l a _ _ _ _
  refine ⟨1100000, ?_⟩
  unfold laws_FnExactPulsesFault.f
  by_cases hbig : (l.length : Int) > 1048576
  · rw [if_pos hbig]
  rw [if_neg hbig, toInt64S_eq l (by omega) 1100000 (by omega)]
  simp only [Option.bind_some]
  rw [specPulsesFault_eq l a (by omega) 1100000 (by omega), PulsesFault_eq l a (by omega) 1100000 (by omega)]
  simp only [Option.bind_some, if_true]
  rw [eqInt64S_self l (by omega) 1100000 (by omega)]; rfl

end Go.Proofs.Ytfjljllkofcmbaa.Pure
