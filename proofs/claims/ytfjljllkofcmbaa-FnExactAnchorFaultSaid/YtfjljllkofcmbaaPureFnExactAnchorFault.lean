/- The program's AnchorFault returns what the reference's returns, for all arguments. -/
import Derived.Test.YtfjljllkofcmbaaPFnExactAnchorFaultx3
set_option linter.unusedVariables false
set_option linter.unusedSimpArgs false
namespace Go.Proofs.Ytfjljllkofcmbaa.Pure
open Go.RowKit Go.Proofs.Ytfjljllkofcmbaa.PFnExactAnchorFault Go.Proofs.YtfjljllkofcmbaaW.PrintWords Go.Proofs.YtfjljllkofcmbaaW.PrintLast

theorem w64 {n : Int} (h1 : -9223372036854775808 ≤ n) (h2 : n ≤ 9223372036854775807) : wrap64 n = n := by unfold wrap64; omega
theorem maxLen_eq : maxLen = 9223372036854775807 := rfl
theorem szInt64S_eq (l : List Int) (a : Int) (h0 : 0 ≤ a) (h1 : a ≤ 1048576) (hl : l.length ≤ maxLen) : laws_szInt64S.f l a = some (if a - (l.length : Int) < 0 then -1 else a - (l.length : Int)) := by
  rw [maxLen_eq] at hl
  unfold laws_szInt64S.f
  rw [w64 (n := a - (l.length : Int)) (by omega) (by omega)]
  split <;> rfl
theorem szAnchor_eq (x : Bool) (y z : Int) (l : List Int) (a : Int) (h0 : 0 ≤ a) (h1 : a ≤ 1048576) (hl : l.length ≤ maxLen) : laws_szAnchor.f x y z l a = some (if a - (l.length : Int) < 0 then -1 else a - (l.length : Int)) := by
  unfold laws_szAnchor.f
  rw [szInt64S_eq l a h0 h1 hl]; simp only [Option.bind_some]
  by_cases c : a - (l.length : Int) < 0
  · rw [if_pos c]; rfl
  · rw [if_neg c, if_neg c]
theorem rd_append_right (P Q : List Int) (i : Int) (h : i = (P.length : Int)) (x : Int) (R : List Int) (hQ : Q = x :: R) : rd (P ++ Q) i = x := by
  subst hQ; unfold rd; rw [h, Int.toNat_natCast, List.getD_eq_getElem?_getD, List.getElem?_append_right (Nat.le_refl _)]; simp
theorem rd_get (l : List Int) (i : Int) (h0 : 0 ≤ i) (h1 : i < (l.length : Int)) : rd l i = l[i.toNat]'(by omega) := by
  unfold rd; rw [List.getD_eq_getElem?_getD, List.getElem?_eq_getElem (by omega)]; rfl
theorem toInt64S_l0 (l : List Int) (hl : l.length ≤ 1000000000000) : ∀ (rest pre : List Int) (i : Int) (k : Nat) (z : List Int), l = pre ++ rest → (pre.length : Int) = i → rest.length < k → z.length = rest.length →
    laws_toInt64S.l0 k l (pre ++ z) i = some l := by
  intro rest
  induction rest with
  | nil =>
    intro pre i k z hl2 hi hk hz
    obtain ⟨k, rfl⟩ : ∃ m, k = m + 1 := ⟨k - 1, by omega⟩
    have : z = [] := List.eq_nil_of_length_eq_zero hz
    subst this
    simp only [laws_toInt64S.l0]
    rw [if_neg (by rw [hl2]; simp; omega), hl2]
  | cons x rest ih =>
    intro pre i k z hl2 hi hk hz
    obtain ⟨k, rfl⟩ : ∃ m, k = m + 1 := ⟨k - 1, by omega⟩
    obtain ⟨y, z, rfl⟩ : ∃ y z', z = y :: z' := by cases z with | nil => simp at hz | cons y z => exact ⟨y, z, rfl⟩
    simp only [List.length_cons] at hk hz
    have hlen : l.length = pre.length + (rest.length + 1) := by rw [hl2]; simp
    simp only [laws_toInt64S.l0]
    have hr : rd l i = x := by rw [hl2]; exact rd_append_right pre (x :: rest) i hi.symm x rest rfl
    rw [if_pos (by omega), if_pos (by omega), if_pos (by simp; omega), hr, w64 (n := i + 1) (by omega) (by omega)]
    have e : (pre ++ y :: z).set i.toNat x = (pre ++ [x]) ++ z := by
      have hn : i.toNat = pre.length := by omega
      rw [hn, List.set_append_right _ _ (Nat.le_refl _)]; simp
    rw [e]
    exact ih (pre ++ [x]) (i + 1) k z (by rw [hl2]; simp) (by simp; omega) (by omega) (by omega)
theorem toInt64S_eq (l : List Int) (hl : l.length ≤ 1000000000) (k : Nat) (hk : l.length < k) : laws_toInt64S.f k l = some l := by
  unfold laws_toInt64S.f
  rw [if_pos (by omega), if_pos (by omega)]
  have := toInt64S_l0 l (by omega) l [] 0 k (List.replicate ((l.length : Int)).toNat 0) rfl rfl hk (by simp)
  simpa using this
theorem toAnchor_eq (x : Bool) (y z : Int) (l : List Int) (hl : l.length ≤ 1048576) (k : Nat) (hk : l.length < k) : laws_toAnchor.f k x y z l = some (x, y, z, l) := by
  unfold laws_toAnchor.f; rw [toInt64S_eq l (by omega) k hk]; rfl
theorem eqInt64S_l0 (l : List Int) (hl : l.length ≤ 1000000000000) : ∀ (d k : Nat) (i : Int), (l.length : Int) - i = d → 0 ≤ i → d < k → laws_eqInt64S.l0 k l l i = some true := by
  intro d
  induction d with
  | zero =>
    intro k i hd h0 hk
    obtain ⟨k, rfl⟩ : ∃ m, k = m + 1 := ⟨k - 1, by omega⟩
    simp only [laws_eqInt64S.l0]; rw [if_neg (by omega)]
  | succ d ih =>
    intro k i hd h0 hk
    obtain ⟨k, rfl⟩ : ∃ m, k = m + 1 := ⟨k - 1, by omega⟩
    simp only [laws_eqInt64S.l0]
    rw [if_pos (by omega), if_pos h0, if_pos (by omega), if_pos True.intro, w64 (by omega) (by omega)]
    exact ih k (i + 1) (by omega) (by omega) (by omega)
theorem eqInt64S_self (l : List Int) (hl : l.length ≤ 1000000000000) (k : Nat) (hk : l.length < k) : laws_eqInt64S.f k l l = some true := by
  unfold laws_eqInt64S.f; rw [if_pos rfl]; exact eqInt64S_l0 l hl l.length k 0 (by omega) (by omega) hk
theorem eqAnchor_self (x : Bool) (y z : Int) (l : List Int) (hl : l.length ≤ 1048576) (k : Nat) (hk : l.length < k) : laws_eqAnchor.f k x y z l x y z l = some true := by
  unfold laws_eqAnchor.f
  rw [if_neg (by simp), if_pos rfl, if_pos rfl, eqInt64S_self l (by omega) k hk]; rfl
theorem idxP_any (p : Int → Option Bool) (q : Int → Bool) : ∀ (l : List Int) (i : Int), 0 ≤ i → (∀ x ∈ l, p x = some (q x)) → ∃ r, idxP p l i = some r ∧ decide (0 ≤ r) = l.any q
  | [], i, _, _ => ⟨-1, rfl, by simp⟩
  | x :: l, i, hi, h => by
    obtain ⟨r, hr, hq⟩ := idxP_any p q l (i + 1) (by omega) (fun y hy => h y (by simp [hy]))
    simp only [idxP]
    rw [h x (by simp)]
    simp only [Option.bind_some]
    cases hx : q x with
    | true => exact ⟨i, by simp, by simp [hx, hi]⟩
    | false => exact ⟨r, by simp [hr], by simp [hx, hq]⟩
theorem anyP_eq (p : Int → Option Bool) (q : Int → Bool) (l : List Int) (h : ∀ x ∈ l, p x = some (q x)) : anyP p l = some (l.any q) := by
  obtain ⟨r, hr, hq⟩ := idxP_any p q l 0 (by omega) h
  unfold anyP; rw [hr]; simp only [Option.bind_some]; rw [hq]
/-- All of a list lie between two bounds. -/
def allW (l : List Int) (a b : Int) : Bool := l.all fun x => decide (a ≤ x ∧ x ≤ b)
theorem allW_cons (x : Int) (l : List Int) (a b : Int) : allW (x :: l) a b = (decide (a ≤ x ∧ x ≤ b) && allW l a b) := by simp [allW]
theorem allW_mem {l : List Int} {a b : Int} (h : allW l a b = true) {x : Int} (hx : x ∈ l) : a ≤ x ∧ x ≤ b := by
  unfold allW at h; rw [List.all_eq_true] at h; simpa using h x hx
theorem allW_mk {l : List Int} {a b : Int} (h : ∀ x ∈ l, a ≤ x ∧ x ≤ b) : allW l a b = true := by
  unfold allW; rw [List.all_eq_true]; intro x hx; simpa using h x hx
theorem inRange_eq (a b c : Int) : impl_inRange.f a b c = some (decide (b ≤ a ∧ a ≤ c)) := by
  unfold impl_inRange.f
  by_cases h : b ≤ a
  · rw [if_pos h]; simp [h]
  · rw [if_neg h]; simp [h]
theorem isNumber_eq (a : Int) : impl_isNumber.f a = some (decide (0 ≤ a ∧ a ≤ 9999)) := by unfold impl_isNumber.f; rw [inRange_eq]; rfl
theorem isRung_eq (a : Int) : impl_isRung.f a = some (decide (0 ≤ a ∧ a ≤ 47)) := by unfold impl_isRung.f; rw [inRange_eq]; rfl
theorem codeIf_eq (b : Bool) (c : Int) : impl_codeIf.f b c = some (if b = true then c else 0) := by unfold impl_codeIf.f; split <;> rfl
/-- The first code that is not 0. -/
def fst0 : List Int → Int
  | [] => 0
  | x :: l => if x = 0 then fst0 l else x
theorem first_l0 (l : List Int) (hl : l.length ≤ 2000000) : ∀ (rest pre : List Int) (i : Int) (k : Nat), l = pre ++ rest → (pre.length : Int) = i → rest.length < k → impl_first.l0 k l (l.length : Int) i = some (fst0 rest) := by
  intro rest
  induction rest with
  | nil =>
    intro pre i k h1 hi hk
    obtain ⟨k, rfl⟩ : ∃ m, k = m + 1 := ⟨k - 1, by omega⟩
    simp only [impl_first.l0]
    rw [if_neg (by rw [h1]; simp; omega)]; rfl
  | cons x rest ih =>
    intro pre i k h1 hi hk
    obtain ⟨k, rfl⟩ : ∃ m, k = m + 1 := ⟨k - 1, by omega⟩
    simp only [List.length_cons] at hk
    have hlen : l.length = pre.length + (rest.length + 1) := by rw [h1]; simp
    simp only [impl_first.l0]
    have hr : rd l i = x := by rw [h1]; exact rd_append_right pre (x :: rest) i hi.symm x rest rfl
    rw [if_pos (by omega), if_pos (by omega), if_pos (by omega), hr, w64 (n := i + 1) (by omega) (by omega)]
    simp only [fst0]
    by_cases c : x = 0
    · rw [if_pos c, if_pos c]; exact ih (pre ++ [x]) (i + 1) k (by rw [h1]; simp) (by simp; omega) (by omega)
    · rw [if_neg c, if_neg c]
theorem first_eq (l : List Int) (hl : l.length ≤ 1000) (k : Nat) (hk : l.length < k) : impl_first.f k l = some (fst0 l) := by
  unfold impl_first.f; exact first_l0 l (by omega) l [] 0 k rfl rfl hk
/-- The code of an anchor. -/
def afR (x : Bool) (y z : Int) (l : List Int) : Int := if x = true then (if (0 ≤ y ∧ y ≤ 9999) ∧ (0 ≤ z ∧ z ≤ 47) then (if 1 ≤ (l.length : Int) ∧ (l.length : Int) ≤ 2 then (if allW l 0 65535 = true then 0 else 3) else 2) else 3) else (if y = 0 ∧ z = 0 ∧ l.length = 0 then 0 else 1)
theorem anchorAny_eq (l : List Int) : impl_AnchorFault_1_any.f l = some (!allW l 0 65535) := by
  unfold impl_AnchorFault_1_any.f
  rw [anyP_eq anchorP (fun x => !decide (0 ≤ x ∧ x ≤ 65535)) l (fun x _ => by unfold anchorP; rw [inRange_eq]; rfl)]
  congr 1
  unfold allW
  rw [List.any_eq_not_all_not]; simp
theorem AnchorFault_eq (x : Bool) (y z : Int) (l : List Int) (k : Nat) (hk : 10 ≤ k) : impl_AnchorFault.f k x y z l = some (afR x y z l) := by
  unfold impl_AnchorFault.f afR
  cases x with
  | true =>
    rw [if_pos rfl, if_pos rfl, anchorAny_eq]
    simp only [Option.bind_some, isNumber_eq, isRung_eq, codeIf_eq, inRange_eq]
    by_cases h1 : 0 ≤ y ∧ y ≤ 9999
    · rw [if_pos (by simpa using h1), first_eq _ (by simp) k (by simp; omega)]
      by_cases h2 : 0 ≤ z ∧ z ≤ 47
      · by_cases h3 : 1 ≤ (l.length : Int) ∧ (l.length : Int) ≤ 2
        · by_cases h4 : allW l 0 65535 = true
          · simp [h1, h2, h3, h4, fst0]
          · simp [h1, h2, h3, h4, fst0]
        · simp [h1, h2, h3, fst0]
      · simp [h1, h2, fst0]
    · rw [if_neg (by simpa using h1)]
      simp only [if_true, Option.bind_some]
      rw [first_eq _ (by simp) k (by simp; omega)]
      simp [h1, fst0]
  | false =>
    simp only [Bool.false_eq_true, if_false]
    by_cases h1 : y = 0
    · rw [if_pos h1]
      by_cases h2 : z = 0
      · rw [if_pos h2, codeIf_eq]
        by_cases h3 : l.length = 0
        · simp [h1, h2, h3]
        · have : 0 < l.length := by omega
          simp [h1, h2, h3, this]
      · rw [if_neg h2, codeIf_eq]; simp [h2]
    · rw [if_neg h1, codeIf_eq]; simp [h1]
theorem l1In_eq (a b c : Int) : spec_l1In.f a b c = some (decide (b ≤ a ∧ a ≤ c)) := by
  unfold spec_l1In.f
  by_cases h : a ≥ b
  · rw [if_pos h]; congr 1; have : b ≤ a := h; simp [this]
  · rw [if_neg h]; have : ¬ b ≤ a := h; simp [this]
theorem l14Number_eq (a : Int) : spec_l14Number.f a = some (decide (0 ≤ a ∧ a ≤ 9999)) := by unfold spec_l14Number.f; rw [l1In_eq]; rfl
theorem l9Rung_eq (a : Int) : spec_l9Rung.f a = some (decide (0 ≤ a ∧ a ≤ 47)) := by unfold spec_l9Rung.f; rw [l1In_eq]; rfl
theorem l1All_l0 (a b : Int) : ∀ (rest pre : List Int) (i : Int) (k : Nat), (pre.length : Int) = i → rest.length < k → pre.length + rest.length ≤ 1000000000 → spec_l1All.l0 k (pre ++ rest) a b i = some (allW rest a b) := by
  intro rest
  induction rest with
  | nil =>
    intro pre i k hi hk hl
    obtain ⟨k, rfl⟩ : ∃ m, k = m + 1 := ⟨k - 1, by omega⟩
    simp only [spec_l1All.l0]
    rw [if_neg (by simp; omega)]; rfl
  | cons x rest ih =>
    intro pre i k hi hk hl
    obtain ⟨k, rfl⟩ : ∃ m, k = m + 1 := ⟨k - 1, by omega⟩
    simp only [List.length_cons] at hk hl
    simp only [spec_l1All.l0]
    rw [if_pos (by simp; omega), if_pos (by omega), rd_append_right pre (x :: rest) i hi.symm x rest rfl, l1In_eq, w64 (n := i + 1) (by omega) (by omega)]
    have e : pre ++ x :: rest = (pre ++ [x]) ++ rest := by simp
    rw [e, ih (pre ++ [x]) (i + 1) k (by simp; omega) (by omega) (by simp; omega), allW_cons]
    by_cases c : a ≤ x ∧ x ≤ b <;> simp [c]
theorem l1All_eq (l : List Int) (a b : Int) (k : Nat) (hk : l.length < k) (hl : l.length ≤ 1000000000) : spec_l1All.f k l a b = some (allW l a b) := by
  unfold spec_l1All.f; have := l1All_l0 a b l [] 0 k rfl hk (by simpa using hl); simpa using this
theorem specAnchorFault_eq (x : Bool) (y z : Int) (l : List Int) (k : Nat) (hk : l.length + 10 ≤ k) (hl : l.length ≤ 1000000000) : spec_AnchorFault.f k x y z l = some (afR x y z l) := by
  obtain ⟨k, rfl⟩ : ∃ m, k = m + 2 := ⟨k - 2, by omega⟩
  unfold spec_AnchorFault.f afR
  cases x with
  | true =>
    rw [if_pos rfl, if_pos rfl, l14Number_eq]
    simp only [Option.bind_some, l9Rung_eq, decide_eq_true_eq, spec_AnchorFault.j0, spec_AnchorFault.j1]
    by_cases h1 : 0 ≤ y ∧ y ≤ 9999
    · rw [if_pos h1]
      by_cases h2 : 0 ≤ z ∧ z ≤ 47
      · rw [if_pos (show (0 ≤ y ∧ y ≤ 9999) ∧ (0 ≤ z ∧ z ≤ 47) from ⟨h1, h2⟩)]
        simp only [h2, and_self, decide_true, Bool.not_true, Bool.false_eq_true, if_false]
        rw [l1All_eq l 0 65535 k (by omega) hl]
        simp only [Option.bind_some]
        by_cases h3 : (l.length : Int) < 1
        · rw [if_pos h3, if_neg (show ¬ (1 ≤ (l.length : Int) ∧ (l.length : Int) ≤ 2) by omega)]; simp
        · rw [if_neg h3]
          by_cases h4 : (l.length : Int) > 2
          · rw [if_pos (by simpa using h4), if_neg (show ¬ (1 ≤ (l.length : Int) ∧ (l.length : Int) ≤ 2) by omega)] <;> simp
          · rw [if_neg (by simpa using h4), if_pos (show 1 ≤ (l.length : Int) ∧ (l.length : Int) ≤ 2 by omega)]
            by_cases h5 : allW l 0 65535 = true
            · simp [h1, h5]
            · simp [h1, h5]
      · rw [if_neg (show ¬ ((0 ≤ y ∧ y ≤ 9999) ∧ (0 ≤ z ∧ z ≤ 47)) from fun h => h2 h.2)]
        simp [h2]
    · rw [if_neg h1, if_neg (show ¬ ((0 ≤ y ∧ y ≤ 9999) ∧ (0 ≤ z ∧ z ≤ 47)) from fun h => h1 h.1)]; simp
  | false =>
    simp only [Bool.false_eq_true, if_false]
    by_cases h1 : y = 0
    · rw [if_pos h1]
      by_cases h2 : z = 0
      · rw [if_pos h2]
        by_cases h3 : l.length = 0
        · simp [h1, h2, h3]
        · have : 0 < l.length := by omega
          simp [h1, h2, h3, this]
      · rw [if_neg h2]; simp [h2]
    · rw [if_neg h1]; simp [h1]
theorem FnExactAnchorFault : laws_FnExactAnchorFault.Pure := by
  intro x y z l _ _ hl _
  refine ⟨1100000, ?_⟩
  unfold laws_FnExactAnchorFault.f
  rw [szAnchor_eq x y z l 1048576 (by omega) (by omega) hl]
  simp only [Option.bind_some]
  by_cases c : 1048576 - (l.length : Int) < 0
  · rw [if_pos c, if_pos (by omega)]
  rw [if_neg c, if_neg (by omega), toAnchor_eq x y z l (by omega) 1100000 (by omega)]
  simp only [Option.bind_some]
  rw [specAnchorFault_eq x y z l 1100000 (by omega) (by omega), AnchorFault_eq x y z l 1100000 (by omega)]
  simp only [Option.bind_some, if_true]
  rw [eqAnchor_self x y z l (by omega) 1100000 (by omega)]; rfl

end Go.Proofs.Ytfjljllkofcmbaa.Pure
