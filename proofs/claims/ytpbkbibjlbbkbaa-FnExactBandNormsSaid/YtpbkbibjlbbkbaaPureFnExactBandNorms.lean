/- The program's BandNorms returns what the reference's returns, for all arguments. -/
import Derived.Test.YtpbkbibjlbbkbaaPFnExactBandNormsx4
set_option linter.unusedVariables false
set_option linter.unusedSimpArgs false
namespace Go.Proofs.Ytpbkbibjlbbkbaa.Pure
open Go.RowKit Go.Proofs.Ytpbkbibjlbbkbaa.PFnExactBandNorms Go.Proofs.YtpbkbibjlbbkbaaW.PrintWords Go.Proofs.YtpbkbibjlbbkbaaW.PrintLast

/-- The code of a size. -/
def szR (a : Int) : Int := if a = 4 ∨ a = 8 ∨ a = 16 then 0 else 3
theorem SizeFault_eq (a : Int) : impl_SizeFault.f a = some (szR a) := by
  unfold impl_SizeFault.f szR
  by_cases h1 : a = 4
  · simp [h1]
  · by_cases h2 : a = 8
    · simp [h2]
    · by_cases h3 : a = 16
      · simp [h3]
      · simp [h1, h2, h3]
theorem szR_0 {a : Int} : szR a = 0 ↔ (a = 4 ∨ a = 8 ∨ a = 16) := by unfold szR; split <;> simp_all
theorem szR_no {a : Int} (h : ¬ (a = 4 ∨ a = 8 ∨ a = 16)) : szR a = 3 := by unfold szR; rw [if_neg h]
theorem szR_yes {a : Int} (h : a = 4 ∨ a = 8 ∨ a = 16) : szR a = 0 := by unfold szR; rw [if_pos h]
theorem codeIf_eq (b : Bool) (c : Int) : impl_codeIf.f b c = some (if b = true then c else 0) := by unfold impl_codeIf.f; split <;> rfl
theorem idxP_any (p : Int → Option Bool) (q : Int → Bool) : ∀ (l : List Int) (i : Int), 0 ≤ i → (∀ x ∈ l, p x = some (q x)) → ∃ r, idxP p l i = some r ∧ decide (0 ≤ r) = l.any q
  | [], i, _, _ => ⟨-1, rfl, by simp⟩
  | x :: l, i, hi, h => by
    obtain ⟨r, hr, hq⟩ := idxP_any p q l (i + 1) (by omega) (fun y hy => h y (by simp [hy]))
    simp only [idxP]
    rw [h x (by simp)]
    simp only [Option.bind_some]
    cases hx : q x with
    | true => exact ⟨i, by simp, by simp [hx, hi]⟩
    | false => exact ⟨r, by simp [hr], by simp [hx, hq]⟩
theorem anyP_eq (p : Int → Option Bool) (q : Int → Bool) (l : List Int) (h : ∀ x ∈ l, p x = some (q x)) : anyP p l = some (l.any q) := by
  obtain ⟨r, hr, hq⟩ := idxP_any p q l 0 (by omega) h
  unfold anyP; rw [hr]; simp only [Option.bind_some]; rw [hq]
/-- All of a list lie between two bounds. -/
def allW (l : List Int) (a b : Int) : Bool := l.all fun x => decide (a ≤ x ∧ x ≤ b)
theorem allW_cons (x : Int) (l : List Int) (a b : Int) : allW (x :: l) a b = (decide (a ≤ x ∧ x ≤ b) && allW l a b) := by simp [allW]
theorem allW_mem {l : List Int} {a b : Int} (h : allW l a b = true) {x : Int} (hx : x ∈ l) : a ≤ x ∧ x ≤ b := by
  unfold allW at h; rw [List.all_eq_true] at h; simpa using h x hx
theorem allW_mk {l : List Int} {a b : Int} (h : ∀ x ∈ l, a ≤ x ∧ x ≤ b) : allW l a b = true := by
  unfold allW; rw [List.all_eq_true]; intro x hx; simpa using h x hx
theorem inRange_eq (a b c : Int) : impl_inRange.f a b c = some (decide (b ≤ a ∧ a ≤ c)) := by
  unfold impl_inRange.f
  by_cases h : b ≤ a
  · rw [if_pos h]; simp [h]
  · rw [if_neg h]; simp [h]
theorem w64 {n : Int} (h1 : -9223372036854775808 ≤ n) (h2 : n ≤ 9223372036854775807) : wrap64 n = n := by unfold wrap64; omega
theorem within_eq (a b : Int) (h0 : 0 ≤ b) (h1 : b ≤ 9223372036854775807) : impl_within.f a b = some (decide (-b ≤ a ∧ a ≤ b)) := by
  unfold impl_within.f; rw [w64 (by omega) (by omega), inRange_eq]; rfl
theorem allWithin_eq (l : List Int) (m : Int) (h0 : 0 ≤ m) (h1 : m ≤ 9223372036854775807) : impl_allWithin.f l m = some (allW l (-m) m) := by
  unfold impl_allWithin.f
  rw [anyP_eq (notWithinP m) (fun x => !decide (-m ≤ x ∧ x ≤ m)) l (fun x _ => by unfold notWithinP; rw [within_eq x m h0 h1]; rfl)]
  simp only [Option.bind_some]
  congr 1
  unfold allW
  rw [List.any_eq_not_all_not]; simp
theorem rd_append_right (P Q : List Int) (i : Int) (h : i = (P.length : Int)) (x : Int) (R : List Int) (hQ : Q = x :: R) : rd (P ++ Q) i = x := by
  subst hQ; unfold rd; rw [h, Int.toNat_natCast, List.getD_eq_getElem?_getD, List.getElem?_append_right (Nat.le_refl _)]; simp
theorem rd_get (l : List Int) (i : Int) (h0 : 0 ≤ i) (h1 : i < (l.length : Int)) : rd l i = l[i.toNat]'(by omega) := by
  unfold rd; rw [List.getD_eq_getElem?_getD, List.getElem?_eq_getElem (by omega)]; rfl
/-- The first code that is not 0. -/
def fst0 : List Int → Int
  | [] => 0
  | x :: l => if x = 0 then fst0 l else x
theorem first_l0 (l : List Int) (hl : l.length ≤ 2000000) : ∀ (rest pre : List Int) (i : Int) (k : Nat), l = pre ++ rest → (pre.length : Int) = i → rest.length < k → impl_first.l0 k l (l.length : Int) i = some (fst0 rest) := by
  intro rest
  induction rest with
  | nil =>
    intro pre i k h1 hi hk
    obtain ⟨k, rfl⟩ : ∃ m, k = m + 1 := ⟨k - 1, by omega⟩
    simp only [impl_first.l0]
    rw [if_neg (by rw [h1]; simp; omega)]; rfl
  | cons x rest ih =>
    intro pre i k h1 hi hk
    obtain ⟨k, rfl⟩ : ∃ m, k = m + 1 := ⟨k - 1, by omega⟩
    simp only [List.length_cons] at hk
    have hlen : l.length = pre.length + (rest.length + 1) := by rw [h1]; simp
    simp only [impl_first.l0]
    have hr : rd l i = x := by rw [h1]; exact rd_append_right pre (x :: rest) i hi.symm x rest rfl
    rw [if_pos (by omega), if_pos (by omega), if_pos (by omega), hr, w64 (n := i + 1) (by omega) (by omega)]
    simp only [fst0]
    by_cases c : x = 0
    · rw [if_pos c, if_pos c]; exact ih (pre ++ [x]) (i + 1) k (by rw [h1]; simp) (by simp; omega) (by omega)
    · rw [if_neg c, if_neg c]
theorem first_eq (l : List Int) (hl : l.length ≤ 1000) (k : Nat) (hk : l.length < k) : impl_first.f k l = some (fst0 l) := by
  unfold impl_first.f; exact first_l0 l (by omega) l [] 0 k rfl rfl hk
/-- The code of coefficients of a size. -/
def cfR (a : Int) (l : List Int) : Int := if szR a ≠ 0 then szR a else if (l.length : Int) ≠ a then 2 else if allW l (-16777216) 16777216 = true then 0 else 3
theorem coefsFault_eq (a : Int) (l : List Int) (k : Nat) (hk : 10 ≤ k) : impl_coefsFault.f k a l = some (cfR a l) := by
  unfold impl_coefsFault.f
  rw [SizeFault_eq]
  simp only [codeIf_eq, Option.bind_some]
  rw [allWithin_eq l 16777216 (by omega) (by omega)]
  simp only [Option.bind_some]
  rw [first_eq _ (by simp) k (by simp; omega)]
  unfold cfR
  by_cases h1 : szR a = 0
  · by_cases h2 : (l.length : Int) = a
    · by_cases h3 : allW l (-16777216) 16777216 = true
      · simp [h1, h2, h3, fst0]
      · simp [h1, h2, h3, fst0]
    · simp [h1, h2, fst0]
  · simp [h1, fst0]
theorem cfR_0 {a : Int} {l : List Int} (h : cfR a l = 0) : (a = 4 ∨ a = 8 ∨ a = 16) ∧ (l.length : Int) = a ∧ allW l (-16777216) 16777216 = true := by
  unfold cfR at h
  by_cases h1 : szR a = 0
  · by_cases h2 : (l.length : Int) = a
    · by_cases h3 : allW l (-16777216) 16777216 = true
      · exact ⟨szR_0.1 h1, h2, h3⟩
      · simp [h1, h2, h3] at h
    · simp [h1, h2] at h
  · simp [h1] at h
/-- The bands of a size. -/
def bnds (s : Int) : List S83 := if s = 4 then [⟨2, 2⟩] else if s = 8 then [⟨4, 2⟩, ⟨6, 2⟩] else [⟨8, 4⟩, ⟨12, 4⟩]
theorem bandsOf_eq (s : Int) : impl_bandsOf.f s = some (bnds s) := by unfold impl_bandsOf.f bnds; split <;> (try rfl); split <;> rfl
theorem bnds_cases (s : Int) : (s = 4 ∧ bnds s = [⟨2, 2⟩]) ∨ (s = 8 ∧ bnds s = [⟨4, 2⟩, ⟨6, 2⟩]) ∨ (s ≠ 4 ∧ s ≠ 8 ∧ bnds s = [⟨8, 4⟩, ⟨12, 4⟩]) := by
  unfold bnds
  by_cases h1 : s = 4
  · exact Or.inl ⟨h1, by rw [if_pos h1]⟩
  · by_cases h2 : s = 8
    · exact Or.inr (Or.inl ⟨h2, by rw [if_neg h1, if_pos h2]⟩)
    · exact Or.inr (Or.inr ⟨h1, h2, by rw [if_neg h1, if_neg h2]⟩)
/-- The sum of the absolute values. -/
def nrm : List Int → Nat
  | [] => 0
  | x :: l => x.natAbs + nrm l
theorem nrm_append : ∀ (a b : List Int), nrm (a ++ b) = nrm a + nrm b
  | [], b => by simp [nrm]
  | x :: a, b => by simp only [List.cons_append, nrm, nrm_append a b]; omega
theorem nrm_le (M : Nat) : ∀ (l : List Int), (∀ x ∈ l, x.natAbs ≤ M) → nrm l ≤ M * l.length
  | [], _ => by simp [nrm]
  | x :: l, h => by
    have h1 := nrm_le M l (fun y hy => h y (by simp [hy]))
    have h2 := h x (by simp)
    simp only [nrm, List.length_cons, Nat.mul_add, Nat.mul_one]; omega
theorem nrm_mem : ∀ {l : List Int} {x : Int}, x ∈ l → x.natAbs ≤ nrm l
  | y :: l, x, h => by
    simp only [nrm]
    rcases List.mem_cons.1 h with rfl | h
    · omega
    · have := nrm_mem h; omega
theorem allW_nrm {l : List Int} {M : Nat} (h : allW l (-(M : Int)) M = true) : nrm l ≤ M * l.length :=
  nrm_le M l (fun x hx => by have := allW_mem h hx; omega)
/-- A band's coefficients. -/
def cutB (b : S83) (l : List Int) : List Int := (l.take (b.f0 + b.f1).toNat).drop b.f0.toNat
theorem cutB_mem {b : S83} {l : List Int} {x : Int} (h : x ∈ cutB b l) : x ∈ l := List.mem_of_mem_take (List.mem_of_mem_drop h)
theorem cutB_len (b : S83) (l : List Int) : (cutB b l).length ≤ l.length := by unfold cutB; rw [List.length_drop, List.length_take]; omega
/-- What BandNorms answers. -/
def bnR (a : Int) (l : List Int) : Int × List Int := if cfR a l ≠ 0 then (cfR a l, []) else (0, (bnds a).map fun b => (nrm (cutB b l) : Int))
theorem bnR_length (a : Int) (l : List Int) : (bnR a l).2.length ≤ 2 := by
  unfold bnR
  split
  · simp
  · rcases bnds_cases a with ⟨_, e⟩ | ⟨_, e⟩ | ⟨_, _, e⟩ <;> simp [e]
theorem abs_eq (x : Int) (h0 : -9223372036854775807 ≤ x) (h1 : x ≤ 9223372036854775807) : impl_abs.f x = some (x.natAbs : Int) := by
  unfold impl_abs.f mx; rw [w64 (by omega) (by omega)]; congr 1; split <;> omega
theorem normOf_l0 (l : List Int) (hl : l.length ≤ 2000000) (hb : ∀ x ∈ l, x.natAbs ≤ 1099511627776) : ∀ (rest pre : List Int) (i s : Int) (k : Nat), l = pre ++ rest → (pre.length : Int) = i → rest.length < k → s = (nrm pre : Int) → impl_normOf.l0 k s l (l.length : Int) i = some (nrm l : Int) := by
  intro rest
  induction rest with
  | nil =>
    intro pre i s k h1 hi hk hs
    obtain ⟨k, rfl⟩ : ∃ m, k = m + 1 := ⟨k - 1, by omega⟩
    simp only [impl_normOf.l0]
    rw [if_neg (by rw [h1]; simp; omega), hs, h1]; simp
  | cons x rest ih =>
    intro pre i s k h1 hi hk hs
    obtain ⟨k, rfl⟩ : ∃ m, k = m + 1 := ⟨k - 1, by omega⟩
    simp only [List.length_cons] at hk
    have hlen : l.length = pre.length + (rest.length + 1) := by rw [h1]; simp
    have hx := hb x (by rw [h1]; simp)
    have hp := nrm_le 1099511627776 pre (fun y hy => hb y (by rw [h1]; simp [hy]))
    have hp2 : 1099511627776 * pre.length ≤ 1099511627776 * 2000000 := Nat.mul_le_mul_left _ (by omega)
    simp only [impl_normOf.l0]
    have hr : rd l i = x := by rw [h1]; exact rd_append_right pre (x :: rest) i hi.symm x rest rfl
    rw [if_pos (by omega), if_pos (by omega), if_pos (by omega), hr, abs_eq x (by omega) (by omega)]
    simp only [Option.bind_some]
    rw [w64 (n := s + _) (by omega) (by omega), w64 (n := i + 1) (by omega) (by omega)]
    exact ih (pre ++ [x]) (i + 1) _ k (by rw [h1]; simp) (by simp; omega) (by omega) (by rw [nrm_append]; simp only [nrm]; omega)
theorem normOf_eq (l : List Int) (hl : l.length ≤ 2000000) (hb : ∀ x ∈ l, x.natAbs ≤ 1099511627776) (k : Nat) (hk : l.length < k) : impl_normOf.f k l = some (nrm l : Int) := by
  unfold impl_normOf.f; exact normOf_l0 l hl hb l [] 0 0 k rfl rfl hk rfl
theorem BandNorms_eq (a : Int) (l : List Int) (hl : l.length ≤ 1048576) (K : Nat) (hK : 200 ≤ K) : impl_BandNorms.f K a l = some (bnR a l) := by
  unfold impl_BandNorms.f bnR
  rw [coefsFault_eq a l K (by omega)]; simp only [Option.bind_some]
  by_cases h : cfR a l = 0
  · obtain ⟨ha, hlen, hw⟩ := cfR_0 h
    rw [if_pos h, if_neg (show ¬ cfR a l ≠ 0 from fun g => g h), bandsOf_eq]; simp only [Option.bind_some]
    have step : ∀ (B : List S83) (i : Int) (out : List Int) (K : Nat), 100 ≤ K → 0 ≤ i → i < B.length → i ≤ 1000 → out.length ≤ 100 → 0 ≤ (rd_T83 B i).f0 → 0 ≤ (rd_T83 B i).f1 → (rd_T83 B i).f0 + (rd_T83 B i).f1 ≤ l.length → impl_BandNorms.l0 (K + 1) l B (B.length : Int) i 0 out = impl_BandNorms.l0 K l B (B.length : Int) (i + 1) 0 (out ++ [(nrm (cutB (rd_T83 B i) l) : Int)]) := by
      intro B i out K hK i0 i1 i2 ho f0 f1 f2
      have hcl := cutB_len (rd_T83 B i) l
      rw [impl_BandNorms.l0, if_pos i1, if_pos i0, if_pos i1, w64 (n := (rd_T83 B i).f0 + (rd_T83 B i).f1) (by omega) (by omega), if_pos f0, if_pos (by omega), if_pos f2]
      unfold impl_Band_of_any.f
      simp only [Option.bind_some]
      have hn := normOf_eq (cutB (rd_T83 B i) l) (by omega) (fun x hx => by have := allW_mem hw (cutB_mem hx); omega) K (by omega)
      unfold cutB at hn
      rw [hn]; simp only [Option.bind_some]
      rw [if_pos (by omega), w64 (n := i + 1) (by omega) (by omega)]
      rfl
    have done : ∀ (B : List S83) (i : Int) (out : List Int) (K : Nat), ¬ i < B.length → impl_BandNorms.l0 (K + 1) l B (B.length : Int) i 0 out = some (0, out) := by
      intro B i out K hi
      rw [impl_BandNorms.l0, if_neg hi]
    obtain ⟨K, rfl⟩ : ∃ z, K = z + 3 := ⟨K - 3, by omega⟩
    rcases bnds_cases a with ⟨e, e1⟩ | ⟨e, e1⟩ | ⟨e, e', e1⟩
    · rw [e1, step [⟨2, 2⟩] 0 [] (K + 2) (by omega) (by omega) (by simp) (by omega) (by simp) (by decide) (by decide) (by show (4 : Int) ≤ _; omega), done [⟨2, 2⟩] (0 + 1) _ (K + 1) (by simp)]
      rfl
    · rw [e1, step [⟨4, 2⟩, ⟨6, 2⟩] 0 [] (K + 2) (by omega) (by omega) (by simp) (by omega) (by simp) (by decide) (by decide) (by show (6 : Int) ≤ _; omega), step [⟨4, 2⟩, ⟨6, 2⟩] (0 + 1) _ (K + 1) (by omega) (by omega) (by simp) (by omega) (by simp) (by decide) (by decide) (by show (8 : Int) ≤ _; omega), done [⟨4, 2⟩, ⟨6, 2⟩] (0 + 1 + 1) _ K (by simp)]
      rfl
    · have h16 : a = 16 := by omega
      rw [e1, step [⟨8, 4⟩, ⟨12, 4⟩] 0 [] (K + 2) (by omega) (by omega) (by simp) (by omega) (by simp) (by decide) (by decide) (by show (12 : Int) ≤ _; omega), step [⟨8, 4⟩, ⟨12, 4⟩] (0 + 1) _ (K + 1) (by omega) (by omega) (by simp) (by omega) (by simp) (by decide) (by decide) (by show (16 : Int) ≤ _; omega), done [⟨8, 4⟩, ⟨12, 4⟩] (0 + 1 + 1) _ K (by simp)]
      rfl
  · rw [if_neg h, if_pos h]
theorem specSizeFault_eq (a : Int) : spec_SizeFault.f a = some (szR a) := by
  unfold spec_SizeFault.f szR
  by_cases h1 : a = 4
  · simp [h1]
  · by_cases h2 : a = 8
    · simp [h2]
    · by_cases h3 : a = 16
      · simp [h3]
      · simp [h1, h2, h3]
theorem l1In_eq (a b c : Int) : spec_l1In.f a b c = some (decide (b ≤ a ∧ a ≤ c)) := by
  unfold spec_l1In.f
  by_cases h : a ≥ b
  · rw [if_pos h]; congr 1; have : b ≤ a := h; simp [this]
  · rw [if_neg h]; have : ¬ b ≤ a := h; simp [this]
theorem l1All_l0 (a b : Int) : ∀ (rest pre : List Int) (i : Int) (k : Nat), (pre.length : Int) = i → rest.length < k → pre.length + rest.length ≤ 1000000000 → spec_l1All.l0 k (pre ++ rest) a b i = some (allW rest a b) := by
  intro rest
  induction rest with
  | nil =>
    intro pre i k hi hk hl
    obtain ⟨k, rfl⟩ : ∃ m, k = m + 1 := ⟨k - 1, by omega⟩
    simp only [spec_l1All.l0]
    rw [if_neg (by simp; omega)]; rfl
  | cons x rest ih =>
    intro pre i k hi hk hl
    obtain ⟨k, rfl⟩ : ∃ m, k = m + 1 := ⟨k - 1, by omega⟩
    simp only [List.length_cons] at hk hl
    simp only [spec_l1All.l0]
    rw [if_pos (by simp; omega), if_pos (by omega), rd_append_right pre (x :: rest) i hi.symm x rest rfl, l1In_eq, w64 (n := i + 1) (by omega) (by omega)]
    have e : pre ++ x :: rest = (pre ++ [x]) ++ rest := by simp
    rw [e, ih (pre ++ [x]) (i + 1) k (by simp; omega) (by omega) (by simp; omega), allW_cons]
    by_cases c : a ≤ x ∧ x ≤ b <;> simp [c]
theorem l1All_eq (l : List Int) (a b : Int) (k : Nat) (hk : l.length < k) (hl : l.length ≤ 1000000000) : spec_l1All.f k l a b = some (allW l a b) := by
  unfold spec_l1All.f; have := l1All_l0 a b l [] 0 k rfl hk (by simpa using hl); simpa using this
theorem l13Coefs_eq (a : Int) (l : List Int) (k : Nat) (hk : l.length + 2 < k) (hl : l.length ≤ 1000000000) : spec_l13Coefs.f k a l = some (cfR a l) := by
  unfold spec_l13Coefs.f spec_l6Ask.f cfR
  rw [specSizeFault_eq]
  simp only [Option.bind_some]
  by_cases h1 : szR a = 0
  · rw [if_pos h1, if_neg (show ¬ szR a ≠ 0 by simp [h1])]
    by_cases h2 : (l.length : Int) = a
    · rw [if_pos h2, if_neg (show ¬ (l.length : Int) ≠ a by simp [h2])]
      simp only [specSizeFault_eq, Option.bind_some]
      rw [if_pos (show szR (l.length : Int) = 0 by rw [h2]; exact h1), w64 (n := -16777216) (by omega) (by omega), l1All_eq l _ _ k (by omega) hl]
      simp only [Option.bind_some]
      by_cases h3 : allW l (-16777216) 16777216 = true
      · simp [h3]
      · simp [h3]
    · rw [if_neg h2, if_pos h2]
  · rw [if_neg h1, if_pos h1]
theorem l13Bands_eq (s : Int) : spec_l13Bands.f s = some (bnds s) := by unfold spec_l13Bands.f bnds; split <;> (try rfl); split <;> rfl
theorem l1Abs_eq (x : Int) (h0 : -9223372036854775807 ≤ x) (h1 : x ≤ 9223372036854775807) : spec_l1Abs.f x = some (x.natAbs : Int) := by
  unfold spec_l1Abs.f
  by_cases h : x < 0
  · rw [if_pos h, w64 (by omega) (by omega)]; congr 1; omega
  · rw [if_neg h]; congr 1; omega
theorem l1Norm_l0 (l : List Int) (hl : l.length ≤ 2000000) (hb : ∀ x ∈ l, x.natAbs ≤ 1099511627776) : ∀ (rest pre : List Int) (i s : Int) (k : Nat), l = pre ++ rest → (pre.length : Int) = i → rest.length < k → s = (nrm pre : Int) → spec_l1Norm.l0 k l s i = some (nrm l : Int) := by
  intro rest
  induction rest with
  | nil =>
    intro pre i s k h1 hi hk hs
    obtain ⟨k, rfl⟩ : ∃ m, k = m + 1 := ⟨k - 1, by omega⟩
    simp only [spec_l1Norm.l0]
    rw [if_neg (by rw [h1]; simp; omega), hs, h1]; simp
  | cons x rest ih =>
    intro pre i s k h1 hi hk hs
    obtain ⟨k, rfl⟩ : ∃ m, k = m + 1 := ⟨k - 1, by omega⟩
    simp only [List.length_cons] at hk
    have hlen : l.length = pre.length + (rest.length + 1) := by rw [h1]; simp
    have hx := hb x (by rw [h1]; simp)
    have hp := nrm_le 1099511627776 pre (fun y hy => hb y (by rw [h1]; simp [hy]))
    have hp2 : 1099511627776 * pre.length ≤ 1099511627776 * 2000000 := Nat.mul_le_mul_left _ (by omega)
    simp only [spec_l1Norm.l0]
    have hr : rd l i = x := by rw [h1]; exact rd_append_right pre (x :: rest) i hi.symm x rest rfl
    rw [if_pos (by omega), if_pos (by omega), hr, l1Abs_eq x (by omega) (by omega)]
    simp only [Option.bind_some]
    rw [w64 (n := s + _) (by omega) (by omega), w64 (n := i + 1) (by omega) (by omega)]
    exact ih (pre ++ [x]) (i + 1) _ k (by rw [h1]; simp) (by simp; omega) (by omega) (by rw [nrm_append]; simp only [nrm]; omega)
theorem l1Norm_eq (l : List Int) (hl : l.length ≤ 2000000) (hb : ∀ x ∈ l, x.natAbs ≤ 1099511627776) (k : Nat) (hk : l.length < k) : spec_l1Norm.f k l = some (nrm l : Int) := by
  unfold spec_l1Norm.f; exact l1Norm_l0 l hl hb l [] 0 0 k rfl rfl hk rfl
theorem l13Norms_eq (a : Int) (l : List Int) (ha : a = 4 ∨ a = 8 ∨ a = 16) (hlen : (l.length : Int) = a) (hw : allW l (-16777216) 16777216 = true) (K : Nat) (hK : 200 ≤ K) : spec_l13Norms.f K a l = some ((bnds a).map fun b => (nrm (cutB b l) : Int)) := by
  unfold spec_l13Norms.f
  rw [l13Bands_eq]; simp only [Option.bind_some]
  have step : ∀ (B : List S83) (i : Int) (out : List Int) (K : Nat), 100 ≤ K → 0 ≤ i → i < B.length → i ≤ 1000 → out.length ≤ 100 → 0 ≤ (rd_T83 B i).f0 → 0 ≤ (rd_T83 B i).f1 → (rd_T83 B i).f0 + (rd_T83 B i).f1 ≤ l.length → spec_l13Norms.l0 (K + 1) l out B i = spec_l13Norms.l0 K l (out ++ [(nrm (cutB (rd_T83 B i) l) : Int)]) B (i + 1) := by
    intro B i out K hK i0 i1 i2 ho f0 f1 f2
    have hcl := cutB_len (rd_T83 B i) l
    rw [spec_l13Norms.l0, if_pos i1, if_pos i0, w64 (n := (rd_T83 B i).f0 + (rd_T83 B i).f1) (by omega) (by omega), if_pos f0, if_pos (by omega), if_pos f2]
    unfold spec_l13Of_any.f
    simp only [Option.bind_some]
    have hn := l1Norm_eq (cutB (rd_T83 B i) l) (by omega) (fun x hx => by have := allW_mem hw (cutB_mem hx); omega) K (by omega)
    unfold cutB at hn
    rw [hn]; simp only [Option.bind_some]
    rw [if_pos (by omega), w64 (n := i + 1) (by omega) (by omega)]
    rfl
  have done : ∀ (B : List S83) (i : Int) (out : List Int) (K : Nat), ¬ i < B.length → spec_l13Norms.l0 (K + 1) l out B i = some out := by
    intro B i out K hi
    rw [spec_l13Norms.l0, if_neg hi]
  obtain ⟨K, rfl⟩ : ∃ z, K = z + 3 := ⟨K - 3, by omega⟩
  rcases bnds_cases a with ⟨e, e1⟩ | ⟨e, e1⟩ | ⟨e, e', e1⟩
  · rw [e1, step [⟨2, 2⟩] 0 [] (K + 2) (by omega) (by omega) (by simp) (by omega) (by simp) (by decide) (by decide) (by show (4 : Int) ≤ _; omega), done [⟨2, 2⟩] (0 + 1) _ (K + 1) (by simp)]
    rfl
  · rw [e1, step [⟨4, 2⟩, ⟨6, 2⟩] 0 [] (K + 2) (by omega) (by omega) (by simp) (by omega) (by simp) (by decide) (by decide) (by show (6 : Int) ≤ _; omega), step [⟨4, 2⟩, ⟨6, 2⟩] (0 + 1) _ (K + 1) (by omega) (by omega) (by simp) (by omega) (by simp) (by decide) (by decide) (by show (8 : Int) ≤ _; omega), done [⟨4, 2⟩, ⟨6, 2⟩] (0 + 1 + 1) _ K (by simp)]
    rfl
  · have h16 : a = 16 := by omega
    rw [e1, step [⟨8, 4⟩, ⟨12, 4⟩] 0 [] (K + 2) (by omega) (by omega) (by simp) (by omega) (by simp) (by decide) (by decide) (by show (12 : Int) ≤ _; omega), step [⟨8, 4⟩, ⟨12, 4⟩] (0 + 1) _ (K + 1) (by omega) (by omega) (by simp) (by omega) (by simp) (by decide) (by decide) (by show (16 : Int) ≤ _; omega), done [⟨8, 4⟩, ⟨12, 4⟩] (0 + 1 + 1) _ K (by simp)]
    rfl
theorem specBandNorms_eq (a : Int) (l : List Int) (hl : l.length ≤ 1048576) (K : Nat) (hK : l.length + 300 ≤ K) : spec_BandNorms.f K a l = some (bnR a l) := by
  unfold spec_BandNorms.f bnR
  rw [l13Coefs_eq a l K (by omega) (by omega)]; simp only [Option.bind_some]
  by_cases h : cfR a l = 0
  · obtain ⟨ha, hlen, hw⟩ := cfR_0 h
    rw [if_pos h, if_neg (show ¬ cfR a l ≠ 0 from fun g => g h), l13Norms_eq a l ha hlen hw K (by omega)]; rfl
  · rw [if_neg h, if_pos h]
theorem toInt64S_l0 (l : List Int) (hl : l.length ≤ 1000000000000) : ∀ (rest pre : List Int) (i : Int) (k : Nat) (z : List Int), l = pre ++ rest → (pre.length : Int) = i → rest.length < k → z.length = rest.length →
    laws_toInt64S.l0 k l (pre ++ z) i = some l := by
  intro rest
  induction rest with
  | nil =>
    intro pre i k z hl2 hi hk hz
    obtain ⟨k, rfl⟩ : ∃ m, k = m + 1 := ⟨k - 1, by omega⟩
    have : z = [] := List.eq_nil_of_length_eq_zero hz
    subst this
    simp only [laws_toInt64S.l0]
    rw [if_neg (by rw [hl2]; simp; omega), hl2]
  | cons x rest ih =>
    intro pre i k z hl2 hi hk hz
    obtain ⟨k, rfl⟩ : ∃ m, k = m + 1 := ⟨k - 1, by omega⟩
    obtain ⟨y, z, rfl⟩ : ∃ y z', z = y :: z' := by cases z with | nil => simp at hz | cons y z => exact ⟨y, z, rfl⟩
    simp only [List.length_cons] at hk hz
    have hlen : l.length = pre.length + (rest.length + 1) := by rw [hl2]; simp
    simp only [laws_toInt64S.l0]
    have hr : rd l i = x := by rw [hl2]; exact rd_append_right pre (x :: rest) i hi.symm x rest rfl
    rw [if_pos (by omega), if_pos (by omega), if_pos (by simp; omega), hr, w64 (n := i + 1) (by omega) (by omega)]
    have e : (pre ++ y :: z).set i.toNat x = (pre ++ [x]) ++ z := by
      have hn : i.toNat = pre.length := by omega
      rw [hn, List.set_append_right _ _ (Nat.le_refl _)]; simp
    rw [e]
    exact ih (pre ++ [x]) (i + 1) k z (by rw [hl2]; simp) (by simp; omega) (by omega) (by omega)
theorem toInt64S_eq (l : List Int) (hl : l.length ≤ 1000000000) (k : Nat) (hk : l.length < k) : laws_toInt64S.f k l = some l := by
  unfold laws_toInt64S.f
  rw [if_pos (by omega), if_pos (by omega)]
  have := toInt64S_l0 l (by omega) l [] 0 k (List.replicate ((l.length : Int)).toNat 0) rfl rfl hk (by simp)
  simpa using this
theorem eqInt64S_l0 (l : List Int) (hl : l.length ≤ 1000000000000) : ∀ (d k : Nat) (i : Int), (l.length : Int) - i = d → 0 ≤ i → d < k → laws_eqInt64S.l0 k l l i = some true := by
  intro d
  induction d with
  | zero =>
    intro k i hd h0 hk
    obtain ⟨k, rfl⟩ : ∃ m, k = m + 1 := ⟨k - 1, by omega⟩
    simp only [laws_eqInt64S.l0]; rw [if_neg (by omega)]
  | succ d ih =>
    intro k i hd h0 hk
    obtain ⟨k, rfl⟩ : ∃ m, k = m + 1 := ⟨k - 1, by omega⟩
    simp only [laws_eqInt64S.l0]
    rw [if_pos (by omega), if_pos h0, if_pos (by omega), if_pos True.intro, w64 (by omega) (by omega)]
    exact ih k (i + 1) (by omega) (by omega) (by omega)
theorem eqInt64S_self (l : List Int) (hl : l.length ≤ 1000000000000) (k : Nat) (hk : l.length < k) : laws_eqInt64S.f k l l = some true := by
  unfold laws_eqInt64S.f; rw [if_pos rfl]; exact eqInt64S_l0 l hl l.length k 0 (by omega) (by omega) hk
/-- So many numbers from x on. -/
def iv : Nat → Int → List Int
  | 0, _ => []
  | n + 1, x => x :: iv n (x + 1)
theorem iv_length : ∀ (n : Nat) (x : Int), (iv n x).length = n
  | 0, _ => rfl
  | n + 1, x => by simp [iv, iv_length n]
theorem mem_iv : ∀ (n : Nat) (x y : Int), y ∈ iv n x → x ≤ y ∧ y < x + n
  | 0, _, _, h => by simp [iv] at h
  | n + 1, x, y, h => by
    simp only [iv, List.mem_cons] at h
    rcases h with rfl | h
    · omega
    · have := mem_iv n (x + 1) y h; omega
theorem markInt64S_l0 : ∀ (rest pre : List Int) (a i : Int) (k : Nat), (pre.length : Int) = i → rest.length < k → 0 ≤ a → a + rest.length ≤ 1000000000000 → i + rest.length ≤ 1000000000000 →
    laws_markInt64S.l0 k (pre ++ rest) a i = some (a + rest.length, pre ++ iv rest.length a) := by
  intro rest
  induction rest with
  | nil =>
    intro pre a i k hi hk h0 h1 h2
    obtain ⟨k, rfl⟩ : ∃ m, k = m + 1 := ⟨k - 1, by omega⟩
    simp only [laws_markInt64S.l0]
    rw [if_neg (by simp; omega)]; simp [iv]
  | cons x rest ih =>
    intro pre a i k hi hk h0 h1 h2
    obtain ⟨k, rfl⟩ : ∃ m, k = m + 1 := ⟨k - 1, by omega⟩
    simp only [List.length_cons] at hk h1 h2
    simp only [laws_markInt64S.l0]
    rw [if_pos (by simp; omega), if_pos (by omega), w64 (n := a + 1) (by omega) (by omega), w64 (n := i + 1) (by omega) (by omega)]
    have e : (pre ++ x :: rest).set i.toNat a = (pre ++ [a]) ++ rest := by
      have hn : i.toNat = pre.length := by omega
      rw [hn, List.set_append_right _ _ (Nat.le_refl _)]; simp
    rw [e, ih (pre ++ [a]) (a + 1) (i + 1) k (by simp; omega) (by omega) (by omega) (by omega) (by omega)]
    simp [iv]; omega
theorem markInt64S_eq (l : List Int) (a : Int) (k : Nat) (hk : l.length < k) (h0 : 0 ≤ a) (h1 : a + l.length ≤ 1000000000000) : laws_markInt64S.f k l a = some (a + l.length, iv l.length a) := by
  unfold laws_markInt64S.f
  have := markInt64S_l0 l [] a 0 k rfl hk h0 h1 (by omega)
  simpa using this
theorem heldInt64S_l0 : ∀ (n : Nat) (pre : List Int) (a i : Int) (k : Nat), (pre.length : Int) = i → n < k → 0 ≤ a → a + n ≤ 1000000000000 → i + n ≤ 1000000000000 →
    laws_heldInt64S.l0 k (pre ++ iv n a) a i = some (a + n) := by
  intro n
  induction n with
  | zero =>
    intro pre a i k hi hk h0 h1 h2
    obtain ⟨k, rfl⟩ : ∃ m, k = m + 1 := ⟨k - 1, by omega⟩
    simp only [laws_heldInt64S.l0]
    rw [if_neg (by simp [iv]; omega)]; simp
  | succ n ih =>
    intro pre a i k hi hk h0 h1 h2
    obtain ⟨k, rfl⟩ : ∃ m, k = m + 1 := ⟨k - 1, by omega⟩
    simp only [laws_heldInt64S.l0]
    rw [if_pos (by simp [iv_length]; omega), if_pos (by omega), if_pos (rd_append_right pre (iv (n + 1) a) i hi.symm a (iv n (a + 1)) rfl), w64 (n := a + 1) (by omega) (by omega), w64 (n := i + 1) (by omega) (by omega)]
    have e : pre ++ iv (n + 1) a = (pre ++ [a]) ++ iv n (a + 1) := by simp [iv]
    rw [e, ih (pre ++ [a]) (a + 1) (i + 1) k (by simp; omega) (by omega) (by omega) (by omega) (by omega)]
    congr 1; omega
theorem heldInt64S_eq (n : Nat) (a : Int) (k : Nat) (hk : n < k) (h0 : 0 ≤ a) (h1 : a + n ≤ 1000000000000) : laws_heldInt64S.f k (iv n a) a = some (a + n) := by
  unfold laws_heldInt64S.f
  have := heldInt64S_l0 n [] a 0 k rfl hk h0 h1 (by omega)
  simpa using this
theorem eqIntsResult_self (c : Int) (l : List Int) (hl : l.length ≤ 1000000) (k : Nat) (hk : l.length < k) : laws_eqIntsResult.f k c l c l = some true := by
  unfold laws_eqIntsResult.f; rw [if_pos rfl, eqInt64S_self l (by omega) k hk]; rfl
theorem markIntsResult_eq (c : Int) (l : List Int) (a : Int) (k : Nat) (hk : l.length < k) (h0 : 0 ≤ a) (h1 : a + l.length ≤ 1000000000000) : laws_markIntsResult.f k c l a = some (a + l.length, iv l.length a) := by
  unfold laws_markIntsResult.f; rw [markInt64S_eq l a k hk h0 h1]; rfl
theorem heldIntsResult_eq (c : Int) (n : Nat) (a : Int) (k : Nat) (hk : n < k) (h0 : 0 ≤ a) (h1 : a + n ≤ 1000000000000) : laws_heldIntsResult.f k c (iv n a) a = some (a + n) := by
  unfold laws_heldIntsResult.f; rw [heldInt64S_eq n a k hk h0 h1]; simp only [Option.bind_some]; rw [if_neg (by omega)]
theorem FnExactBandNorms : laws_FnExactBandNorms.Pure := by
  intro a l _ _ _ _
  refine ⟨1100001, ?_⟩
  have hR := bnR_length a l
  unfold laws_FnExactBandNorms.f
  by_cases hbig : (l.length : Int) > 1048576
  · rw [if_pos hbig]
  rw [if_neg hbig, toInt64S_eq l (by omega) 1100001 (by omega)]
  simp only [Option.bind_some]
  rw [specBandNorms_eq a l (by omega) 1100001 (by omega), BandNorms_eq a l (by omega) 1100001 (by omega)]
  simp only [Option.bind_some]
  rw [eqIntsResult_self _ _ (by omega) 1100001 (by omega)]
  simp only [Option.bind_some, if_true]
  rw [eqInt64S_self l (by omega) 1100001 (by omega)]
  simp only [Option.bind_some, if_true]
  rw [markInt64S_eq l 1 1100001 (by omega) (by omega) (by omega)]
  simp only [Option.bind_some]
  rw [if_neg (by omega)]
  simp only [laws_FnExactBandNorms.j0, Bool.not_true, Bool.false_eq_true, if_false]
  rw [markIntsResult_eq _ _ 1 1100000 (by omega) (by omega) (by omega)]
  simp only [Option.bind_some]
  rw [heldIntsResult_eq _ _ 1 1100000 (by omega) (by omega) (by omega)]
  simp only [Option.bind_some, if_true]
  rw [if_neg (by omega), toInt64S_eq l (by omega) 1100000 (by omega)]
  simp only [Option.bind_some]
  rw [BandNorms_eq a l (by omega) 1100000 (by omega)]
  simp only [Option.bind_some]
  rw [eqIntsResult_self _ _ (by omega) 1100000 (by omega)]
  simp only [Option.bind_some, if_true]
  rw [if_neg (by omega)]

end Go.Proofs.Ytpbkbibjlbbkbaa.Pure
