/- The program's SameAnchors returns what the reference's returns, for all arguments. -/
import Derived.Test.YtfjljllkofcmbaaPFnExactSameAnchorsx2
set_option linter.unusedVariables false
set_option linter.unusedSimpArgs false
namespace Go.Proofs.Ytfjljllkofcmbaa.Pure
open Go.RowKit Go.Proofs.Ytfjljllkofcmbaa.PFnExactSameAnchors Go.Proofs.YtfjljllkofcmbaaW.PrintWords Go.Proofs.YtfjljllkofcmbaaW.PrintLast

theorem w64 {n : Int} (h1 : -9223372036854775808 ≤ n) (h2 : n ≤ 9223372036854775807) : wrap64 n = n := by unfold wrap64; omega
theorem maxLen_eq : maxLen = 9223372036854775807 := rfl
theorem szInt64S_eq (l : List Int) (a : Int) (h0 : 0 ≤ a) (h1 : a ≤ 1048576) (hl : l.length ≤ maxLen) : laws_szInt64S.f l a = some (if a - (l.length : Int) < 0 then -1 else a - (l.length : Int)) := by
  rw [maxLen_eq] at hl
  unfold laws_szInt64S.f
  rw [w64 (n := a - (l.length : Int)) (by omega) (by omega)]
  split <;> rfl
theorem szAnchor_eq (x : Bool) (y z : Int) (l : List Int) (a : Int) (h0 : 0 ≤ a) (h1 : a ≤ 1048576) (hl : l.length ≤ maxLen) : laws_szAnchor.f x y z l a = some (if a - (l.length : Int) < 0 then -1 else a - (l.length : Int)) := by
  unfold laws_szAnchor.f
  rw [szInt64S_eq l a h0 h1 hl]; simp only [Option.bind_some]
  by_cases c : a - (l.length : Int) < 0
  · rw [if_pos c]; rfl
  · rw [if_neg c, if_neg c]
theorem rd_append_right (P Q : List Int) (i : Int) (h : i = (P.length : Int)) (x : Int) (R : List Int) (hQ : Q = x :: R) : rd (P ++ Q) i = x := by
  subst hQ; unfold rd; rw [h, Int.toNat_natCast, List.getD_eq_getElem?_getD, List.getElem?_append_right (Nat.le_refl _)]; simp
theorem rd_get (l : List Int) (i : Int) (h0 : 0 ≤ i) (h1 : i < (l.length : Int)) : rd l i = l[i.toNat]'(by omega) := by
  unfold rd; rw [List.getD_eq_getElem?_getD, List.getElem?_eq_getElem (by omega)]; rfl
theorem toInt64S_l0 (l : List Int) (hl : l.length ≤ 1000000000000) : ∀ (rest pre : List Int) (i : Int) (k : Nat) (z : List Int), l = pre ++ rest → (pre.length : Int) = i → rest.length < k → z.length = rest.length →
    laws_toInt64S.l0 k l (pre ++ z) i = some l := by
  intro rest
  induction rest with
  | nil =>
    intro pre i k z hl2 hi hk hz
    obtain ⟨k, rfl⟩ : ∃ m, k = m + 1 := ⟨k - 1, by omega⟩
    have : z = [] := List.eq_nil_of_length_eq_zero hz
    subst this
    simp only [laws_toInt64S.l0]
    rw [if_neg (by rw [hl2]; simp; omega), hl2]
  | cons x rest ih =>
    intro pre i k z hl2 hi hk hz
    obtain ⟨k, rfl⟩ : ∃ m, k = m + 1 := ⟨k - 1, by omega⟩
    obtain ⟨y, z, rfl⟩ : ∃ y z', z = y :: z' := by cases z with | nil => simp at hz | cons y z => exact ⟨y, z, rfl⟩
    simp only [List.length_cons] at hk hz
    have hlen : l.length = pre.length + (rest.length + 1) := by rw [hl2]; simp
    simp only [laws_toInt64S.l0]
    have hr : rd l i = x := by rw [hl2]; exact rd_append_right pre (x :: rest) i hi.symm x rest rfl
    rw [if_pos (by omega), if_pos (by omega), if_pos (by simp; omega), hr, w64 (n := i + 1) (by omega) (by omega)]
    have e : (pre ++ y :: z).set i.toNat x = (pre ++ [x]) ++ z := by
      have hn : i.toNat = pre.length := by omega
      rw [hn, List.set_append_right _ _ (Nat.le_refl _)]; simp
    rw [e]
    exact ih (pre ++ [x]) (i + 1) k z (by rw [hl2]; simp) (by simp; omega) (by omega) (by omega)
theorem toInt64S_eq (l : List Int) (hl : l.length ≤ 1000000000) (k : Nat) (hk : l.length < k) : laws_toInt64S.f k l = some l := by
  unfold laws_toInt64S.f
  rw [if_pos (by omega), if_pos (by omega)]
  have := toInt64S_l0 l (by omega) l [] 0 k (List.replicate ((l.length : Int)).toNat 0) rfl rfl hk (by simp)
  simpa using this
theorem toAnchor_eq (x : Bool) (y z : Int) (l : List Int) (hl : l.length ≤ 1048576) (k : Nat) (hk : l.length < k) : laws_toAnchor.f k x y z l = some (x, y, z, l) := by
  unfold laws_toAnchor.f; rw [toInt64S_eq l (by omega) k hk]; rfl
theorem eqInt64S_l0 (l : List Int) (hl : l.length ≤ 1000000000000) : ∀ (d k : Nat) (i : Int), (l.length : Int) - i = d → 0 ≤ i → d < k → laws_eqInt64S.l0 k l l i = some true := by
  intro d
  induction d with
  | zero =>
    intro k i hd h0 hk
    obtain ⟨k, rfl⟩ : ∃ m, k = m + 1 := ⟨k - 1, by omega⟩
    simp only [laws_eqInt64S.l0]; rw [if_neg (by omega)]
  | succ d ih =>
    intro k i hd h0 hk
    obtain ⟨k, rfl⟩ : ∃ m, k = m + 1 := ⟨k - 1, by omega⟩
    simp only [laws_eqInt64S.l0]
    rw [if_pos (by omega), if_pos h0, if_pos (by omega), if_pos True.intro, w64 (by omega) (by omega)]
    exact ih k (i + 1) (by omega) (by omega) (by omega)
theorem eqInt64S_self (l : List Int) (hl : l.length ≤ 1000000000000) (k : Nat) (hk : l.length < k) : laws_eqInt64S.f k l l = some true := by
  unfold laws_eqInt64S.f; rw [if_pos rfl]; exact eqInt64S_l0 l hl l.length k 0 (by omega) (by omega) hk
theorem eqAnchor_self (x : Bool) (y z : Int) (l : List Int) (hl : l.length ≤ 1048576) (k : Nat) (hk : l.length < k) : laws_eqAnchor.f k x y z l x y z l = some true := by
  unfold laws_eqAnchor.f
  rw [if_neg (by simp), if_pos rfl, if_pos rfl, eqInt64S_self l (by omega) k hk]; rfl
theorem l1Same_l0 : ∀ (a b pa pb : List Int) (i : Int) (k : Nat), a.length = b.length → (pa.length : Int) = i → (pb.length : Int) = i → a.length < k → pa.length + a.length ≤ 1000000000 → spec_l1Same.l0 k (pa ++ a) (pb ++ b) i = some (decide (a = b)) := by
  intro a
  induction a with
  | nil =>
    intro b pa pb i k hl h1 h2 hk hn
    obtain ⟨k, rfl⟩ : ∃ m, k = m + 1 := ⟨k - 1, by omega⟩
    have : b = [] := List.eq_nil_of_length_eq_zero (by simpa using hl.symm)
    subst this
    simp only [spec_l1Same.l0]
    rw [if_neg (by simp; omega)]; simp
  | cons x a ih =>
    intro b pa pb i k hl h1 h2 hk hn
    obtain ⟨k, rfl⟩ : ∃ m, k = m + 1 := ⟨k - 1, by omega⟩
    obtain ⟨y, b, rfl⟩ : ∃ y b', b = y :: b' := by cases b with | nil => simp at hl | cons y b => exact ⟨y, b, rfl⟩
    simp only [List.length_cons] at hl hk hn
    simp only [spec_l1Same.l0]
    rw [if_pos (by simp; omega), if_pos (by omega), if_pos (by simp; omega), rd_append_right pa (x :: a) i h1.symm x a rfl, rd_append_right pb (y :: b) i h2.symm y b rfl, w64 (n := i + 1) (by omega) (by omega)]
    by_cases c : x = y
    · rw [if_pos c]
      have e1 : pa ++ x :: a = (pa ++ [x]) ++ a := by simp
      have e2 : pb ++ y :: b = (pb ++ [y]) ++ b := by simp
      rw [e1, e2, ih b (pa ++ [x]) (pb ++ [y]) (i + 1) k (by omega) (by simp; omega) (by simp; omega) (by omega) (by simp; omega)]
      simp [c]
    · rw [if_neg c]; simp [c]
theorem l1Same_eq (a b : List Int) (k : Nat) (hk : a.length < k) (hl : a.length ≤ 1000000000) : spec_l1Same.f k a b = some (decide (a = b)) := by
  unfold spec_l1Same.f
  by_cases h : (a.length : Int) = (b.length : Int)
  · rw [if_pos h]
    have := l1Same_l0 a b [] [] 0 k (by omega) rfl rfl hk (by simpa using hl)
    simpa using this
  · rw [if_neg h]
    have : a ≠ b := fun e => h (by rw [e])
    simp [this]
theorem slicesEqual_l0 (A : List Int) : ∀ (a b pa pb : List Int) (i : Int) (k : Nat), A = pa ++ a → a.length = b.length → (pa.length : Int) = i → (pb.length : Int) = i → a.length < k → pa.length + a.length ≤ 1000000000 → slices_Equal_int64_int64.l0 k A (pb ++ b) (A.length : Int) i = some (decide (a = b)) := by
  intro a
  induction a with
  | nil =>
    intro b pa pb i k hA hl h1 h2 hk hn
    obtain ⟨k, rfl⟩ : ∃ m, k = m + 1 := ⟨k - 1, by omega⟩
    have : b = [] := List.eq_nil_of_length_eq_zero (by simpa using hl.symm)
    subst this
    simp only [slices_Equal_int64_int64.l0]
    rw [if_neg (by rw [hA]; simp; omega)]; simp
  | cons x a ih =>
    intro b pa pb i k hA hl h1 h2 hk hn
    obtain ⟨k, rfl⟩ : ∃ m, k = m + 1 := ⟨k - 1, by omega⟩
    obtain ⟨y, b, rfl⟩ : ∃ y b', b = y :: b' := by cases b with | nil => simp at hl | cons y b => exact ⟨y, b, rfl⟩
    simp only [List.length_cons] at hl hk hn
    have hAl : A.length = pa.length + (a.length + 1) := by rw [hA]; simp
    have hr : rd A i = x := by rw [hA]; exact rd_append_right pa (x :: a) i h1.symm x a rfl
    simp only [slices_Equal_int64_int64.l0]
    rw [if_pos (by omega), if_pos (by omega), if_pos (by omega), if_pos (by simp; omega), hr, rd_append_right pb (y :: b) i h2.symm y b rfl, w64 (n := i + 1) (by omega) (by omega)]
    by_cases c : x = y
    · rw [if_pos c]
      have e2 : pb ++ y :: b = (pb ++ [y]) ++ b := by simp
      rw [e2, ih b (pa ++ [x]) (pb ++ [y]) (i + 1) k (by rw [hA]; simp) (by omega) (by simp; omega) (by simp; omega) (by omega) (by simp; omega)]
      simp [c]
    · rw [if_neg c]; simp [c]
theorem slicesEqual_eq (a b : List Int) (k : Nat) (hk : a.length < k) (hl : a.length ≤ 1000000000) : slices_Equal_int64_int64.f k a b = some (decide (a = b)) := by
  unfold slices_Equal_int64_int64.f
  by_cases h : (a.length : Int) = (b.length : Int)
  · rw [if_pos h]
    have := slicesEqual_l0 a a b [] [] 0 k rfl (by omega) rfl rfl hk (by simpa using hl)
    simpa using this
  · rw [if_neg h]
    have : a ≠ b := fun e => h (by rw [e])
    simp [this]
theorem FnExactSameAnchors : laws_FnExactSameAnchors.Pure := by
  intro x y z l x' y' z' l' _ _ hl _ _ _ hl' _
  refine ⟨1100000, ?_⟩
  unfold laws_FnExactSameAnchors.f
  rw [szAnchor_eq x y z l 1048576 (by omega) (by omega) hl]
  simp only [Option.bind_some]
  by_cases c : 1048576 - (l.length : Int) < 0
  · rw [if_pos c, if_pos (by omega)]
  rw [if_neg c, if_neg (by omega), szAnchor_eq x' y' z' l' _ (by omega) (by omega) hl']
  simp only [Option.bind_some]
  by_cases c' : 1048576 - (l.length : Int) - (l'.length : Int) < 0
  · rw [if_pos c', if_pos (by omega)]
  rw [if_neg c', if_neg (by omega), toAnchor_eq x y z l (by omega) 1100000 (by omega), toAnchor_eq x' y' z' l' (by omega) 1100000 (by omega)]
  simp only [Option.bind_some]
  have e1 : spec_SameAnchors.f 1100000 x y z l x' y' z' l' = impl_SameAnchors.f 1100000 x y z l x' y' z' l' := by
    unfold spec_SameAnchors.f impl_SameAnchors.f
    rw [l1Same_eq l l' 1100000 (by omega) (by omega), slicesEqual_eq l l' 1100000 (by omega) (by omega)]
  obtain ⟨r, hr⟩ : ∃ r, impl_SameAnchors.f 1100000 x y z l x' y' z' l' = some r := by
    unfold impl_SameAnchors.f
    rw [slicesEqual_eq l l' 1100000 (by omega) (by omega)]
    repeat' split
    all_goals exact ⟨_, rfl⟩
  rw [e1, hr]
  simp only [Option.bind_some]
  rw [if_neg (by simp), eqAnchor_self x y z l (by omega) 1100000 (by omega), eqAnchor_self x' y' z' l' (by omega) 1100000 (by omega)]
  rfl

end Go.Proofs.Ytfjljllkofcmbaa.Pure
