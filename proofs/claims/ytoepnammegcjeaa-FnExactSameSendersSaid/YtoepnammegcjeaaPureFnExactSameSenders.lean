/- The program's SameSenders returns what the reference's returns, for all arguments. -/
import Derived.Test.YtoepnammegcjeaaPFnExactSameSendersx3
set_option linter.unusedVariables false
set_option linter.unusedSimpArgs false
namespace Go.Proofs.Ytoepnammegcjeaa.Pure
open Go.RowKit Go.Proofs.Ytoepnammegcjeaa.PFnExactSameSenders Go.Proofs.YtoepnammegcjeaaW.PrintWords Go.Proofs.YtoepnammegcjeaaW.PrintLast

theorem w64 {n : Int} (h1 : -9223372036854775808 ≤ n) (h2 : n ≤ 9223372036854775807) : wrap64 n = n := by unfold wrap64; omega
theorem maxLen_eq : maxLen = 9223372036854775807 := rfl
theorem szInt64S_eq (l : List Int) (a : Int) (h0 : 0 ≤ a) (h1 : a ≤ 1048576) (hl : l.length ≤ maxLen) : laws_szInt64S.f l a = some (if a - (l.length : Int) < 0 then -1 else a - (l.length : Int)) := by
  rw [maxLen_eq] at hl
  unfold laws_szInt64S.f
  rw [w64 (n := a - (l.length : Int)) (by omega) (by omega)]
  split <;> rfl
theorem szAnchor_eq (x : Bool) (y z : Int) (l : List Int) (a : Int) (h0 : 0 ≤ a) (h1 : a ≤ 1048576) (hl : l.length ≤ maxLen) : laws_szAnchor.f x y z l a = some (if a - (l.length : Int) < 0 then -1 else a - (l.length : Int)) := by
  unfold laws_szAnchor.f
  rw [szInt64S_eq l a h0 h1 hl]; simp only [Option.bind_some]
  by_cases c : a - (l.length : Int) < 0
  · rw [if_pos c]; rfl
  · rw [if_neg c, if_neg c]
theorem szSender_eq (a0 a1 a2 a3 a4 : Int) (l5 l6 : List Int) (x7 : Bool) (a8 a9 : Int) (l10 : List Int) (x11 : Bool) (a12 a13 : Int) (l14 : List Int) (a15 a16 a : Int) (h0 : 0 ≤ a) (h1 : a ≤ 1048576) (h5 : l5.length ≤ maxLen) (h6 : l6.length ≤ maxLen) (h10 : l10.length ≤ maxLen) (h14 : l14.length ≤ maxLen) :
    ∃ t, laws_szSender.f a0 a1 a2 a3 a4 l5 l6 x7 a8 a9 l10 x11 a12 a13 l14 a15 a16 a = some t ∧ (t < 0 ∨ (0 ≤ t ∧ t ≤ 1048576 ∧ l5.length ≤ 1048576 ∧ l6.length ≤ 1048576 ∧ l10.length ≤ 1048576 ∧ l14.length ≤ 1048576)) := by
  unfold laws_szSender.f laws_szLap.f
  rw [szInt64S_eq l5 a h0 h1 h5]; simp only [Option.bind_some]
  by_cases c1 : a - (l5.length : Int) < 0
  · exact ⟨-1, by simp [c1], Or.inl (by omega)⟩
  rw [if_neg c1, if_neg c1, szInt64S_eq l6 _ (by omega) (by omega) h6]; simp only [Option.bind_some]
  by_cases c2 : a - (l5.length : Int) - (l6.length : Int) < 0
  · exact ⟨-1, by simp [c2], Or.inl (by omega)⟩
  rw [if_neg c2, if_neg c2]; simp only [Option.bind_some]
  rw [if_neg c2, szAnchor_eq x7 a8 a9 l10 _ (by omega) (by omega) h10]; simp only [Option.bind_some]
  by_cases c3 : a - (l5.length : Int) - (l6.length : Int) - (l10.length : Int) < 0
  · exact ⟨-1, by simp [c3], Or.inl (by omega)⟩
  rw [if_neg c3, if_neg c3, szAnchor_eq x11 a12 a13 l14 _ (by omega) (by omega) h14]; simp only [Option.bind_some]
  by_cases c4 : a - (l5.length : Int) - (l6.length : Int) - (l10.length : Int) - (l14.length : Int) < 0
  · exact ⟨-1, by simp [c4], Or.inl (by omega)⟩
  exact ⟨_, by rw [if_neg c4, if_neg c4], Or.inr ⟨by omega, by omega, by omega, by omega, by omega, by omega⟩⟩
theorem rd_append_right (P Q : List Int) (i : Int) (h : i = (P.length : Int)) (x : Int) (R : List Int) (hQ : Q = x :: R) : rd (P ++ Q) i = x := by
  subst hQ; unfold rd; rw [h, Int.toNat_natCast, List.getD_eq_getElem?_getD, List.getElem?_append_right (Nat.le_refl _)]; simp
theorem rd_get (l : List Int) (i : Int) (h0 : 0 ≤ i) (h1 : i < (l.length : Int)) : rd l i = l[i.toNat]'(by omega) := by
  unfold rd; rw [List.getD_eq_getElem?_getD, List.getElem?_eq_getElem (by omega)]; rfl
theorem toInt64S_l0 (l : List Int) (hl : l.length ≤ 1000000000000) : ∀ (rest pre : List Int) (i : Int) (k : Nat) (z : List Int), l = pre ++ rest → (pre.length : Int) = i → rest.length < k → z.length = rest.length →
    laws_toInt64S.l0 k l (pre ++ z) i = some l := by
  intro rest
  induction rest with
  | nil =>
    intro pre i k z hl2 hi hk hz
    obtain ⟨k, rfl⟩ : ∃ m, k = m + 1 := ⟨k - 1, by omega⟩
    have : z = [] := List.eq_nil_of_length_eq_zero hz
    subst this
    simp only [laws_toInt64S.l0]
    rw [if_neg (by rw [hl2]; simp; omega), hl2]
  | cons x rest ih =>
    intro pre i k z hl2 hi hk hz
    obtain ⟨k, rfl⟩ : ∃ m, k = m + 1 := ⟨k - 1, by omega⟩
    obtain ⟨y, z, rfl⟩ : ∃ y z', z = y :: z' := by cases z with | nil => simp at hz | cons y z => exact ⟨y, z, rfl⟩
    simp only [List.length_cons] at hk hz
    have hlen : l.length = pre.length + (rest.length + 1) := by rw [hl2]; simp
    simp only [laws_toInt64S.l0]
    have hr : rd l i = x := by rw [hl2]; exact rd_append_right pre (x :: rest) i hi.symm x rest rfl
    rw [if_pos (by omega), if_pos (by omega), if_pos (by simp; omega), hr, w64 (n := i + 1) (by omega) (by omega)]
    have e : (pre ++ y :: z).set i.toNat x = (pre ++ [x]) ++ z := by
      have hn : i.toNat = pre.length := by omega
      rw [hn, List.set_append_right _ _ (Nat.le_refl _)]; simp
    rw [e]
    exact ih (pre ++ [x]) (i + 1) k z (by rw [hl2]; simp) (by simp; omega) (by omega) (by omega)
theorem toInt64S_eq (l : List Int) (hl : l.length ≤ 1000000000) (k : Nat) (hk : l.length < k) : laws_toInt64S.f k l = some l := by
  unfold laws_toInt64S.f
  rw [if_pos (by omega), if_pos (by omega)]
  have := toInt64S_l0 l (by omega) l [] 0 k (List.replicate ((l.length : Int)).toNat 0) rfl rfl hk (by simp)
  simpa using this
theorem toAnchor_eq (x : Bool) (y z : Int) (l : List Int) (hl : l.length ≤ 1048576) (k : Nat) (hk : l.length < k) : laws_toAnchor.f k x y z l = some (x, y, z, l) := by
  unfold laws_toAnchor.f; rw [toInt64S_eq l (by omega) k hk]; rfl
theorem toSender_eq (a0 a1 a2 a3 a4 : Int) (l5 l6 : List Int) (x7 : Bool) (a8 a9 : Int) (l10 : List Int) (x11 : Bool) (a12 a13 : Int) (l14 : List Int) (a15 a16 : Int) (k : Nat) (hk : 1100000 ≤ k) (h5 : l5.length ≤ 1048576) (h6 : l6.length ≤ 1048576) (h10 : l10.length ≤ 1048576) (h14 : l14.length ≤ 1048576) :
    laws_toSender.f k a0 a1 a2 a3 a4 l5 l6 x7 a8 a9 l10 x11 a12 a13 l14 a15 a16 = some (a0, a1, a2, a3, a4, l5, l6, x7, a8, a9, l10, x11, a12, a13, l14, a15, a16) := by
  unfold laws_toSender.f laws_toLap.f
  rw [toInt64S_eq l5 (by omega) k (by omega), toInt64S_eq l6 (by omega) k (by omega), toAnchor_eq x7 a8 a9 l10 h10 k (by omega), toAnchor_eq x11 a12 a13 l14 h14 k (by omega)]; rfl
theorem eqInt64S_l0 (l : List Int) (hl : l.length ≤ 1000000000000) : ∀ (d k : Nat) (i : Int), (l.length : Int) - i = d → 0 ≤ i → d < k → laws_eqInt64S.l0 k l l i = some true := by
  intro d
  induction d with
  | zero =>
    intro k i hd h0 hk
    obtain ⟨k, rfl⟩ : ∃ m, k = m + 1 := ⟨k - 1, by omega⟩
    simp only [laws_eqInt64S.l0]; rw [if_neg (by omega)]
  | succ d ih =>
    intro k i hd h0 hk
    obtain ⟨k, rfl⟩ : ∃ m, k = m + 1 := ⟨k - 1, by omega⟩
    simp only [laws_eqInt64S.l0]
    rw [if_pos (by omega), if_pos h0, if_pos (by omega), if_pos True.intro, w64 (by omega) (by omega)]
    exact ih k (i + 1) (by omega) (by omega) (by omega)
theorem eqInt64S_self (l : List Int) (hl : l.length ≤ 1000000000000) (k : Nat) (hk : l.length < k) : laws_eqInt64S.f k l l = some true := by
  unfold laws_eqInt64S.f; rw [if_pos rfl]; exact eqInt64S_l0 l hl l.length k 0 (by omega) (by omega) hk
theorem eqAnchor_self (x : Bool) (y z : Int) (l : List Int) (hl : l.length ≤ 1048576) (k : Nat) (hk : l.length < k) : laws_eqAnchor.f k x y z l x y z l = some true := by
  unfold laws_eqAnchor.f
  rw [if_neg (by simp), if_pos rfl, if_pos rfl, eqInt64S_self l (by omega) k hk]; rfl
theorem eqSender_self (a0 a1 a2 a3 a4 : Int) (l5 l6 : List Int) (x7 : Bool) (a8 a9 : Int) (l10 : List Int) (x11 : Bool) (a12 a13 : Int) (l14 : List Int) (a15 a16 : Int) (k : Nat) (hk : 1100000 ≤ k) (h5 : l5.length ≤ 1048576) (h6 : l6.length ≤ 1048576) (h10 : l10.length ≤ 1048576) (h14 : l14.length ≤ 1048576) :
    laws_eqSender.f k a0 a1 a2 a3 a4 l5 l6 x7 a8 a9 l10 x11 a12 a13 l14 a15 a16 a0 a1 a2 a3 a4 l5 l6 x7 a8 a9 l10 x11 a12 a13 l14 a15 a16 = some true := by
  unfold laws_eqSender.f laws_eqLap.f
  rw [eqInt64S_self l5 (by omega) k (by omega), eqInt64S_self l6 (by omega) k (by omega), eqAnchor_self x7 a8 a9 l10 h10 k (by omega), eqAnchor_self x11 a12 a13 l14 h14 k (by omega)]; simp
theorem l1Same_l0 : ∀ (a b pa pb : List Int) (i : Int) (k : Nat), a.length = b.length → (pa.length : Int) = i → (pb.length : Int) = i → a.length < k → pa.length + a.length ≤ 1000000000 → spec_l1Same.l0 k (pa ++ a) (pb ++ b) i = some (decide (a = b)) := by
  intro a
  induction a with
  | nil =>
    intro b pa pb i k hl h1 h2 hk hn
    obtain ⟨k, rfl⟩ : ∃ m, k = m + 1 := ⟨k - 1, by omega⟩
    have : b = [] := List.eq_nil_of_length_eq_zero (by simpa using hl.symm)
    subst this
    simp only [spec_l1Same.l0]
    rw [if_neg (by simp; omega)]; simp
  | cons x a ih =>
    intro b pa pb i k hl h1 h2 hk hn
    obtain ⟨k, rfl⟩ : ∃ m, k = m + 1 := ⟨k - 1, by omega⟩
    obtain ⟨y, b, rfl⟩ : ∃ y b', b = y :: b' := by cases b with | nil => simp at hl | cons y b => exact ⟨y, b, rfl⟩
    simp only [List.length_cons] at hl hk hn
    simp only [spec_l1Same.l0]
    rw [if_pos (by simp; omega), if_pos (by omega), if_pos (by simp; omega), rd_append_right pa (x :: a) i h1.symm x a rfl, rd_append_right pb (y :: b) i h2.symm y b rfl, w64 (n := i + 1) (by omega) (by omega)]
    by_cases c : x = y
    · rw [if_pos c]
      have e1 : pa ++ x :: a = (pa ++ [x]) ++ a := by simp
      have e2 : pb ++ y :: b = (pb ++ [y]) ++ b := by simp
      rw [e1, e2, ih b (pa ++ [x]) (pb ++ [y]) (i + 1) k (by omega) (by simp; omega) (by simp; omega) (by omega) (by simp; omega)]
      simp [c]
    · rw [if_neg c]; simp [c]
theorem l1Same_eq (a b : List Int) (k : Nat) (hk : a.length < k) (hl : a.length ≤ 1000000000) : spec_l1Same.f k a b = some (decide (a = b)) := by
  unfold spec_l1Same.f
  by_cases h : (a.length : Int) = (b.length : Int)
  · rw [if_pos h]
    have := l1Same_l0 a b [] [] 0 k (by omega) rfl rfl hk (by simpa using hl)
    simpa using this
  · rw [if_neg h]
    have : a ≠ b := fun e => h (by rw [e])
    simp [this]
theorem slicesEqual_l0 (A : List Int) : ∀ (a b pa pb : List Int) (i : Int) (k : Nat), A = pa ++ a → a.length = b.length → (pa.length : Int) = i → (pb.length : Int) = i → a.length < k → pa.length + a.length ≤ 1000000000 → slices_Equal_int64_int64.l0 k A (pb ++ b) (A.length : Int) i = some (decide (a = b)) := by
  intro a
  induction a with
  | nil =>
    intro b pa pb i k hA hl h1 h2 hk hn
    obtain ⟨k, rfl⟩ : ∃ m, k = m + 1 := ⟨k - 1, by omega⟩
    have : b = [] := List.eq_nil_of_length_eq_zero (by simpa using hl.symm)
    subst this
    simp only [slices_Equal_int64_int64.l0]
    rw [if_neg (by rw [hA]; simp; omega)]; simp
  | cons x a ih =>
    intro b pa pb i k hA hl h1 h2 hk hn
    obtain ⟨k, rfl⟩ : ∃ m, k = m + 1 := ⟨k - 1, by omega⟩
    obtain ⟨y, b, rfl⟩ : ∃ y b', b = y :: b' := by cases b with | nil => simp at hl | cons y b => exact ⟨y, b, rfl⟩
    simp only [List.length_cons] at hl hk hn
    have hAl : A.length = pa.length + (a.length + 1) := by rw [hA]; simp
    have hr : rd A i = x := by rw [hA]; exact rd_append_right pa (x :: a) i h1.symm x a rfl
    simp only [slices_Equal_int64_int64.l0]
    rw [if_pos (by omega), if_pos (by omega), if_pos (by omega), if_pos (by simp; omega), hr, rd_append_right pb (y :: b) i h2.symm y b rfl, w64 (n := i + 1) (by omega) (by omega)]
    by_cases c : x = y
    · rw [if_pos c]
      have e2 : pb ++ y :: b = (pb ++ [y]) ++ b := by simp
      rw [e2, ih b (pa ++ [x]) (pb ++ [y]) (i + 1) k (by rw [hA]; simp) (by omega) (by simp; omega) (by simp; omega) (by omega) (by simp; omega)]
      simp [c]
    · rw [if_neg c]; simp [c]
theorem slicesEqual_eq (a b : List Int) (k : Nat) (hk : a.length < k) (hl : a.length ≤ 1000000000) : slices_Equal_int64_int64.f k a b = some (decide (a = b)) := by
  unfold slices_Equal_int64_int64.f
  by_cases h : (a.length : Int) = (b.length : Int)
  · rw [if_pos h]
    have := slicesEqual_l0 a a b [] [] 0 k rfl (by omega) rfl rfl hk (by simpa using hl)
    simpa using this
  · rw [if_neg h]
    have : a ≠ b := fun e => h (by rw [e])
    simp [this]
theorem sameSenders (a0 a1 a2 a3 a4 : Int) (l5 l6 : List Int) (x7 : Bool) (a8 a9 : Int) (l10 : List Int) (x11 : Bool) (a12 a13 : Int) (l14 : List Int) (a15 a16 : Int) (b0 b1 b2 b3 b4 : Int) (m5 m6 : List Int) (y7 : Bool) (b8 b9 : Int) (m10 : List Int) (y11 : Bool) (b12 b13 : Int) (m14 : List Int) (b15 b16 : Int) (k : Nat) (hk : 1100000 ≤ k) (h5 : l5.length ≤ 1048576) (h6 : l6.length ≤ 1048576) (h10 : l10.length ≤ 1048576) (h14 : l14.length ≤ 1048576) :
    ∃ r, impl_SameSenders.f k a0 a1 a2 a3 a4 l5 l6 x7 a8 a9 l10 x11 a12 a13 l14 a15 a16 b0 b1 b2 b3 b4 m5 m6 y7 b8 b9 m10 y11 b12 b13 m14 b15 b16 = some r ∧ spec_SameSenders.f k a0 a1 a2 a3 a4 l5 l6 x7 a8 a9 l10 x11 a12 a13 l14 a15 a16 b0 b1 b2 b3 b4 m5 m6 y7 b8 b9 m10 y11 b12 b13 m14 b15 b16 = some r := by
  have e : spec_SameSenders.f k a0 a1 a2 a3 a4 l5 l6 x7 a8 a9 l10 x11 a12 a13 l14 a15 a16 b0 b1 b2 b3 b4 m5 m6 y7 b8 b9 m10 y11 b12 b13 m14 b15 b16 = impl_SameSenders.f k a0 a1 a2 a3 a4 l5 l6 x7 a8 a9 l10 x11 a12 a13 l14 a15 a16 b0 b1 b2 b3 b4 m5 m6 y7 b8 b9 m10 y11 b12 b13 m14 b15 b16 := by
    unfold spec_SameSenders.f impl_SameSenders.f spec_SameLaps.f impl_SameLaps.f spec_SameAnchors.f impl_SameAnchors.f
    rw [l1Same_eq l5 m5 k (by omega) (by omega), slicesEqual_eq l5 m5 k (by omega) (by omega), l1Same_eq l6 m6 k (by omega) (by omega), slicesEqual_eq l6 m6 k (by omega) (by omega), l1Same_eq l10 m10 k (by omega) (by omega), slicesEqual_eq l10 m10 k (by omega) (by omega), l1Same_eq l14 m14 k (by omega) (by omega), slicesEqual_eq l14 m14 k (by omega) (by omega)]
  obtain ⟨r, hr⟩ : ∃ r, impl_SameSenders.f k a0 a1 a2 a3 a4 l5 l6 x7 a8 a9 l10 x11 a12 a13 l14 a15 a16 b0 b1 b2 b3 b4 m5 m6 y7 b8 b9 m10 y11 b12 b13 m14 b15 b16 = some r := by
    obtain ⟨r1, e1⟩ : ∃ r, impl_SameLaps.f k a4 l5 l6 b4 m5 m6 = some r := by
      unfold impl_SameLaps.f
      rw [slicesEqual_eq l5 m5 k (by omega) (by omega), slicesEqual_eq l6 m6 k (by omega) (by omega)]
      simp only [Option.bind_some]
      repeat' split
      all_goals exact ⟨_, rfl⟩
    have an : ∀ (x : Bool) (y z : Int) (l : List Int) (x' : Bool) (y' z' : Int) (l' : List Int), l.length ≤ 1048576 → ∃ r, impl_SameAnchors.f k x y z l x' y' z' l' = some r := by
      intro x y z l x' y' z' l' hl
      unfold impl_SameAnchors.f
      rw [slicesEqual_eq l l' k (by omega) (by omega)]
      simp only [Option.bind_some]
      repeat' split
      all_goals exact ⟨_, rfl⟩
    obtain ⟨r2, e2⟩ := an x7 a8 a9 l10 y7 b8 b9 m10 h10
    obtain ⟨r3, e3⟩ := an x11 a12 a13 l14 y11 b12 b13 m14 h14
    unfold impl_SameSenders.f
    rw [e1, e2, e3]
    simp only [Option.bind_some]
    by_cases d0 : a0 = b0
    · rw [if_pos d0]
      by_cases d1 : a1 = b1
      · rw [if_pos d1]
        by_cases d2 : a2 = b2
        · rw [if_pos d2]
          by_cases d3 : a3 = b3
          · rw [if_pos d3]
            cases r1 <;> cases r2 <;> cases r3 <;> (by_cases d4 : a15 = b15) <;> simp [d4]
          · rw [if_neg d3]; exact ⟨_, rfl⟩
        · rw [if_neg d2]; exact ⟨_, rfl⟩
      · rw [if_neg d1]; exact ⟨_, rfl⟩
    · rw [if_neg d0]; exact ⟨_, rfl⟩
  exact ⟨r, hr, by rw [e, hr]⟩
theorem FnExactSameSenders : laws_FnExactSameSenders.Pure := by
  intro a0 a1 a2 a3 a4 l5 l6 x7 a8 a9 l10 x11 a12 a13 l14 a15 a16 b0 b1 b2 b3 b4 m5 m6 y7 b8 b9 m10 y11 b12 b13 m14 b15 b16
  intros
  refine ⟨1100000, ?_⟩
  unfold laws_FnExactSameSenders.f
  obtain ⟨t, ht, h⟩ := szSender_eq a0 a1 a2 a3 a4 l5 l6 x7 a8 a9 l10 x11 a12 a13 l14 a15 a16 1048576 (by omega) (by omega) (by assumption) (by assumption) (by assumption) (by assumption)
  rw [ht]; simp only [Option.bind_some]
  by_cases c : t < 0
  · rw [if_pos c]
  rcases h with h | ⟨g1, g2, h5, h6, h10, h14⟩
  · exact absurd h c
  rw [if_neg c]
  obtain ⟨u, hu, h'⟩ := szSender_eq b0 b1 b2 b3 b4 m5 m6 y7 b8 b9 m10 y11 b12 b13 m14 b15 b16 t g1 g2 (by assumption) (by assumption) (by assumption) (by assumption)
  rw [hu]; simp only [Option.bind_some]
  by_cases c' : u < 0
  · rw [if_pos c']
  rcases h' with h' | ⟨_, _, k5, k6, k10, k14⟩
  · exact absurd h' c'
  rw [if_neg c', toSender_eq a0 a1 a2 a3 a4 l5 l6 x7 a8 a9 l10 x11 a12 a13 l14 a15 a16 1100000 (by omega) h5 h6 h10 h14, toSender_eq b0 b1 b2 b3 b4 m5 m6 y7 b8 b9 m10 y11 b12 b13 m14 b15 b16 1100000 (by omega) k5 k6 k10 k14]
  simp only [Option.bind_some]
  obtain ⟨r, h1, h2⟩ := sameSenders a0 a1 a2 a3 a4 l5 l6 x7 a8 a9 l10 x11 a12 a13 l14 a15 a16 b0 b1 b2 b3 b4 m5 m6 y7 b8 b9 m10 y11 b12 b13 m14 b15 b16 1100000 (by omega) h5 h6 h10 h14
  rw [h2, h1]; simp only [Option.bind_some, if_true]
  rw [eqSender_self a0 a1 a2 a3 a4 l5 l6 x7 a8 a9 l10 x11 a12 a13 l14 a15 a16 1100000 (by omega) h5 h6 h10 h14]; simp only [Option.bind_some, if_true]
  rw [eqSender_self b0 b1 b2 b3 b4 m5 m6 y7 b8 b9 m10 y11 b12 b13 m14 b15 b16 1100000 (by omega) k5 k6 k10 k14]; simp

end Go.Proofs.Ytoepnammegcjeaa.Pure
