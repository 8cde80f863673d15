/- At the finest rung all indices are small enough, and at no finer rung, whatever arguments are drawn. -/
import Derived.Test.YtoepnammegcjeaaPFnFinestx4
set_option linter.unusedVariables false
set_option linter.unusedSimpArgs false
namespace Go.Proofs.Ytoepnammegcjeaa.Pure
open Go.RowKit Go.Proofs.Ytoepnammegcjeaa.PFnFinest Go.Proofs.YtoepnammegcjeaaW.PrintWords Go.Proofs.YtoepnammegcjeaaW.PrintLast

theorem w64 {n : Int} (h1 : -9223372036854775808 ≤ n) (h2 : n ≤ 9223372036854775807) : wrap64 n = n := by unfold wrap64; omega
theorem rd_mem (L : List Int) (i : Int) (h0 : 0 ≤ i) (h1 : i < (L.length : Int)) : rd L i ∈ L := by
  unfold rd
  rw [List.getD_eq_getElem?_getD, List.getElem?_eq_getElem (by omega)]
  exact List.getElem_mem _
/-- All of a list are bytes. -/
def Bytes8 (l : List Int) : Prop := ∀ x ∈ l, (Lit.int .u8 x).wf = true
theorem Bytes8.rdb {l : List Int} (h : Bytes8 l) (i : Int) : 0 ≤ rd l i ∧ rd l i ≤ 255 := by
  by_cases hi : i.toNat < l.length
  · have hm : rd l i ∈ l := by
      unfold rd
      rw [List.getD_eq_getElem?_getD, List.getElem?_eq_getElem hi]
      exact List.getElem_mem _
    have := h _ hm
    simp only [Lit.wf, Bool.and_eq_true, decide_eq_true_eq] at this
    have e1 : IntKind.u8.min = 0 := by decide
    have e2 : IntKind.u8.max = 255 := by decide
    rw [e1, e2] at this; exact this
  · unfold rd
    rw [List.getD_eq_getElem?_getD, List.getElem?_eq_none (by omega)]
    simp
theorem tmod_in (s m : Int) (hs : 0 ≤ s) (hm : 1 ≤ m) : 0 ≤ Int.tmod s m ∧ Int.tmod s m < m := by
  rw [Int.tmod_eq_emod_of_nonneg hs]
  exact ⟨Int.emod_nonneg s (by omega), Int.emod_lt_of_pos s (by omega)⟩
theorem next_ok {l : List Int} (hb : Bytes8 l) (s n : Int) (h0 : 0 ≤ s) (h1 : s ≤ 10000000) :
    ∃ v, spec_l1Next.f l s n = some (v, s + 1) ∧ 0 ≤ v ∧ (n < 1 → v = 0) ∧ (1 ≤ n → v < n) := by
  unfold spec_l1Next.f
  by_cases hn : n < 1
  · rw [if_pos hn, w64 (by omega) (by omega)]
    exact ⟨0, rfl, by omega, fun _ => rfl, fun h => by omega⟩
  rw [if_neg hn]
  have hn0 : ¬ n = 0 := by omega
  have e1 : wrap64 (s + 1) = s + 1 := w64 (by omega) (by omega)
  have e2 : wrap64 (s + 1 - 1) = s := by rw [w64 (by omega) (by omega)]; omega
  have e3 : wrap64 (s + 2) = s + 2 := w64 (by omega) (by omega)
  simp only [e1, e2, e3]
  by_cases hl : (l.length : Int) = 0
  · rw [if_pos hl, if_neg hn0]
    have := tmod_in (wrap64 (s * 7)) n (by rw [w64 (by omega) (by omega)]; omega) (by omega)
    exact ⟨_, rfl, this.1, fun h => by omega, fun _ => this.2⟩
  rw [if_neg hl]
  have hm : 1 ≤ (l.length : Int) := by omega
  have t0 := tmod_in s (l.length : Int) h0 hm
  have t1 := tmod_in (s + 1) (l.length : Int) (by omega) hm
  have t2 := tmod_in (s + 2) (l.length : Int) (by omega) hm
  rw [if_pos t0.1, if_pos t0.2]
  simp only [if_pos t1.1, if_pos t1.2, if_pos t2.1, if_pos t2.2, if_neg hn0]
  have r0 := hb.rdb (Int.tmod s (l.length : Int))
  have r1 := hb.rdb (Int.tmod (s + 1) (l.length : Int))
  have r2 := hb.rdb (Int.tmod (s + 2) (l.length : Int))
  have q : 0 ≤ Int.tdiv s (l.length : Int) ∧ Int.tdiv s (l.length : Int) ≤ s := by
    rw [Int.tdiv_eq_ediv_of_nonneg h0]
    exact ⟨Int.ediv_nonneg h0 (by omega), Int.ediv_le_self _ h0⟩
  generalize rd l (Int.tmod s (l.length : Int)) = b0 at *
  generalize rd l (Int.tmod (s + 1) (l.length : Int)) = b1 at *
  generalize rd l (Int.tmod (s + 2) (l.length : Int)) = b2 at *
  generalize Int.tdiv s (l.length : Int) = d at *
  have f0 : wrap64 b0 = b0 := w64 (by omega) (by omega)
  have f1 : wrap64 b1 = b1 := w64 (by omega) (by omega)
  have f2 : wrap64 b2 = b2 := w64 (by omega) (by omega)
  have f3 : wrap64 d = d := w64 (by omega) (by omega)
  have f4 : wrap64 (d * 37) = d * 37 := w64 (by omega) (by omega)
  have f5 : wrap64 (b0 + d * 37) = b0 + d * 37 := w64 (by omega) (by omega)
  have f6 : wrap64 ((b0 + d * 37) * 251) = (b0 + d * 37) * 251 := w64 (by omega) (by omega)
  have f7 : wrap64 (b1 * 13) = b1 * 13 := w64 (by omega) (by omega)
  have f8 : wrap64 ((b0 + d * 37) * 251 + b1 * 13) = (b0 + d * 37) * 251 + b1 * 13 := w64 (by omega) (by omega)
  have f9 : wrap64 ((b0 + d * 37) * 251 + b1 * 13 + s) = (b0 + d * 37) * 251 + b1 * 13 + s := w64 (by omega) (by omega)
  have f10 : wrap64 (((b0 + d * 37) * 251 + b1 * 13 + s) * 257) = ((b0 + d * 37) * 251 + b1 * 13 + s) * 257 := w64 (by omega) (by omega)
  have f11 : wrap64 ((b0 + d * 37) * 257) = (b0 + d * 37) * 257 := w64 (by omega) (by omega)
  simp only [f0, f1, f2, f3, f4, f5, f6, f7, f8, f9, f10, f11]
  have fin : ∀ X : Int, 0 ≤ X → ∃ v, (some (Int.tmod X n, s + 1) : Option (Int × Int)) = some (v, s + 1) ∧ 0 ≤ v ∧ (n < 1 → v = 0) ∧ (1 ≤ n → v < n) := fun X hX =>
    ⟨_, rfl, (tmod_in X n hX (by omega)).1, fun h => by omega, fun _ => (tmod_in X n hX (by omega)).2⟩
  by_cases c1 : n > 200
  · rw [if_pos c1]
    by_cases c2 : n > 60000
    · rw [if_pos c2]; exact fin _ (by rw [w64 (by omega) (by omega)]; omega)
    · rw [if_neg c2]; exact fin _ (by omega)
  · rw [if_neg c1, if_neg (by omega)]; exact fin _ (by omega)
theorem signed_ok {l : List Int} (hb : Bytes8 l) (s m : Int) (h0 : 0 ≤ s) (h1 : s ≤ 10000000) (hm0 : 0 ≤ m) (hm : m ≤ 1000000000) :
    ∃ v, spec_l1Signed.f l s m = some (v, s + 1) ∧ -m ≤ v ∧ v ≤ m := by
  unfold spec_l1Signed.f
  have e1 : wrap64 (2 * m) = 2 * m := w64 (by omega) (by omega)
  have e2 : wrap64 (2 * m + 1) = 2 * m + 1 := w64 (by omega) (by omega)
  simp only [e1, e2]
  obtain ⟨v, hv, hv0, _, hv1⟩ := next_ok hb s (2 * m + 1) h0 h1
  rw [hv]; simp only [Option.bind_some]
  have := hv1 (by omega)
  rw [w64 (by omega) (by omega)]
  exact ⟨_, rfl, by omega, by omega⟩

theorem pick_ok {l : List Int} (hb : Bytes8 l) (s : Int) (L : List Int) (h0 : 0 ≤ s) (h1 : s ≤ 10000000) (hL : 0 < L.length) :
    ∃ v, spec_l1Pick.f l s L = some (v, s + 1) ∧ v ∈ L := by
  unfold spec_l1Pick.f
  obtain ⟨v, hv, hv0, _, hv1⟩ := next_ok hb s (L.length : Int) h0 h1
  rw [hv]; simp only [Option.bind_some]
  have := hv1 (by omega)
  rw [if_pos hv0, if_pos this]
  exact ⟨_, rfl, rd_mem L v hv0 this⟩
theorem l9DrawCoef_ok {l : List Int} (hb : Bytes8 l) (s : Int) (h0 : 0 ≤ s) (h1 : s ≤ 9000000) : ∃ c, spec_l9DrawCoef.f l s = some (c, s + 4) ∧ -16777216 ≤ c ∧ c ≤ 16777216 := by
  unfold spec_l9DrawCoef.f
  obtain ⟨v, hv, v0, v1⟩ := signed_ok hb s 30 (by omega) (by omega) (by omega) (by omega)
  rw [hv]; simp only [Option.bind_some]
  obtain ⟨u, hu, u0, u1⟩ := signed_ok hb (s + 1) 3000 (by omega) (by omega) (by omega) (by omega)
  rw [hu]; simp only [Option.bind_some]
  obtain ⟨x, hx, x0, x1⟩ := signed_ok hb (s + 1 + 1) 200000 (by omega) (by omega) (by omega) (by omega)
  rw [hx]; simp only [Option.bind_some]
  obtain ⟨z, hz, hm⟩ := pick_ok hb (s + 1 + 1 + 1) [0, 1, -1, v, u, x, 16777216, -16777216] (by omega) (by omega) (by simp)
  rw [hz]; simp only [Option.bind_some]
  refine ⟨z, by rw [show s + 1 + 1 + 1 + 1 = s + 4 by omega], ?_⟩
  simp only [List.mem_cons, List.not_mem_nil, or_false] at hm
  omega
theorem chance_ok {l : List Int} (hb : Bytes8 l) (s n : Int) (h0 : 0 ≤ s) (h1 : s ≤ 10000000) : ∃ b, spec_l1Chance.f l s n = some (b, s + 1) := by
  unfold spec_l1Chance.f
  obtain ⟨v, hv, _⟩ := next_ok hb s n h0 h1
  rw [hv]; exact ⟨_, rfl⟩
theorem DrawFinestRung_l0 {l : List Int} (hb : Bytes8 l) : ∀ (n : Nat) (acc : List Int) (s : Int) (K : Nat), 0 ≤ s → s + 4 * n ≤ 100000 → acc.length + n ≤ 1000 → n + 1 ≤ K → ∃ L m, spec_DrawFinestRung.l0 K acc (n : Int) l s = some (L, m) := by
  intro n
  induction n with
  | zero =>
    intro acc s K h0 h1 ha hK
    obtain ⟨K, rfl⟩ : ∃ q, K = q + 1 := ⟨K - 1, by omega⟩
    simp only [spec_DrawFinestRung.l0]
    rw [if_neg (by omega)]
    by_cases c : (acc.length : Int) > 0
    · rw [if_pos c]
      obtain ⟨b, hc⟩ := chance_ok hb s 15 h0 (by omega)
      rw [hc]; simp only [Option.bind_some]
      obtain ⟨v, hv, _⟩ := pick_ok hb (s + 1) [0, 1, 7, 100, 30000, 65535, 65536, -1] (by omega) (by omega) (by simp)
      rw [hv]; simp only [Option.bind_some]
      by_cases cb : b = true
      · rw [if_pos cb, if_pos (by omega)]; exact ⟨_, _, rfl⟩
      · rw [if_neg cb]; exact ⟨_, _, rfl⟩
    · rw [if_neg c]
      obtain ⟨v, hv, _⟩ := pick_ok hb s [0, 1, 7, 100, 30000, 65535, 65536, -1] (by omega) (by omega) (by simp)
      rw [hv]; exact ⟨_, _, rfl⟩
  | succ n ih =>
    intro acc s K h0 h1 ha hK
    obtain ⟨K, rfl⟩ : ∃ q, K = q + 1 := ⟨K - 1, by omega⟩
    simp only [spec_DrawFinestRung.l0]
    obtain ⟨v, hv, _⟩ := l9DrawCoef_ok hb s h0 (by omega)
    rw [if_pos (by omega), hv]
    simp only [Option.bind_some]
    rw [if_pos (by omega), w64 (by omega) (by omega), show ((n + 1 : Nat) : Int) - 1 = (n : Int) by omega]
    exact ih _ _ K (by omega) (by omega) (by simp; omega) (by omega)
theorem DrawFinestRung_ok {l : List Int} (hb : Bytes8 l) (K : Nat) (hK : 100 ≤ K) : ∃ L m, spec_DrawFinestRung.f K l = some (L, m) := by
  unfold spec_DrawFinestRung.f spec_l1Source.f
  simp only [Option.bind_some]
  obtain ⟨v, hv, hm⟩ := pick_ok hb 0 [0, 1, 3, 8, 16, 64, 65] (by omega) (by omega) (by simp)
  rw [hv]; simp only [Option.bind_some]
  have hr : 0 ≤ v ∧ v ≤ 65 := by simp only [List.mem_cons, List.not_mem_nil, or_false] at hm; omega
  have := DrawFinestRung_l0 hb v.toNat [] (0 + 1) K (by omega) (by omega) (by simp; omega) (by omega)
  rw [Int.toNat_of_nonneg hr.1] at this
  exact this
theorem codeIf_eq (b : Bool) (c : Int) : impl_codeIf.f b c = some (if b = true then c else 0) := by unfold impl_codeIf.f; split <;> rfl
theorem idxP_any (p : Int → Option Bool) (q : Int → Bool) : ∀ (l : List Int) (i : Int), 0 ≤ i → (∀ x ∈ l, p x = some (q x)) → ∃ r, idxP p l i = some r ∧ decide (0 ≤ r) = l.any q
  | [], i, _, _ => ⟨-1, rfl, by simp⟩
  | x :: l, i, hi, h => by
    obtain ⟨r, hr, hq⟩ := idxP_any p q l (i + 1) (by omega) (fun y hy => h y (by simp [hy]))
    simp only [idxP]
    rw [h x (by simp)]
    simp only [Option.bind_some]
    cases hx : q x with
    | true => exact ⟨i, by simp, by simp [hx, hi]⟩
    | false => exact ⟨r, by simp [hr], by simp [hx, hq]⟩
theorem anyP_eq (p : Int → Option Bool) (q : Int → Bool) (l : List Int) (h : ∀ x ∈ l, p x = some (q x)) : anyP p l = some (l.any q) := by
  obtain ⟨r, hr, hq⟩ := idxP_any p q l 0 (by omega) h
  unfold anyP; rw [hr]; simp only [Option.bind_some]; rw [hq]
/-- All of a list lie between two bounds. -/
def allW (l : List Int) (a b : Int) : Bool := l.all fun x => decide (a ≤ x ∧ x ≤ b)
theorem allW_cons (x : Int) (l : List Int) (a b : Int) : allW (x :: l) a b = (decide (a ≤ x ∧ x ≤ b) && allW l a b) := by simp [allW]
theorem allW_mem {l : List Int} {a b : Int} (h : allW l a b = true) {x : Int} (hx : x ∈ l) : a ≤ x ∧ x ≤ b := by
  unfold allW at h; rw [List.all_eq_true] at h; simpa using h x hx
theorem allW_mk {l : List Int} {a b : Int} (h : ∀ x ∈ l, a ≤ x ∧ x ≤ b) : allW l a b = true := by
  unfold allW; rw [List.all_eq_true]; intro x hx; simpa using h x hx
theorem inRange_eq (a b c : Int) : impl_inRange.f a b c = some (decide (b ≤ a ∧ a ≤ c)) := by
  unfold impl_inRange.f
  by_cases h : b ≤ a
  · rw [if_pos h]; simp [h]
  · rw [if_neg h]; simp [h]
theorem within_eq (a b : Int) (h0 : 0 ≤ b) (h1 : b ≤ 9223372036854775807) : impl_within.f a b = some (decide (-b ≤ a ∧ a ≤ b)) := by
  unfold impl_within.f; rw [w64 (by omega) (by omega), inRange_eq]; rfl
theorem allWithin_eq (l : List Int) (m : Int) (h0 : 0 ≤ m) (h1 : m ≤ 9223372036854775807) : impl_allWithin.f l m = some (allW l (-m) m) := by
  unfold impl_allWithin.f
  rw [anyP_eq (notWithinP m) (fun x => !decide (-m ≤ x ∧ x ≤ m)) l (fun x _ => by unfold notWithinP; rw [within_eq x m h0 h1]; rfl)]
  simp only [Option.bind_some]
  congr 1
  unfold allW
  rw [List.any_eq_not_all_not]; simp
theorem rd_append_right (P Q : List Int) (i : Int) (h : i = (P.length : Int)) (x : Int) (R : List Int) (hQ : Q = x :: R) : rd (P ++ Q) i = x := by
  subst hQ; unfold rd; rw [h, Int.toNat_natCast, List.getD_eq_getElem?_getD, List.getElem?_append_right (Nat.le_refl _)]; simp
theorem rd_get (l : List Int) (i : Int) (h0 : 0 ≤ i) (h1 : i < (l.length : Int)) : rd l i = l[i.toNat]'(by omega) := by
  unfold rd; rw [List.getD_eq_getElem?_getD, List.getElem?_eq_getElem (by omega)]; rfl
/-- The first code that is not 0. -/
def fst0 : List Int → Int
  | [] => 0
  | x :: l => if x = 0 then fst0 l else x
theorem first_l0 (l : List Int) (hl : l.length ≤ 2000000) : ∀ (rest pre : List Int) (i : Int) (k : Nat), l = pre ++ rest → (pre.length : Int) = i → rest.length < k → impl_first.l0 k l (l.length : Int) i = some (fst0 rest) := by
  intro rest
  induction rest with
  | nil =>
    intro pre i k h1 hi hk
    obtain ⟨k, rfl⟩ : ∃ m, k = m + 1 := ⟨k - 1, by omega⟩
    simp only [impl_first.l0]
    rw [if_neg (by rw [h1]; simp; omega)]; rfl
  | cons x rest ih =>
    intro pre i k h1 hi hk
    obtain ⟨k, rfl⟩ : ∃ m, k = m + 1 := ⟨k - 1, by omega⟩
    simp only [List.length_cons] at hk
    have hlen : l.length = pre.length + (rest.length + 1) := by rw [h1]; simp
    simp only [impl_first.l0]
    have hr : rd l i = x := by rw [h1]; exact rd_append_right pre (x :: rest) i hi.symm x rest rfl
    rw [if_pos (by omega), if_pos (by omega), if_pos (by omega), hr, w64 (n := i + 1) (by omega) (by omega)]
    simp only [fst0]
    by_cases c : x = 0
    · rw [if_pos c, if_pos c]; exact ih (pre ++ [x]) (i + 1) k (by rw [h1]; simp) (by simp; omega) (by omega)
    · rw [if_neg c, if_neg c]
theorem first_eq (l : List Int) (hl : l.length ≤ 1000) (k : Nat) (hk : l.length < k) : impl_first.f k l = some (fst0 l) := by
  unfold impl_first.f; exact first_l0 l (by omega) l [] 0 k rfl rfl hk
theorem isRung_eq (a : Int) : impl_isRung.f a = some (decide (0 ≤ a ∧ a ≤ 47)) := by unfold impl_isRung.f; rw [inRange_eq]; rfl
/-- The step of a rung. -/
def stp (r : Int) : Int := if r ≤ 0 then 1 else if r % 2 = 1 then 2 ^ ((r + 1) / 2).toNat else 3 * 2 ^ (r / 2 - 1).toNat
theorem stp_pos (r : Int) (h0 : 0 ≤ r) (h1 : r ≤ 47) : 1 ≤ stp r ∧ stp r ≤ 16777216 := by
  have key : ∀ n : Nat, n < 48 → 1 ≤ stp (n : Int) ∧ stp (n : Int) ≤ 16777216 := by decide +kernel
  have := key r.toNat (by omega)
  rwa [Int.toNat_of_nonneg h0] at this
theorem stp_lt (r : Int) (h0 : 0 ≤ r) (h1 : r < 47) : stp r < stp (r + 1) := by
  have key : ∀ n : Nat, n < 47 → stp (n : Int) < stp ((n : Int) + 1) := by decide +kernel
  have := key r.toNat (by omega)
  rwa [Int.toNat_of_nonneg h0] at this
theorem stepOf_eq (r : Int) (h0 : 0 ≤ r) (h1 : r ≤ 47) : impl_stepOf.f r = some (stp r) := by
  have key : ∀ n : Nat, n < 48 → impl_stepOf.f (n : Int) = some (stp (n : Int)) := by decide +kernel
  have := key r.toNat (by omega)
  rwa [Int.toNat_of_nonneg h0] at this
/-- The integer nearest to a / b; of two, the one farther from 0. -/
def rdv (a b : Int) : Int := if a < 0 then -((2 * -a + b) / (2 * b)) else (2 * a + b) / (2 * b)
theorem rdq (a b : Int) (ha : 0 ≤ a) (hb : 1 ≤ b) : 0 ≤ (2 * a + b) / (2 * b) ∧ (2 * a + b) / (2 * b) ≤ a + 1 := by
  refine ⟨Int.ediv_nonneg (by omega) (by omega), ?_⟩
  have h : (2 * a + b) / (2 * b) < a + 2 := by
    apply Int.ediv_lt_of_lt_mul (by omega)
    have h2 : (a + 2) * (2 * b) = 2 * (a * b) + 4 * b := by rw [Int.add_mul]; rw [show a * (2 * b) = 2 * (a * b) by rw [← Int.mul_assoc, Int.mul_comm a 2, Int.mul_assoc]]; omega
    have h3 : a * 1 ≤ a * b := Int.mul_le_mul_of_nonneg_left hb ha
    omega
  omega
theorem rdv_bound (a b : Int) (hb : 1 ≤ b) : (a < 0 → a - 1 ≤ rdv a b ∧ rdv a b ≤ 0) ∧ (0 ≤ a → 0 ≤ rdv a b ∧ rdv a b ≤ a + 1) := by
  unfold rdv
  refine ⟨fun h => ?_, fun h => ?_⟩
  · rw [if_pos h]; have := rdq (-a) b (by omega) hb; omega
  · rw [if_neg (by omega)]; exact rdq a b h hb
theorem rdv_neg (a b : Int) (h : 0 < a) : rdv (-a) b = -rdv a b := by
  unfold rdv; rw [if_pos (by omega), if_neg (by omega), Int.neg_neg]
theorem roundDiv_eq (a b : Int) (h0 : -1000000000000000000 ≤ a) (h1 : a ≤ 1000000000000000000) (hb0 : 1 ≤ b) (hb1 : b ≤ 1000000000000000000) (k : Nat) (hk : 2 ≤ k) : impl_roundDiv.f k a b = some (rdv a b) := by
  have pos : ∀ (k : Nat) (a : Int), 0 ≤ a → a ≤ 1000000000000000000 → 1 ≤ k → impl_roundDiv.f k a b = some ((2 * a + b) / (2 * b)) := by
    intro k a ha ha1 hk
    obtain ⟨k, rfl⟩ : ∃ m, k = m + 1 := ⟨k - 1, by omega⟩
    unfold impl_roundDiv.f
    have hq := rdq a b ha hb0
    rw [if_neg (by omega), w64 (n := 2 * b) (by omega) (by omega), if_neg (by omega), w64 (n := 2 * a) (by omega) (by omega), w64 (n := 2 * a + b) (by omega) (by omega), Int.tdiv_eq_ediv_of_nonneg (by omega), w64 (by omega) (by omega)]
  obtain ⟨k, rfl⟩ : ∃ m, k = m + 1 := ⟨k - 1, by omega⟩
  unfold rdv
  by_cases ha : a < 0
  · unfold impl_roundDiv.f
    rw [if_pos ha, w64 (n := -a) (by omega) (by omega), pos k (-a) (by omega) (by omega) (by omega), if_pos ha]
    have hq := rdq (-a) b (by omega) hb0
    simp only [Option.bind_some]
    rw [w64 (by omega) (by omega)]
  · rw [if_neg ha]; exact pos _ a (by omega) h1 (by omega)
theorem abs_eq (x : Int) (h0 : -9223372036854775807 ≤ x) (h1 : x ≤ 9223372036854775807) : impl_abs.f x = some (x.natAbs : Int) := by
  unfold impl_abs.f mx; rw [w64 (by omega) (by omega)]; congr 1; split <;> omega
/-- Is no number of a list beyond most by a step. -/
def fits (l : List Int) (m s : Int) : Bool := l.all fun c => decide (((rdv c s).natAbs : Int) ≤ m)
theorem fits_cons (x : Int) (l : List Int) (m s : Int) : fits (x :: l) m s = (decide (((rdv x s).natAbs : Int) ≤ m) && fits l m s) := by simp [fits]
/-- The lowest rung from r on by which a list fits; so many are looked at. -/
def finR (l : List Int) (m : Int) : Nat → Int → Option Int
  | 0, _ => none
  | n + 1, r => if fits l m (stp r) = true then some r else finR l m n (r + 1)
theorem finR_range (l : List Int) (m : Int) : ∀ (n : Nat) (r q : Int), finR l m n r = some q → r ≤ q ∧ q < r + n ∧ fits l m (stp q) = true ∧ ∀ j, r ≤ j → j < q → fits l m (stp j) = false
  | 0, r, q, h => by simp [finR] at h
  | n + 1, r, q, h => by
    simp only [finR] at h
    by_cases c : fits l m (stp r) = true
    · rw [if_pos c] at h
      obtain rfl := Option.some.inj h
      exact ⟨Int.le_refl _, by omega, c, fun j h1 h2 => by omega⟩
    · rw [if_neg c] at h
      obtain ⟨h1, h2, h3, h4⟩ := finR_range l m n (r + 1) q h
      refine ⟨by omega, by omega, h3, fun j h5 h6 => ?_⟩
      by_cases e : j = r
      · subst e; simpa using c
      · exact h4 j (by omega) h6
theorem coef_bound {l : List Int} (h : allW l (-16777216) 16777216 = true) {x : Int} (hx : x ∈ l) : -16777216 ≤ x ∧ x ≤ 16777216 := allW_mem h hx
/-- What FinestRung answers. -/
def finestR (l : List Int) (m : Int) : Int × Int := if (l.length : Int) > 64 then (2, 0) else if allW l (-16777216) 16777216 = true ∧ (0 ≤ m ∧ m ≤ 65535) then (match finR l m 48 0 with | some r => (0, r) | none => (4, 0)) else (3, 0)
theorem FinestRung_l1 (l : List Int) (m r : Int) (hr : 0 ≤ r ∧ r ≤ 47) (hl : l.length ≤ 64) (hw : ∀ x ∈ l, -16777216 ≤ x ∧ x ≤ 16777216) (R : Int × Int) (K0 : Nat) : ∀ (rest pre : List Int) (i : Int) (b : Bool) (K : Nat), l = pre ++ rest → (pre.length : Int) = i → K0 + rest.length + 45 ≤ K →
    (if (b && fits rest m (stp r)) = true then R = (0, r) else impl_FinestRung.l0 K0 l m (r + 1) = some R) → impl_FinestRung.l1 K l m r b l (l.length : Int) i = some R := by
  have hs := stp_pos r hr.1 hr.2
  intro rest
  induction rest with
  | nil =>
    intro pre i b K h1 hi hK h
    obtain ⟨K, rfl⟩ : ∃ q, K = q + 1 := ⟨K - 1, by omega⟩
    simp only [impl_FinestRung.l1]
    rw [if_neg (by rw [h1]; simp; omega)]
    simp only [fits, List.all_nil, Bool.and_true] at h
    by_cases c : b = true
    · rw [if_pos c] at h ⊢; rw [h]
    · rw [if_neg c] at h ⊢
      rw [w64 (n := r + 1) (by omega) (by omega)]
      exact at_rounds (g := fun K => impl_FinestRung.l0 K _ _ _) (fun K => (impl_FinestRung.mono_l K).2.1 _ _ _) (show K0 ≤ K by omega) h
  | cons x rest ih =>
    intro pre i b K h1 hi hK h
    obtain ⟨K, rfl⟩ : ∃ q, K = q + 1 := ⟨K - 1, by omega⟩
    simp only [List.length_cons] at hK
    have hlen : l.length = pre.length + (rest.length + 1) := by rw [h1]; simp
    have hx := hw x (by rw [h1]; simp)
    have hr2 : rd l i = x := by rw [h1]; exact rd_append_right pre (x :: rest) i hi.symm x rest rfl
    have hbd := rdv_bound x (stp r) hs.1
    have hbd2 : -16777217 ≤ rdv x (stp r) ∧ rdv x (stp r) ≤ 16777217 := by
      by_cases c : x < 0
      · have := hbd.1 c; omega
      · have := hbd.2 (by omega); omega
    simp only [impl_FinestRung.l1]
    rw [if_pos (by omega), if_pos (by omega), if_pos (by omega), w64 (n := i + 1) (by omega) (by omega)]
    rw [fits_cons] at h
    have go := fun b' => ih (pre ++ [x]) (i + 1) b' K (by rw [h1]; simp) (by simp; omega) (by omega)
    by_cases c : b = true
    · rw [if_pos c, stepOf_eq r hr.1 hr.2]
      simp only [Option.bind_some]
      rw [hr2, roundDiv_eq x (stp r) (by omega) (by omega) (by omega) (by omega) K (by omega)]
      simp only [Option.bind_some]
      rw [abs_eq _ (by omega) (by omega)]
      simp only [Option.bind_some]
      exact go _ (by simpa [c] using h)
    · rw [if_neg c]
      exact go false (by simpa [c] using h)
theorem FinestRung_l0 (l : List Int) (m : Int) (hl : l.length ≤ 64) (hw : ∀ x ∈ l, -16777216 ≤ x ∧ x ≤ 16777216) : ∀ (n : Nat) (r : Int) (K : Nat), r + n = 48 → 0 ≤ r → 120 * n + 1 ≤ K → impl_FinestRung.l0 K l m r = some (match finR l m n r with | some q => (0, q) | none => (4, 0)) := by
  intro n
  induction n with
  | zero =>
    intro r K hr h0 hK
    obtain ⟨K, rfl⟩ : ∃ q, K = q + 1 := ⟨K - 1, by omega⟩
    simp only [impl_FinestRung.l0]
    rw [isRung_eq]; simp only [Option.bind_some, decide_eq_true_eq]
    rw [if_neg (by omega)]; rfl
  | succ n ih =>
    intro r K hr h0 hK
    obtain ⟨K, rfl⟩ : ∃ q, K = q + 1 := ⟨K - 1, by omega⟩
    simp only [impl_FinestRung.l0]
    rw [isRung_eq]; simp only [Option.bind_some, decide_eq_true_eq]
    rw [if_pos (by omega)]
    refine FinestRung_l1 l m r (by omega) hl hw _ (120 * n + 1) l [] 0 true K rfl rfl (by omega) ?_
    simp only [Bool.true_and, finR]
    by_cases c : fits l m (stp r) = true
    · rw [if_pos c, if_pos c]
    · rw [if_neg c, if_neg c]; exact ih (r + 1) (120 * n + 1) (by omega) (by omega) (Nat.le_refl _)
theorem FinestRung_eq (l : List Int) (m : Int) (K : Nat) (hK : 6000 ≤ K) : impl_FinestRung.f K l m = some (finestR l m) := by
  obtain ⟨K, rfl⟩ : ∃ q, K = q + 1 := ⟨K - 1, by omega⟩
  unfold impl_FinestRung.f finestR
  simp only [codeIf_eq, Option.bind_some, inRange_eq]
  rw [allWithin_eq l 16777216 (by omega) (by omega)]
  simp only [Option.bind_some]
  by_cases hb : (l.length : Int) > 64
  · rw [if_pos hb]
    by_cases hw : allW l (-16777216) 16777216 = true
    · rw [if_pos hw, first_eq _ (by simp) (K + 1) (by simp; omega)]
      simp only [decide_eq_true hb, if_true, Option.bind_some, fst0, impl_FinestRung.j0]
      rfl
    · rw [if_neg hw, first_eq _ (by simp) (K + 1) (by simp; omega)]
      simp only [decide_eq_true hb, if_true, Option.bind_some, fst0, impl_FinestRung.j0]
      rfl
  · rw [if_neg hb]
    have hb2 : (decide ((l.length : Int) > 64)) = false := decide_eq_false hb
    by_cases hw : allW l (-16777216) 16777216 = true
    · rw [if_pos hw, first_eq _ (by simp) (K + 1) (by simp; omega)]
      simp only [hb2, Bool.false_eq_true, if_false, Option.bind_some, fst0, if_true]
      by_cases hm : 0 ≤ m ∧ m ≤ 65535
      · rw [if_pos (show allW l (-16777216) 16777216 = true ∧ (0 ≤ m ∧ m ≤ 65535) from ⟨hw, hm⟩)]
        simp only [hm, and_self, decide_true, Bool.not_true, Bool.false_eq_true, if_false, if_true, impl_FinestRung.j0]
        exact FinestRung_l0 l m (by omega) (fun x hx => coef_bound hw hx) 48 0 K (by omega) (by omega) (by omega)
      · rw [if_neg (show ¬ (allW l (-16777216) 16777216 = true ∧ (0 ≤ m ∧ m ≤ 65535)) from fun h => hm h.2)]
        simp only [hm, decide_false, Bool.not_false, if_true, impl_FinestRung.j0]
        rfl
    · rw [if_neg hw, if_neg (show ¬ (allW l (-16777216) 16777216 = true ∧ (0 ≤ m ∧ m ≤ 65535)) from fun h => hw h.1), first_eq _ (by simp) (K + 1) (by simp; omega)]
      simp only [hb2, Bool.false_eq_true, if_false, Option.bind_some, fst0, if_true, impl_FinestRung.j0]
      rfl
theorem l1In_eq (a b c : Int) : spec_l1In.f a b c = some (decide (b ≤ a ∧ a ≤ c)) := by
  unfold spec_l1In.f
  by_cases h : a ≥ b
  · rw [if_pos h]; congr 1; have : b ≤ a := h; simp [this]
  · rw [if_neg h]; have : ¬ b ≤ a := h; simp [this]
theorem l1All_l0 (a b : Int) : ∀ (rest pre : List Int) (i : Int) (k : Nat), (pre.length : Int) = i → rest.length < k → pre.length + rest.length ≤ 1000000000 → spec_l1All.l0 k (pre ++ rest) a b i = some (allW rest a b) := by
  intro rest
  induction rest with
  | nil =>
    intro pre i k hi hk hl
    obtain ⟨k, rfl⟩ : ∃ m, k = m + 1 := ⟨k - 1, by omega⟩
    simp only [spec_l1All.l0]
    rw [if_neg (by simp; omega)]; rfl
  | cons x rest ih =>
    intro pre i k hi hk hl
    obtain ⟨k, rfl⟩ : ∃ m, k = m + 1 := ⟨k - 1, by omega⟩
    simp only [List.length_cons] at hk hl
    simp only [spec_l1All.l0]
    rw [if_pos (by simp; omega), if_pos (by omega), rd_append_right pre (x :: rest) i hi.symm x rest rfl, l1In_eq, w64 (n := i + 1) (by omega) (by omega)]
    have e : pre ++ x :: rest = (pre ++ [x]) ++ rest := by simp
    rw [e, ih (pre ++ [x]) (i + 1) k (by simp; omega) (by omega) (by simp; omega), allW_cons]
    by_cases c : a ≤ x ∧ x ≤ b <;> simp [c]
theorem l1All_eq (l : List Int) (a b : Int) (k : Nat) (hk : l.length < k) (hl : l.length ≤ 1000000000) : spec_l1All.f k l a b = some (allW l a b) := by
  unfold spec_l1All.f; have := l1All_l0 a b l [] 0 k rfl hk (by simpa using hl); simpa using this
theorem l9Step_eq (r : Int) (h0 : 0 ≤ r) (h1 : r ≤ 47) (k : Nat) (hk : 30 ≤ k) : spec_l9Step.f k r = some (stp r) := by
  have key : ∀ n : Nat, n < 48 → spec_l9Step.f 30 (n : Int) = some (stp (n : Int)) := by decide +kernel
  have := key r.toNat (by omega)
  rw [Int.toNat_of_nonneg h0] at this
  exact at_rounds (g := fun k => spec_l9Step.f k r) (spec_l9Step.mono r) hk this

theorem l1Round_eq (a b : Int) (h0 : -1000000000000000000 ≤ a) (h1 : a ≤ 1000000000000000000) (hb0 : 1 ≤ b) (hb1 : b ≤ 1000000000000000000) (k : Nat) (hk : 2 ≤ k) : spec_l1Round.f k a b = some (rdv a b) := by
  have pos : ∀ (k : Nat) (a : Int), 0 ≤ a → a ≤ 1000000000000000000 → 1 ≤ k → spec_l1Round.f k a b = some ((2 * a + b) / (2 * b)) := by
    intro k a ha ha1 hk
    obtain ⟨k, rfl⟩ : ∃ m, k = m + 1 := ⟨k - 1, by omega⟩
    unfold spec_l1Round.f
    have hq := rdq a b ha hb0
    rw [if_neg (by omega), w64 (n := 2 * b) (by omega) (by omega), if_neg (by omega), w64 (n := 2 * a) (by omega) (by omega), w64 (n := 2 * a + b) (by omega) (by omega), Int.tdiv_eq_ediv_of_nonneg (by omega), w64 (by omega) (by omega)]
  obtain ⟨k, rfl⟩ : ∃ m, k = m + 1 := ⟨k - 1, by omega⟩
  unfold rdv
  by_cases ha : a < 0
  · unfold spec_l1Round.f
    rw [if_pos ha, w64 (n := -a) (by omega) (by omega), pos k (-a) (by omega) (by omega) (by omega), if_pos ha]
    have hq := rdq (-a) b (by omega) hb0
    simp only [Option.bind_some]
    rw [w64 (by omega) (by omega)]
  · rw [if_neg ha]; exact pos _ a (by omega) h1 (by omega)
theorem l1Abs_eq (x : Int) (h0 : -9223372036854775807 ≤ x) (h1 : x ≤ 9223372036854775807) : spec_l1Abs.f x = some (x.natAbs : Int) := by
  unfold spec_l1Abs.f
  by_cases h : x < 0
  · rw [if_pos h, w64 (by omega) (by omega)]; congr 1; omega
  · rw [if_neg h]; congr 1; omega
theorem l9Finest_l1 (l : List Int) (m r : Int) (hr : 0 ≤ r ∧ r ≤ 47) (hl : l.length ≤ 64) (hw : ∀ x ∈ l, -16777216 ≤ x ∧ x ≤ 16777216) (R : Int) (K0 : Nat) : ∀ (rest pre : List Int) (i : Int) (b : Bool) (K : Nat), l = pre ++ rest → (pre.length : Int) = i → K0 + rest.length + 45 ≤ K →
    (if (b && fits rest m (stp r)) = true then R = r else spec_l9Finest.l0 K0 l m (r + 1) = some R) → spec_l9Finest.l1 K l m r b i = some R := by
  have hs := stp_pos r hr.1 hr.2
  intro rest
  induction rest with
  | nil =>
    intro pre i b K h1 hi hK h
    obtain ⟨K, rfl⟩ : ∃ q, K = q + 1 := ⟨K - 1, by omega⟩
    simp only [spec_l9Finest.l1]
    rw [if_neg (by rw [h1]; simp; omega)]
    simp only [fits, List.all_nil, Bool.and_true] at h
    by_cases c : b = true
    · rw [if_pos c] at h ⊢; rw [h]
    · rw [if_neg c] at h ⊢
      rw [w64 (n := r + 1) (by omega) (by omega)]
      exact at_rounds (g := fun K => spec_l9Finest.l0 K _ _ _) (fun K => (spec_l9Finest.mono_l K).1 _ _ _) (show K0 ≤ K by omega) h
  | cons x rest ih =>
    intro pre i b K h1 hi hK h
    obtain ⟨K, rfl⟩ : ∃ q, K = q + 1 := ⟨K - 1, by omega⟩
    simp only [List.length_cons] at hK
    have hlen : l.length = pre.length + (rest.length + 1) := by rw [h1]; simp
    have hx := hw x (by rw [h1]; simp)
    have hr2 : rd l i = x := by rw [h1]; exact rd_append_right pre (x :: rest) i hi.symm x rest rfl
    have hbd := rdv_bound x (stp r) hs.1
    have hbd2 : -16777217 ≤ rdv x (stp r) ∧ rdv x (stp r) ≤ 16777217 := by
      by_cases c : x < 0
      · have := hbd.1 c; omega
      · have := hbd.2 (by omega); omega
    simp only [spec_l9Finest.l1]
    rw [if_pos (by omega), if_pos (by omega), l9Step_eq r hr.1 hr.2 K (by omega)]
    simp only [Option.bind_some]
    rw [hr2, l1Round_eq x (stp r) (by omega) (by omega) (by omega) (by omega) K (by omega)]
    simp only [Option.bind_some]
    rw [l1Abs_eq _ (by omega) (by omega), w64 (n := i + 1) (by omega) (by omega)]
    simp only [Option.bind_some]
    rw [fits_cons] at h
    have go := fun b' => ih (pre ++ [x]) (i + 1) b' K (by rw [h1]; simp) (by simp; omega) (by omega)
    by_cases c : ((rdv x (stp r)).natAbs : Int) > m
    · rw [if_pos c]; exact go false (by simpa [show ¬ ((rdv x (stp r)).natAbs : Int) ≤ m by omega] using h)
    · rw [if_neg c]; exact go b (by simpa [show ((rdv x (stp r)).natAbs : Int) ≤ m by omega] using h)
theorem l9Finest_l0 (l : List Int) (m : Int) (hl : l.length ≤ 64) (hw : ∀ x ∈ l, -16777216 ≤ x ∧ x ≤ 16777216) : ∀ (n : Nat) (r : Int) (K : Nat), r + n = 48 → 0 ≤ r → 120 * n + 1 ≤ K → spec_l9Finest.l0 K l m r = some (match finR l m n r with | some q => q | none => -1) := by
  intro n
  induction n with
  | zero =>
    intro r K hr h0 hK
    obtain ⟨K, rfl⟩ : ∃ q, K = q + 1 := ⟨K - 1, by omega⟩
    simp only [spec_l9Finest.l0]
    rw [if_neg (by omega)]; rfl
  | succ n ih =>
    intro r K hr h0 hK
    obtain ⟨K, rfl⟩ : ∃ q, K = q + 1 := ⟨K - 1, by omega⟩
    simp only [spec_l9Finest.l0]
    rw [if_pos (by omega)]
    refine l9Finest_l1 l m r (by omega) hl hw _ (120 * n + 1) l [] 0 true K rfl rfl (by omega) ?_
    simp only [Bool.true_and, finR]
    by_cases c : fits l m (stp r) = true
    · rw [if_pos c, if_pos c]
    · rw [if_neg c, if_neg c]; exact ih (r + 1) (120 * n + 1) (by omega) (by omega) (Nat.le_refl _)
theorem l9Finest_eq (l : List Int) (m : Int) (hl : l.length ≤ 64) (hw : ∀ x ∈ l, -16777216 ≤ x ∧ x ≤ 16777216) (K : Nat) (hK : 5800 ≤ K) : spec_l9Finest.f K l m = some (match finR l m 48 0 with | some q => q | none => -1) := by
  unfold spec_l9Finest.f; exact l9Finest_l0 l m hl hw 48 0 K (by omega) (by omega) (by omega)
theorem specFinestRung_eq (l : List Int) (m : Int) (K : Nat) (hK : 6000 ≤ K) : spec_FinestRung.f K l m = some (finestR l m) := by
  obtain ⟨K, rfl⟩ : ∃ q, K = q + 1 := ⟨K - 1, by omega⟩
  unfold spec_FinestRung.f finestR
  by_cases hb : (l.length : Int) > 64
  · rw [if_pos hb, if_pos hb]
  · rw [if_neg hb, if_neg hb, l1All_eq l _ _ (K + 1) (by omega) (by omega)]
    simp only [Option.bind_some, l1In_eq]
    by_cases hw : allW l (-16777216) 16777216 = true
    · rw [if_pos hw]
      by_cases hm : 0 ≤ m ∧ m ≤ 65535
      · rw [if_pos (show allW l (-16777216) 16777216 = true ∧ (0 ≤ m ∧ m ≤ 65535) from ⟨hw, hm⟩)]
        simp only [hm, and_self, decide_true, Bool.not_true, Bool.false_eq_true, if_false, spec_FinestRung.j0]
        rw [l9Finest_eq l m (by omega) (fun x hx => coef_bound hw hx) K (by omega)]
        simp only [Option.bind_some]
        cases h : finR l m 48 0 with
        | none => simp
        | some q =>
          have := finR_range l m 48 0 q h
          simp only
          rw [if_neg (by omega)]
      · rw [if_neg (fun h => hm h.2)]
        simp only [hm, decide_false, Bool.not_false, if_true, spec_FinestRung.j0]
    · rw [if_neg hw, if_neg (fun h => hw h.1)]
      simp only [spec_FinestRung.j0, if_true]
theorem isCoef_eq (a : Int) : impl_isCoef.f a = some (decide (-16777216 ≤ a ∧ a ≤ 16777216)) := by unfold impl_isCoef.f; rw [within_eq _ _ (by decide) (by decide)]; rfl
/-- What Quantize answers. -/
def quantR (c r : Int) : Int × Int := if (0 ≤ r ∧ r ≤ 47) ∧ (-16777216 ≤ c ∧ c ≤ 16777216) then (0, rdv c (stp r)) else (3, 0)
theorem Quantize_eq (c r : Int) (k : Nat) (hk : 40 ≤ k) : impl_Quantize.f k c r = some (quantR c r) := by
  obtain ⟨k, rfl⟩ : ∃ m, k = m + 1 := ⟨k - 1, by omega⟩
  unfold impl_Quantize.f quantR
  simp only [isRung_eq, isCoef_eq, Option.bind_some, decide_eq_true_eq, impl_Quantize.j0]
  by_cases h1 : 0 ≤ r ∧ r ≤ 47
  · have hs := stp_pos r h1.1 h1.2
    by_cases h2 : -16777216 ≤ c ∧ c ≤ 16777216
    · simp [h1, h2, stepOf_eq r h1.1 h1.2, roundDiv_eq c (stp r) (by omega) (by omega) (by omega) (by omega) k (by omega)]
    · simp [h1, h2]
  · simp [h1]
theorem lwAbs_eq (x : Int) (h0 : -9223372036854775807 ≤ x) (h1 : x ≤ 9223372036854775807) : laws_lwAbs.f x = some (if x < 0 then -x else x) := by
  unfold laws_lwAbs.f
  by_cases h : x < 0
  · rw [if_pos h, if_pos h, w64 (by omega) (by omega)]
  · rw [if_neg h, if_neg h]
theorem lwBig_eq (l : List Int) : laws_lwBig.f l = some (decide ((l.length : Int) > 1048576)) := rfl
theorem Finest_l1 (l : List Int) (m r q : Int) (hr : 0 ≤ r ∧ r ≤ 47) (hl : l.length ≤ 64) (hw : ∀ x ∈ l, -16777216 ≤ x ∧ x ≤ 16777216) (R : Bool) (K0 : Nat) (c0 : Int) : ∀ (rest pre : List Int) (i : Int) (b : Bool) (K : Nat), l = pre ++ rest → (pre.length : Int) = i → K0 + rest.length + 50 ≤ K →
    ((b || !fits rest m (stp r)) = decide (r < q) ∧ laws_FnFinest.l0 K0 l m (r + 1) c0 q = some R) → laws_FnFinest.l1 K l m r b i c0 q = some R := by
  have hs := stp_pos r hr.1 hr.2
  intro rest
  induction rest with
  | nil =>
    intro pre i b K h1 hi hK h
    obtain ⟨K, rfl⟩ : ∃ q, K = q + 1 := ⟨K - 1, by omega⟩
    simp only [laws_FnFinest.l1]
    rw [if_neg (by rw [h1]; simp; omega)]
    simp only [fits, List.all_nil, Bool.not_true, Bool.or_false] at h
    rw [h.1, if_neg (by simp), w64 (n := r + 1) (by omega) (by omega)]
    exact at_rounds (g := fun K => laws_FnFinest.l0 K _ _ _ _ _) (fun K => (laws_FnFinest.mono_l K).1 _ _ _ _ _) (show K0 ≤ K by omega) h.2
  | cons x rest ih =>
    intro pre i b K h1 hi hK h
    obtain ⟨K, rfl⟩ : ∃ q, K = q + 1 := ⟨K - 1, by omega⟩
    simp only [List.length_cons] at hK
    have hlen : l.length = pre.length + (rest.length + 1) := by rw [h1]; simp
    have hx := hw x (by rw [h1]; simp)
    have hr2 : rd l i = x := by rw [h1]; exact rd_append_right pre (x :: rest) i hi.symm x rest rfl
    have hbd := rdv_bound x (stp r) hs.1
    have hbd2 : -16777217 ≤ rdv x (stp r) ∧ rdv x (stp r) ≤ 16777217 := by
      by_cases c : x < 0
      · have := hbd.1 c; omega
      · have := hbd.2 (by omega); omega
    simp only [laws_FnFinest.l1]
    rw [if_pos (by omega), w64 (n := i + 1) (by omega) (by omega)]
    rw [fits_cons] at h
    have go := fun b' => ih (pre ++ [x]) (i + 1) b' K (by rw [h1]; simp) (by simp; omega) (by omega)
    by_cases c : b = true
    · rw [if_pos c]; exact go true (by simpa [c] using h)
    · rw [if_neg c, if_pos (by omega), hr2, Quantize_eq x r K (by omega)]
      have e : quantR x r = (0, rdv x (stp r)) := by unfold quantR; rw [if_pos ⟨hr, hx⟩]
      rw [e]; simp only [Option.bind_some]
      rw [lwAbs_eq _ (by omega) (by omega)]
      simp only [Option.bind_some]
      refine go _ ?_
      have e2 : (decide ((if rdv x (stp r) < 0 then -rdv x (stp r) else rdv x (stp r)) > m)) = !decide (((rdv x (stp r)).natAbs : Int) ≤ m) := by
        have : (if rdv x (stp r) < 0 then -rdv x (stp r) else rdv x (stp r)) = ((rdv x (stp r)).natAbs : Int) := by split <;> omega
        rw [this]
        by_cases c2 : ((rdv x (stp r)).natAbs : Int) ≤ m
        · simp [c2] <;> omega
        · simp [c2] <;> omega
      rw [e2]
      refine ⟨?_, h.2⟩
      have h3 := h.1
      cases b with
      | true => exact absurd rfl c
      | false =>
        rw [← h3]
        cases decide (((rdv x (stp r)).natAbs : Int) ≤ m) <;> cases fits rest m (stp r) <;> rfl
theorem FnFinest : laws_FnFinest.Pure := by
  intro l hm hl hb
  refine ⟨12000, ?_⟩
  unfold laws_FnFinest.f
  rw [lwBig_eq]; simp only [Option.bind_some, decide_eq_true_eq]
  by_cases hbig : (l.length : Int) > 1048576
  · rw [if_pos hbig]
  rw [if_neg hbig]
  obtain ⟨L, m, hd⟩ := DrawFinestRung_ok hb 12000 (by omega)
  rw [hd]; simp only [Option.bind_some]
  rw [FinestRung_eq L m 12000 (by omega), specFinestRung_eq L m 12000 (by omega)]
  simp only [Option.bind_some, if_true]
  by_cases h0 : (finestR L m).1 = 0
  · rw [if_pos h0]
    unfold finestR at h0 ⊢
    by_cases hb : (L.length : Int) > 64
    · simp [hb] at h0
    · rw [if_neg hb] at h0 ⊢
      by_cases hc : allW L (-16777216) 16777216 = true ∧ (0 ≤ m ∧ m ≤ 65535)
      · rw [if_pos hc] at h0 ⊢
        cases hf : finR L m 48 0 with
        | none => rw [hf] at h0; simp at h0
        | some q =>
          simp only
          obtain ⟨q0, q1, q2, q3⟩ := finR_range L m 48 0 q hf
          have main : ∀ (n : Nat) (r : Int) (K : Nat), r + n = q + 1 → 0 ≤ r → 130 * n + 10 ≤ K → laws_FnFinest.l0 K L m r 0 q = some true := by
            intro n
            induction n with
            | zero =>
              intro r K hr hr0 hK
              obtain ⟨K, rfl⟩ : ∃ z, K = z + 2 := ⟨K - 2, by omega⟩
              simp only [laws_FnFinest.l0, laws_FnFinest.j1]
              rw [if_neg (by omega), if_neg (by simp), if_pos (by omega)]
              congr 1; rw [decide_eq_true_eq]; omega
            | succ n ih =>
              intro r K hr hr0 hK
              obtain ⟨K, rfl⟩ : ∃ z, K = z + 2 := ⟨K - 2, by omega⟩
              simp only [laws_FnFinest.l0, laws_FnFinest.j1]
              rw [if_pos (by omega), decide_eq_true (show r ≤ 47 by omega), if_pos rfl]
              refine Finest_l1 L m r q (by omega) (by omega) (fun x hx => coef_bound hc.1 hx) true (130 * n + 10) 0 L [] 0 false K rfl rfl (by omega) ⟨?_, ih (r + 1) (130 * n + 10) (by omega) (by omega) (Nat.le_refl _)⟩
              by_cases e : r = q
              · subst e; rw [q2]; simp
              · rw [q3 r hr0 (by omega)]; simp; omega
          exact main (q + 1).toNat 0 12000 (by omega) (by omega) (by omega)
      · rw [if_neg hc] at h0; simp at h0
  · rw [if_neg h0]

end Go.Proofs.Ytoepnammegcjeaa.Pure
