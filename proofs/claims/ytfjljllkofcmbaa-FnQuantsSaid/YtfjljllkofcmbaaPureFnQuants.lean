/- A quantised coefficient differs by at most half of the step, and steps are increasing, whatever arguments are drawn. -/
import Derived.Test.YtfjljllkofcmbaaPFnQuantsx3
set_option linter.unusedVariables false
set_option linter.unusedSimpArgs false
namespace Go.Proofs.Ytfjljllkofcmbaa.Pure
open Go.RowKit Go.Proofs.Ytfjljllkofcmbaa.PFnQuants Go.Proofs.YtfjljllkofcmbaaW.PrintWords Go.Proofs.YtfjljllkofcmbaaW.PrintLast

theorem w64 {n : Int} (h1 : -9223372036854775808 ≤ n) (h2 : n ≤ 9223372036854775807) : wrap64 n = n := by unfold wrap64; omega
theorem rd_mem (L : List Int) (i : Int) (h0 : 0 ≤ i) (h1 : i < (L.length : Int)) : rd L i ∈ L := by
  unfold rd
  rw [List.getD_eq_getElem?_getD, List.getElem?_eq_getElem (by omega)]
  exact List.getElem_mem _
/-- All of a list are bytes. -/
def Bytes8 (l : List Int) : Prop := ∀ x ∈ l, (Lit.int .u8 x).wf = true
theorem Bytes8.rdb {l : List Int} (h : Bytes8 l) (i : Int) : 0 ≤ rd l i ∧ rd l i ≤ 255 := by
  by_cases hi : i.toNat < l.length
  · have hm : rd l i ∈ l := by
      unfold rd
      rw [List.getD_eq_getElem?_getD, List.getElem?_eq_getElem hi]
      exact List.getElem_mem _
    have := h _ hm
    simp only [Lit.wf, Bool.and_eq_true, decide_eq_true_eq] at this
    have e1 : IntKind.u8.min = 0 := by decide
    have e2 : IntKind.u8.max = 255 := by decide
    rw [e1, e2] at this; exact this
  · unfold rd
    rw [List.getD_eq_getElem?_getD, List.getElem?_eq_none (by omega)]
    simp
theorem tmod_in (s m : Int) (hs : 0 ≤ s) (hm : 1 ≤ m) : 0 ≤ Int.tmod s m ∧ Int.tmod s m < m := by
  rw [Int.tmod_eq_emod_of_nonneg hs]
  exact ⟨Int.emod_nonneg s (by omega), Int.emod_lt_of_pos s (by omega)⟩
theorem next_ok {l : List Int} (hb : Bytes8 l) (s n : Int) (h0 : 0 ≤ s) (h1 : s ≤ 10000000) :
    ∃ v, spec_l1Next.f l s n = some (v, s + 1) ∧ 0 ≤ v ∧ (n < 1 → v = 0) ∧ (1 ≤ n → v < n) := by
  unfold spec_l1Next.f
  by_cases hn : n < 1
  · rw [if_pos hn, w64 (by omega) (by omega)]
    exact ⟨0, rfl, by omega, fun _ => rfl, fun h => by omega⟩
  rw [if_neg hn]
  have hn0 : ¬ n = 0 := by omega
  have e1 : wrap64 (s + 1) = s + 1 := w64 (by omega) (by omega)
  have e2 : wrap64 (s + 1 - 1) = s := by rw [w64 (by omega) (by omega)]; omega
  have e3 : wrap64 (s + 2) = s + 2 := w64 (by omega) (by omega)
  simp only [e1, e2, e3]
  by_cases hl : (l.length : Int) = 0
  · rw [if_pos hl, if_neg hn0]
    have := tmod_in (wrap64 (s * 7)) n (by rw [w64 (by omega) (by omega)]; omega) (by omega)
    exact ⟨_, rfl, this.1, fun h => by omega, fun _ => this.2⟩
  rw [if_neg hl]
  have hm : 1 ≤ (l.length : Int) := by omega
  have t0 := tmod_in s (l.length : Int) h0 hm
  have t1 := tmod_in (s + 1) (l.length : Int) (by omega) hm
  have t2 := tmod_in (s + 2) (l.length : Int) (by omega) hm
  rw [if_pos t0.1, if_pos t0.2]
  simp only [if_pos t1.1, if_pos t1.2, if_pos t2.1, if_pos t2.2, if_neg hn0]
  have r0 := hb.rdb (Int.tmod s (l.length : Int))
  have r1 := hb.rdb (Int.tmod (s + 1) (l.length : Int))
  have r2 := hb.rdb (Int.tmod (s + 2) (l.length : Int))
  have q : 0 ≤ Int.tdiv s (l.length : Int) ∧ Int.tdiv s (l.length : Int) ≤ s := by
    rw [Int.tdiv_eq_ediv_of_nonneg h0]
    exact ⟨Int.ediv_nonneg h0 (by omega), Int.ediv_le_self _ h0⟩
  generalize rd l (Int.tmod s (l.length : Int)) = b0 at *
  generalize rd l (Int.tmod (s + 1) (l.length : Int)) = b1 at *
  generalize rd l (Int.tmod (s + 2) (l.length : Int)) = b2 at *
  generalize Int.tdiv s (l.length : Int) = d at *
  have f0 : wrap64 b0 = b0 := w64 (by omega) (by omega)
  have f1 : wrap64 b1 = b1 := w64 (by omega) (by omega)
  have f2 : wrap64 b2 = b2 := w64 (by omega) (by omega)
  have f3 : wrap64 d = d := w64 (by omega) (by omega)
  have f4 : wrap64 (d * 37) = d * 37 := w64 (by omega) (by omega)
  have f5 : wrap64 (b0 + d * 37) = b0 + d * 37 := w64 (by omega) (by omega)
  have f6 : wrap64 ((b0 + d * 37) * 251) = (b0 + d * 37) * 251 := w64 (by omega) (by omega)
  have f7 : wrap64 (b1 * 13) = b1 * 13 := w64 (by omega) (by omega)
  have f8 : wrap64 ((b0 + d * 37) * 251 + b1 * 13) = (b0 + d * 37) * 251 + b1 * 13 := w64 (by omega) (by omega)
  have f9 : wrap64 ((b0 + d * 37) * 251 + b1 * 13 + s) = (b0 + d * 37) * 251 + b1 * 13 + s := w64 (by omega) (by omega)
  have f10 : wrap64 (((b0 + d * 37) * 251 + b1 * 13 + s) * 257) = ((b0 + d * 37) * 251 + b1 * 13 + s) * 257 := w64 (by omega) (by omega)
  have f11 : wrap64 ((b0 + d * 37) * 257) = (b0 + d * 37) * 257 := w64 (by omega) (by omega)
  simp only [f0, f1, f2, f3, f4, f5, f6, f7, f8, f9, f10, f11]
  have fin : ∀ X : Int, 0 ≤ X → ∃ v, (some (Int.tmod X n, s + 1) : Option (Int × Int)) = some (v, s + 1) ∧ 0 ≤ v ∧ (n < 1 → v = 0) ∧ (1 ≤ n → v < n) := fun X hX =>
    ⟨_, rfl, (tmod_in X n hX (by omega)).1, fun h => by omega, fun _ => (tmod_in X n hX (by omega)).2⟩
  by_cases c1 : n > 200
  · rw [if_pos c1]
    by_cases c2 : n > 60000
    · rw [if_pos c2]; exact fin _ (by rw [w64 (by omega) (by omega)]; omega)
    · rw [if_neg c2]; exact fin _ (by omega)
  · rw [if_neg c1, if_neg (by omega)]; exact fin _ (by omega)
theorem signed_ok {l : List Int} (hb : Bytes8 l) (s m : Int) (h0 : 0 ≤ s) (h1 : s ≤ 10000000) (hm0 : 0 ≤ m) (hm : m ≤ 1000000000) :
    ∃ v, spec_l1Signed.f l s m = some (v, s + 1) ∧ -m ≤ v ∧ v ≤ m := by
  unfold spec_l1Signed.f
  have e1 : wrap64 (2 * m) = 2 * m := w64 (by omega) (by omega)
  have e2 : wrap64 (2 * m + 1) = 2 * m + 1 := w64 (by omega) (by omega)
  simp only [e1, e2]
  obtain ⟨v, hv, hv0, _, hv1⟩ := next_ok hb s (2 * m + 1) h0 h1
  rw [hv]; simp only [Option.bind_some]
  have := hv1 (by omega)
  rw [w64 (by omega) (by omega)]
  exact ⟨_, rfl, by omega, by omega⟩

theorem pick_ok {l : List Int} (hb : Bytes8 l) (s : Int) (L : List Int) (h0 : 0 ≤ s) (h1 : s ≤ 10000000) (hL : 0 < L.length) :
    ∃ v, spec_l1Pick.f l s L = some (v, s + 1) ∧ v ∈ L := by
  unfold spec_l1Pick.f
  obtain ⟨v, hv, hv0, _, hv1⟩ := next_ok hb s (L.length : Int) h0 h1
  rw [hv]; simp only [Option.bind_some]
  have := hv1 (by omega)
  rw [if_pos hv0, if_pos this]
  exact ⟨_, rfl, rd_mem L v hv0 this⟩
theorem l9DrawCoef_ok {l : List Int} (hb : Bytes8 l) (s : Int) (h0 : 0 ≤ s) (h1 : s ≤ 9000000) : ∃ c, spec_l9DrawCoef.f l s = some (c, s + 4) ∧ -16777216 ≤ c ∧ c ≤ 16777216 := by
  unfold spec_l9DrawCoef.f
  obtain ⟨v, hv, v0, v1⟩ := signed_ok hb s 30 (by omega) (by omega) (by omega) (by omega)
  rw [hv]; simp only [Option.bind_some]
  obtain ⟨u, hu, u0, u1⟩ := signed_ok hb (s + 1) 3000 (by omega) (by omega) (by omega) (by omega)
  rw [hu]; simp only [Option.bind_some]
  obtain ⟨x, hx, x0, x1⟩ := signed_ok hb (s + 1 + 1) 200000 (by omega) (by omega) (by omega) (by omega)
  rw [hx]; simp only [Option.bind_some]
  obtain ⟨z, hz, hm⟩ := pick_ok hb (s + 1 + 1 + 1) [0, 1, -1, v, u, x, 16777216, -16777216] (by omega) (by omega) (by simp)
  rw [hz]; simp only [Option.bind_some]
  refine ⟨z, by rw [show s + 1 + 1 + 1 + 1 = s + 4 by omega], ?_⟩
  simp only [List.mem_cons, List.not_mem_nil, or_false] at hm
  omega
theorem l9DrawRung_ok {l : List Int} (hb : Bytes8 l) (s : Int) (h0 : 0 ≤ s) (h1 : s ≤ 9000000) : ∃ r, spec_l9DrawRung.f l s = some (r, s + 4) ∧ 0 ≤ r ∧ r ≤ 47 := by
  unfold spec_l9DrawRung.f
  obtain ⟨v, hv, v0, _, v1⟩ := next_ok hb s 48 (by omega) (by omega)
  rw [hv]; simp only [Option.bind_some]
  obtain ⟨u, hu, u0, _, u1⟩ := next_ok hb (s + 1) 20 (by omega) (by omega)
  rw [hu]; simp only [Option.bind_some]
  obtain ⟨x, hx, x0, _, x1⟩ := next_ok hb (s + 1 + 1) 20 (by omega) (by omega)
  rw [hx]; simp only [Option.bind_some]
  obtain ⟨z, hz, hm⟩ := pick_ok hb (s + 1 + 1 + 1) [0, 1, 2, 47, 46, v, u, x] (by omega) (by omega) (by simp)
  rw [hz]; simp only [Option.bind_some]
  have v1 := v1 (by omega)
  have u1 := u1 (by omega)
  have x1 := x1 (by omega)
  refine ⟨z, by rw [show s + 1 + 1 + 1 + 1 = s + 4 by omega], ?_⟩
  simp only [List.mem_cons, List.not_mem_nil, or_false] at hm
  omega
theorem DrawQuantize_ok {l : List Int} (hb : Bytes8 l) : ∃ c r, spec_DrawQuantize.f l = some (c, r) := by
  unfold spec_DrawQuantize.f spec_l1Source.f
  simp only [Option.bind_some]
  obtain ⟨a, ha, _⟩ := l9DrawCoef_ok hb 0 (by omega) (by omega)
  rw [ha]; simp only [Option.bind_some]
  obtain ⟨b, hb', _⟩ := l9DrawCoef_ok hb (0 + 4) (by omega) (by omega)
  rw [hb']; simp only [Option.bind_some]
  obtain ⟨c, hc, _⟩ := l9DrawCoef_ok hb (0 + 4 + 4) (by omega) (by omega)
  rw [hc]; simp only [Option.bind_some]
  obtain ⟨d, hd, _⟩ := pick_ok hb (0 + 4 + 4 + 4) [a, b, c, 16777217] (by omega) (by omega) (by simp)
  rw [hd]; simp only [Option.bind_some]
  obtain ⟨e, he, _⟩ := l9DrawRung_ok hb (0 + 4 + 4 + 4 + 1) (by omega) (by omega)
  rw [he]; simp only [Option.bind_some]
  obtain ⟨f, hf, _⟩ := l9DrawRung_ok hb (0 + 4 + 4 + 4 + 1 + 4) (by omega) (by omega)
  rw [hf]; simp only [Option.bind_some]
  obtain ⟨g, hg, _⟩ := l9DrawRung_ok hb (0 + 4 + 4 + 4 + 1 + 4 + 4) (by omega) (by omega)
  rw [hg]; simp only [Option.bind_some]
  obtain ⟨i, hi, _⟩ := pick_ok hb (0 + 4 + 4 + 4 + 1 + 4 + 4 + 4) [e, f, g, 48, -1] (by omega) (by omega) (by simp)
  rw [hi]; exact ⟨_, _, rfl⟩
theorem inRange_eq (a b c : Int) : impl_inRange.f a b c = some (decide (b ≤ a ∧ a ≤ c)) := by
  unfold impl_inRange.f
  by_cases h : b ≤ a
  · rw [if_pos h]; simp [h]
  · rw [if_neg h]; simp [h]
theorem isRung_eq (a : Int) : impl_isRung.f a = some (decide (0 ≤ a ∧ a ≤ 47)) := by unfold impl_isRung.f; rw [inRange_eq]; rfl
theorem within_eq (a b : Int) (h0 : 0 ≤ b) (h1 : b ≤ 9223372036854775807) : impl_within.f a b = some (decide (-b ≤ a ∧ a ≤ b)) := by
  unfold impl_within.f; rw [w64 (by omega) (by omega), inRange_eq]; rfl
theorem isCoef_eq (a : Int) : impl_isCoef.f a = some (decide (-16777216 ≤ a ∧ a ≤ 16777216)) := by unfold impl_isCoef.f; rw [within_eq _ _ (by decide) (by decide)]; rfl
/-- The step of a rung. -/
def stp (r : Int) : Int := if r ≤ 0 then 1 else if r % 2 = 1 then 2 ^ ((r + 1) / 2).toNat else 3 * 2 ^ (r / 2 - 1).toNat
theorem stp_pos (r : Int) (h0 : 0 ≤ r) (h1 : r ≤ 47) : 1 ≤ stp r ∧ stp r ≤ 16777216 := by
  have key : ∀ n : Nat, n < 48 → 1 ≤ stp (n : Int) ∧ stp (n : Int) ≤ 16777216 := by decide +kernel
  have := key r.toNat (by omega)
  rwa [Int.toNat_of_nonneg h0] at this
theorem stp_lt (r : Int) (h0 : 0 ≤ r) (h1 : r < 47) : stp r < stp (r + 1) := by
  have key : ∀ n : Nat, n < 47 → stp (n : Int) < stp ((n : Int) + 1) := by decide +kernel
  have := key r.toNat (by omega)
  rwa [Int.toNat_of_nonneg h0] at this
theorem stepOf_eq (r : Int) (h0 : 0 ≤ r) (h1 : r ≤ 47) : impl_stepOf.f r = some (stp r) := by
  have key : ∀ n : Nat, n < 48 → impl_stepOf.f (n : Int) = some (stp (n : Int)) := by decide +kernel
  have := key r.toNat (by omega)
  rwa [Int.toNat_of_nonneg h0] at this
/-- The integer nearest to a / b; of two, the one farther from 0. -/
def rdv (a b : Int) : Int := if a < 0 then -((2 * -a + b) / (2 * b)) else (2 * a + b) / (2 * b)
theorem rdq (a b : Int) (ha : 0 ≤ a) (hb : 1 ≤ b) : 0 ≤ (2 * a + b) / (2 * b) ∧ (2 * a + b) / (2 * b) ≤ a + 1 := by
  refine ⟨Int.ediv_nonneg (by omega) (by omega), ?_⟩
  have h : (2 * a + b) / (2 * b) < a + 2 := by
    apply Int.ediv_lt_of_lt_mul (by omega)
    have h2 : (a + 2) * (2 * b) = 2 * (a * b) + 4 * b := by rw [Int.add_mul]; rw [show a * (2 * b) = 2 * (a * b) by rw [← Int.mul_assoc, Int.mul_comm a 2, Int.mul_assoc]]; omega
    have h3 : a * 1 ≤ a * b := Int.mul_le_mul_of_nonneg_left hb ha
    omega
  omega
theorem rdv_bound (a b : Int) (hb : 1 ≤ b) : (a < 0 → a - 1 ≤ rdv a b ∧ rdv a b ≤ 0) ∧ (0 ≤ a → 0 ≤ rdv a b ∧ rdv a b ≤ a + 1) := by
  unfold rdv
  refine ⟨fun h => ?_, fun h => ?_⟩
  · rw [if_pos h]; have := rdq (-a) b (by omega) hb; omega
  · rw [if_neg (by omega)]; exact rdq a b h hb
theorem rdv_neg (a b : Int) (h : 0 < a) : rdv (-a) b = -rdv a b := by
  unfold rdv; rw [if_pos (by omega), if_neg (by omega), Int.neg_neg]
theorem roundDiv_eq (a b : Int) (h0 : -1000000000000000000 ≤ a) (h1 : a ≤ 1000000000000000000) (hb0 : 1 ≤ b) (hb1 : b ≤ 1000000000000000000) (k : Nat) (hk : 2 ≤ k) : impl_roundDiv.f k a b = some (rdv a b) := by
  have pos : ∀ (k : Nat) (a : Int), 0 ≤ a → a ≤ 1000000000000000000 → 1 ≤ k → impl_roundDiv.f k a b = some ((2 * a + b) / (2 * b)) := by
    intro k a ha ha1 hk
    obtain ⟨k, rfl⟩ : ∃ m, k = m + 1 := ⟨k - 1, by omega⟩
    unfold impl_roundDiv.f
    have hq := rdq a b ha hb0
    rw [if_neg (by omega), w64 (n := 2 * b) (by omega) (by omega), if_neg (by omega), w64 (n := 2 * a) (by omega) (by omega), w64 (n := 2 * a + b) (by omega) (by omega), Int.tdiv_eq_ediv_of_nonneg (by omega), w64 (by omega) (by omega)]
  obtain ⟨k, rfl⟩ : ∃ m, k = m + 1 := ⟨k - 1, by omega⟩
  unfold rdv
  by_cases ha : a < 0
  · unfold impl_roundDiv.f
    rw [if_pos ha, w64 (n := -a) (by omega) (by omega), pos k (-a) (by omega) (by omega) (by omega), if_pos ha]
    have hq := rdq (-a) b (by omega) hb0
    simp only [Option.bind_some]
    rw [w64 (by omega) (by omega)]
  · rw [if_neg ha]; exact pos _ a (by omega) h1 (by omega)
/-- What Quantize answers. -/
def quantR (c r : Int) : Int × Int := if (0 ≤ r ∧ r ≤ 47) ∧ (-16777216 ≤ c ∧ c ≤ 16777216) then (0, rdv c (stp r)) else (3, 0)
theorem Quantize_eq (c r : Int) (k : Nat) (hk : 40 ≤ k) : impl_Quantize.f k c r = some (quantR c r) := by
  obtain ⟨k, rfl⟩ : ∃ m, k = m + 1 := ⟨k - 1, by omega⟩
  unfold impl_Quantize.f quantR
  simp only [isRung_eq, isCoef_eq, Option.bind_some, decide_eq_true_eq, impl_Quantize.j0]
  by_cases h1 : 0 ≤ r ∧ r ≤ 47
  · have hs := stp_pos r h1.1 h1.2
    by_cases h2 : -16777216 ≤ c ∧ c ≤ 16777216
    · simp [h1, h2, stepOf_eq r h1.1 h1.2, roundDiv_eq c (stp r) (by omega) (by omega) (by omega) (by omega) k (by omega)]
    · simp [h1, h2]
  · simp [h1]
theorem l1In_eq (a b c : Int) : spec_l1In.f a b c = some (decide (b ≤ a ∧ a ≤ c)) := by
  unfold spec_l1In.f
  by_cases h : a ≥ b
  · rw [if_pos h]; congr 1; have : b ≤ a := h; simp [this]
  · rw [if_neg h]; have : ¬ b ≤ a := h; simp [this]
theorem l9Rung_eq (a : Int) : spec_l9Rung.f a = some (decide (0 ≤ a ∧ a ≤ 47)) := by unfold spec_l9Rung.f; rw [l1In_eq]; rfl
theorem l9Coef_eq (a : Int) : spec_l9Coef.f a = some (decide (-16777216 ≤ a ∧ a ≤ 16777216)) := by unfold spec_l9Coef.f; rw [l1In_eq]; rfl
theorem l9Step_eq (r : Int) (h0 : 0 ≤ r) (h1 : r ≤ 47) (k : Nat) (hk : 30 ≤ k) : spec_l9Step.f k r = some (stp r) := by
  have key : ∀ n : Nat, n < 48 → spec_l9Step.f 30 (n : Int) = some (stp (n : Int)) := by decide +kernel
  have := key r.toNat (by omega)
  rw [Int.toNat_of_nonneg h0] at this
  exact at_rounds (g := fun k => spec_l9Step.f k r) (spec_l9Step.mono r) hk this

theorem l1Round_eq (a b : Int) (h0 : -1000000000000000000 ≤ a) (h1 : a ≤ 1000000000000000000) (hb0 : 1 ≤ b) (hb1 : b ≤ 1000000000000000000) (k : Nat) (hk : 2 ≤ k) : spec_l1Round.f k a b = some (rdv a b) := by
  have pos : ∀ (k : Nat) (a : Int), 0 ≤ a → a ≤ 1000000000000000000 → 1 ≤ k → spec_l1Round.f k a b = some ((2 * a + b) / (2 * b)) := by
    intro k a ha ha1 hk
    obtain ⟨k, rfl⟩ : ∃ m, k = m + 1 := ⟨k - 1, by omega⟩
    unfold spec_l1Round.f
    have hq := rdq a b ha hb0
    rw [if_neg (by omega), w64 (n := 2 * b) (by omega) (by omega), if_neg (by omega), w64 (n := 2 * a) (by omega) (by omega), w64 (n := 2 * a + b) (by omega) (by omega), Int.tdiv_eq_ediv_of_nonneg (by omega), w64 (by omega) (by omega)]
  obtain ⟨k, rfl⟩ : ∃ m, k = m + 1 := ⟨k - 1, by omega⟩
  unfold rdv
  by_cases ha : a < 0
  · unfold spec_l1Round.f
    rw [if_pos ha, w64 (n := -a) (by omega) (by omega), pos k (-a) (by omega) (by omega) (by omega), if_pos ha]
    have hq := rdq (-a) b (by omega) hb0
    simp only [Option.bind_some]
    rw [w64 (by omega) (by omega)]
  · rw [if_neg ha]; exact pos _ a (by omega) h1 (by omega)
theorem specQuantize_eq (c r : Int) (k : Nat) (hk : 40 ≤ k) : spec_Quantize.f k c r = some (quantR c r) := by
  obtain ⟨k, rfl⟩ : ∃ m, k = m + 1 := ⟨k - 1, by omega⟩
  unfold spec_Quantize.f quantR
  simp only [l9Rung_eq, l9Coef_eq, Option.bind_some, decide_eq_true_eq, spec_Quantize.j0]
  by_cases h1 : 0 ≤ r ∧ r ≤ 47
  · have hs := stp_pos r h1.1 h1.2
    by_cases h2 : -16777216 ≤ c ∧ c ≤ 16777216
    · simp [h1, h2, l9Step_eq r h1.1 h1.2 k (by omega), l1Round_eq c (stp r) (by omega) (by omega) (by omega) (by omega) k (by omega)]
    · simp [h1, h2]
  · simp [h1]
def stepR (r : Int) : Int × Int := if 0 ≤ r ∧ r ≤ 47 then (0, stp r) else (3, 0)
theorem StepOf_eq (r : Int) : impl_StepOf.f r = some (stepR r) := by
  unfold impl_StepOf.f stepR
  simp only [isRung_eq, Option.bind_some, decide_eq_true_eq]
  by_cases h1 : 0 ≤ r ∧ r ≤ 47
  · rw [if_pos h1, if_pos h1, stepOf_eq r h1.1 h1.2]; rfl
  · rw [if_neg h1, if_neg h1]
theorem specStepOf_eq (r : Int) (k : Nat) (hk : 30 ≤ k) : spec_StepOf.f k r = some (stepR r) := by
  unfold spec_StepOf.f stepR
  simp only [l9Rung_eq, Option.bind_some, decide_eq_true_eq]
  by_cases h1 : 0 ≤ r ∧ r ≤ 47
  · rw [if_pos h1, if_pos h1, l9Step_eq r h1.1 h1.2 k hk]; rfl
  · rw [if_neg h1, if_neg h1]
def halfR (r : Int) : Int × Int := if 0 ≤ r ∧ r ≤ 47 then (0, stp r / 2) else (3, 0)
theorem HalfStep_eq (r : Int) : impl_HalfStep.f r = some (halfR r) := by
  unfold impl_HalfStep.f
  rw [StepOf_eq]; simp only [Option.bind_some]
  unfold stepR halfR
  by_cases h1 : 0 ≤ r ∧ r ≤ 47
  · rw [if_pos h1, if_pos h1]
    have := stp_pos r h1.1 h1.2
    simp only
    rw [Int.tdiv_eq_ediv_of_nonneg (by omega), w64 (by omega) (by omega)]
  · rw [if_neg h1, if_neg h1]; decide +kernel
def restR (q r : Int) : Int × Int := if (0 ≤ r ∧ r ≤ 47) ∧ (-16777216 ≤ q ∧ q ≤ 16777216) ∧ (-16777216 ≤ q * stp r ∧ q * stp r ≤ 16777216) then (0, q * stp r) else (3, 0)
theorem restR_w (q r : Int) (h1 : 0 ≤ r ∧ r ≤ 47) (h2 : -16777216 ≤ q ∧ q ≤ 16777216) : wrap64 (q * stp r) = q * stp r := by
  have hs := stp_pos r h1.1 h1.2
  have b1 : q * stp r ≤ 16777216 * stp r := Int.mul_le_mul_of_nonneg_right h2.2 (by omega)
  have b2 : -16777216 * stp r ≤ q * stp r := Int.mul_le_mul_of_nonneg_right h2.1 (by omega)
  unfold wrap64; omega
theorem Restore_eq (q r : Int) : impl_Restore.f q r = some (restR q r) := by
  unfold impl_Restore.f restR
  simp only [isRung_eq, isCoef_eq, Option.bind_some, decide_eq_true_eq]
  by_cases h1 : 0 ≤ r ∧ r ≤ 47
  · rw [if_pos h1, stepOf_eq r h1.1 h1.2]
    simp only [Option.bind_some]
    by_cases h2 : -16777216 ≤ q ∧ q ≤ 16777216
    · rw [if_pos h2, restR_w q r h1 h2]
      by_cases h3 : -16777216 ≤ q * stp r ∧ q * stp r ≤ 16777216
      · rw [if_pos h3, if_pos ⟨h1, h2, h3⟩]
      · rw [if_neg h3, if_neg (fun h => h3 h.2.2)]
    · rw [if_neg h2, if_neg (fun h => h2 h.2.1)]
  · rw [if_neg h1, if_neg (fun h => h1 h.1)]
theorem specRestore_eq (q r : Int) (k : Nat) (hk : 30 ≤ k) : spec_Restore.f k q r = some (restR q r) := by
  unfold spec_Restore.f restR
  simp only [l9Rung_eq, l9Coef_eq, Option.bind_some, decide_eq_true_eq]
  by_cases h1 : 0 ≤ r ∧ r ≤ 47
  · rw [if_pos h1, l9Step_eq r h1.1 h1.2 k hk]
    simp only [Option.bind_some]
    by_cases h2 : -16777216 ≤ q ∧ q ≤ 16777216
    · rw [if_pos h2, restR_w q r h1 h2]
      by_cases h3 : -16777216 ≤ q * stp r ∧ q * stp r ≤ 16777216
      · rw [if_pos h3, if_pos ⟨h1, h2, h3⟩]
      · rw [if_neg h3, if_neg (fun h => h3 h.2.2)]
    · rw [if_neg h2, if_neg (fun h => h2 h.2.1)]
  · rw [if_neg h1, if_neg (fun h => h1 h.1)]
theorem rdv_near (a b : Int) (hb : 1 ≤ b) : -b ≤ 2 * (rdv a b * b - a) ∧ 2 * (rdv a b * b - a) ≤ b := by
  have pos : ∀ a : Int, 0 ≤ a → -b ≤ 2 * ((2 * a + b) / (2 * b) * b - a) ∧ 2 * ((2 * a + b) / (2 * b) * b - a) ≤ b := by
    intro a ha
    have h1 := Int.mul_ediv_add_emod (2 * a + b) (2 * b)
    have h2 := Int.emod_nonneg (2 * a + b) (show 2 * b ≠ 0 by omega)
    have h3 := Int.emod_lt_of_pos (2 * a + b) (show 0 < 2 * b by omega)
    generalize (2 * a + b) / (2 * b) = q at *
    generalize (2 * a + b) % (2 * b) = m at *
    have h4 : 2 * b * q = 2 * (q * b) := by rw [Int.mul_assoc, Int.mul_comm b q]
    omega
  unfold rdv
  by_cases h : a < 0
  · rw [if_pos h]
    have := pos (-a) (by omega)
    rw [Int.neg_mul]; omega
  · rw [if_neg h]; exact pos a (by omega)
theorem rdv_mul (q b : Int) (hb : 1 ≤ b) : rdv (q * b) b = q := by
  have e : ∀ x : Int, (2 * (x * b) + b) / (2 * b) = x := by
    intro x
    have : 2 * (x * b) + b = b + 2 * b * x := by rw [Int.mul_assoc, Int.mul_comm b x]; omega
    rw [this, Int.add_mul_ediv_left _ _ (by omega), Int.ediv_eq_zero_of_lt (by omega) (by omega)]; omega
  unfold rdv
  by_cases h : q * b < 0
  · rw [if_pos h, ← Int.neg_mul, e]; omega
  · rw [if_neg h, e]
theorem lwAbs_eq (x : Int) (h0 : -9223372036854775807 ≤ x) (h1 : x ≤ 9223372036854775807) : laws_lwAbs.f x = some (if x < 0 then -x else x) := by
  unfold laws_lwAbs.f
  by_cases h : x < 0
  · rw [if_pos h, if_pos h, w64 (by omega) (by omega)]
  · rw [if_neg h, if_neg h]
theorem lwBig_eq (l : List Int) : laws_lwBig.f l = some (decide ((l.length : Int) > 1048576)) := rfl
theorem FnQuants : laws_FnQuants.Pure := by
  intro l hm hl hb
  refine ⟨60, ?_⟩
  unfold laws_FnQuants.f
  rw [lwBig_eq]; simp only [Option.bind_some, decide_eq_true_eq]
  by_cases hbig : (l.length : Int) > 1048576
  · rw [if_pos hbig]
  rw [if_neg hbig]
  obtain ⟨c, r, hd⟩ := DrawQuantize_ok hb
  rw [hd]; simp only [Option.bind_some]
  rw [Quantize_eq c r 60 (by omega), StepOf_eq, HalfStep_eq, specQuantize_eq c r 60 (by omega), specStepOf_eq r 60 (by omega)]
  simp only [Option.bind_some, if_true, bne_self_eq_false]
  have j1 : ∀ k : Nat, 50 ≤ k → laws_FnQuants.j1 k c r false (quantR c r).1 (quantR c r).2 (halfR r).1 (halfR r).2 = some true := by
    intro k hk
    obtain ⟨k, rfl⟩ : ∃ m, k = m + 1 := ⟨k - 1, by omega⟩
    simp only [laws_FnQuants.j1]
    rw [if_neg (by simp)]
    by_cases h : (0 ≤ r ∧ r ≤ 47) ∧ (-16777216 ≤ c ∧ c ≤ 16777216)
    · have e : quantR c r = (0, rdv c (stp r)) := by unfold quantR; rw [if_pos h]
      have e2 : halfR r = (0, stp r / 2) := by unfold halfR; rw [if_pos h.1]
      rw [e, e2]; simp only [if_true]
      rw [Restore_eq]; simp only [Option.bind_some]
      have hs := stp_pos r h.1.1 h.1.2
      have hn := rdv_near c (stp r) (by omega)
      by_cases h3 : (0 ≤ r ∧ r ≤ 47) ∧ (-16777216 ≤ rdv c (stp r) ∧ rdv c (stp r) ≤ 16777216) ∧ (-16777216 ≤ rdv c (stp r) * stp r ∧ rdv c (stp r) * stp r ≤ 16777216)
      · have e3 : restR (rdv c (stp r)) r = (0, rdv c (stp r) * stp r) := by unfold restR; rw [if_pos h3]
        rw [e3]; simp only [if_true]
        rw [w64 (by omega) (by omega), lwAbs_eq _ (by omega) (by omega)]
        simp only [Option.bind_some]
        rw [if_pos (by split <;> omega), Quantize_eq _ _ k (by omega)]
        have e4 : quantR (rdv c (stp r) * stp r) r = (0, rdv c (stp r)) := by unfold quantR; rw [if_pos ⟨h.1, h3.2.2⟩, rdv_mul _ _ (by omega)]
        rw [e4]; simp
      · have e3 : restR (rdv c (stp r)) r = (3, 0) := by unfold restR; rw [if_neg h3]
        rw [e3, if_neg (by simp), specRestore_eq _ _ k (by omega), e3]; simp
    · have e : quantR c r = (3, 0) := by unfold quantR; rw [if_neg h]
      rw [e]; simp
  by_cases hr : 0 ≤ r ∧ r ≤ 47
  · have e2 : halfR r = (0, stp r / 2) := by unfold halfR; rw [if_pos hr]
    have e3 : stepR r = (0, stp r) := by unfold stepR; rw [if_pos hr]
    have hs := stp_pos r hr.1 hr.2
    rw [e3, e2] 
    simp only [if_true, laws_FnQuants.j0]
    rw [if_neg (by simp), Int.tdiv_eq_ediv_of_nonneg (by omega), w64 (by omega) (by omega)]
    rw [e2] at j1
    by_cases h47 : r < 47
    · rw [if_pos rfl, if_pos h47, w64 (n := r + 1) (by omega) (by omega), StepOf_eq]
      have e5 : stepR (r + 1) = (0, stp (r + 1)) := by unfold stepR; rw [if_pos (by omega)]
      have hlt := stp_lt r hr.1 h47
      rw [e5]; simp only [Option.bind_some]
      have : decide (stp (r + 1) ≤ stp r) = false := by rw [decide_eq_false_iff_not]; omega
      rw [this]; exact j1 59 (by omega)
    · rw [if_pos rfl, if_neg h47]; exact j1 59 (by omega)
  · have e2 : halfR r = (3, 0) := by unfold halfR; rw [if_neg hr]
    have e3 : stepR r = (3, 0) := by unfold stepR; rw [if_neg hr]
    rw [e3, e2]
    rw [e2] at j1
    simp only [if_true, laws_FnQuants.j0]
    rw [if_neg (by simp), if_neg (by omega)]; exact j1 59 (by omega)

end Go.Proofs.Ytfjljllkofcmbaa.Pure
