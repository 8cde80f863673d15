/- The sides alternate, and a greater mask means fewer pulses and coarser gains, whatever arguments are drawn. -/
import Derived.Test.YtfjljllkofcmbaaPFnOwnersx4
set_option linter.unusedVariables false
set_option linter.unusedSimpArgs false
namespace Go.Proofs.Ytfjljllkofcmbaa.Pure
open Go.RowKit Go.Proofs.Ytfjljllkofcmbaa.PFnOwners Go.Proofs.YtfjljllkofcmbaaW.PrintWords Go.Proofs.YtfjljllkofcmbaaW.PrintLast

theorem w64 {n : Int} (h1 : -9223372036854775808 ≤ n) (h2 : n ≤ 9223372036854775807) : wrap64 n = n := by unfold wrap64; omega
theorem rd_mem (L : List Int) (i : Int) (h0 : 0 ≤ i) (h1 : i < (L.length : Int)) : rd L i ∈ L := by
  unfold rd
  rw [List.getD_eq_getElem?_getD, List.getElem?_eq_getElem (by omega)]
  exact List.getElem_mem _
/-- All of a list are bytes. -/
def Bytes8 (l : List Int) : Prop := ∀ x ∈ l, (Lit.int .u8 x).wf = true
theorem Bytes8.rdb {l : List Int} (h : Bytes8 l) (i : Int) : 0 ≤ rd l i ∧ rd l i ≤ 255 := by
  by_cases hi : i.toNat < l.length
  · have hm : rd l i ∈ l := by
      unfold rd
      rw [List.getD_eq_getElem?_getD, List.getElem?_eq_getElem hi]
      exact List.getElem_mem _
    have := h _ hm
    simp only [Lit.wf, Bool.and_eq_true, decide_eq_true_eq] at this
    have e1 : IntKind.u8.min = 0 := by decide
    have e2 : IntKind.u8.max = 255 := by decide
    rw [e1, e2] at this; exact this
  · unfold rd
    rw [List.getD_eq_getElem?_getD, List.getElem?_eq_none (by omega)]
    simp
theorem tmod_in (s m : Int) (hs : 0 ≤ s) (hm : 1 ≤ m) : 0 ≤ Int.tmod s m ∧ Int.tmod s m < m := by
  rw [Int.tmod_eq_emod_of_nonneg hs]
  exact ⟨Int.emod_nonneg s (by omega), Int.emod_lt_of_pos s (by omega)⟩
theorem next_ok {l : List Int} (hb : Bytes8 l) (s n : Int) (h0 : 0 ≤ s) (h1 : s ≤ 10000000) :
    ∃ v, spec_l1Next.f l s n = some (v, s + 1) ∧ 0 ≤ v ∧ (n < 1 → v = 0) ∧ (1 ≤ n → v < n) := by
  unfold spec_l1Next.f
  by_cases hn : n < 1
  · rw [if_pos hn, w64 (by omega) (by omega)]
    exact ⟨0, rfl, by omega, fun _ => rfl, fun h => by omega⟩
  rw [if_neg hn]
  have hn0 : ¬ n = 0 := by omega
  have e1 : wrap64 (s + 1) = s + 1 := w64 (by omega) (by omega)
  have e2 : wrap64 (s + 1 - 1) = s := by rw [w64 (by omega) (by omega)]; omega
  have e3 : wrap64 (s + 2) = s + 2 := w64 (by omega) (by omega)
  simp only [e1, e2, e3]
  by_cases hl : (l.length : Int) = 0
  · rw [if_pos hl, if_neg hn0]
    have := tmod_in (wrap64 (s * 7)) n (by rw [w64 (by omega) (by omega)]; omega) (by omega)
    exact ⟨_, rfl, this.1, fun h => by omega, fun _ => this.2⟩
  rw [if_neg hl]
  have hm : 1 ≤ (l.length : Int) := by omega
  have t0 := tmod_in s (l.length : Int) h0 hm
  have t1 := tmod_in (s + 1) (l.length : Int) (by omega) hm
  have t2 := tmod_in (s + 2) (l.length : Int) (by omega) hm
  rw [if_pos t0.1, if_pos t0.2]
  simp only [if_pos t1.1, if_pos t1.2, if_pos t2.1, if_pos t2.2, if_neg hn0]
  have r0 := hb.rdb (Int.tmod s (l.length : Int))
  have r1 := hb.rdb (Int.tmod (s + 1) (l.length : Int))
  have r2 := hb.rdb (Int.tmod (s + 2) (l.length : Int))
  have q : 0 ≤ Int.tdiv s (l.length : Int) ∧ Int.tdiv s (l.length : Int) ≤ s := by
    rw [Int.tdiv_eq_ediv_of_nonneg h0]
    exact ⟨Int.ediv_nonneg h0 (by omega), Int.ediv_le_self _ h0⟩
  generalize rd l (Int.tmod s (l.length : Int)) = b0 at *
  generalize rd l (Int.tmod (s + 1) (l.length : Int)) = b1 at *
  generalize rd l (Int.tmod (s + 2) (l.length : Int)) = b2 at *
  generalize Int.tdiv s (l.length : Int) = d at *
  have f0 : wrap64 b0 = b0 := w64 (by omega) (by omega)
  have f1 : wrap64 b1 = b1 := w64 (by omega) (by omega)
  have f2 : wrap64 b2 = b2 := w64 (by omega) (by omega)
  have f3 : wrap64 d = d := w64 (by omega) (by omega)
  have f4 : wrap64 (d * 37) = d * 37 := w64 (by omega) (by omega)
  have f5 : wrap64 (b0 + d * 37) = b0 + d * 37 := w64 (by omega) (by omega)
  have f6 : wrap64 ((b0 + d * 37) * 251) = (b0 + d * 37) * 251 := w64 (by omega) (by omega)
  have f7 : wrap64 (b1 * 13) = b1 * 13 := w64 (by omega) (by omega)
  have f8 : wrap64 ((b0 + d * 37) * 251 + b1 * 13) = (b0 + d * 37) * 251 + b1 * 13 := w64 (by omega) (by omega)
  have f9 : wrap64 ((b0 + d * 37) * 251 + b1 * 13 + s) = (b0 + d * 37) * 251 + b1 * 13 + s := w64 (by omega) (by omega)
  have f10 : wrap64 (((b0 + d * 37) * 251 + b1 * 13 + s) * 257) = ((b0 + d * 37) * 251 + b1 * 13 + s) * 257 := w64 (by omega) (by omega)
  have f11 : wrap64 ((b0 + d * 37) * 257) = (b0 + d * 37) * 257 := w64 (by omega) (by omega)
  simp only [f0, f1, f2, f3, f4, f5, f6, f7, f8, f9, f10, f11]
  have fin : ∀ X : Int, 0 ≤ X → ∃ v, (some (Int.tmod X n, s + 1) : Option (Int × Int)) = some (v, s + 1) ∧ 0 ≤ v ∧ (n < 1 → v = 0) ∧ (1 ≤ n → v < n) := fun X hX =>
    ⟨_, rfl, (tmod_in X n hX (by omega)).1, fun h => by omega, fun _ => (tmod_in X n hX (by omega)).2⟩
  by_cases c1 : n > 200
  · rw [if_pos c1]
    by_cases c2 : n > 60000
    · rw [if_pos c2]; exact fin _ (by rw [w64 (by omega) (by omega)]; omega)
    · rw [if_neg c2]; exact fin _ (by omega)
  · rw [if_neg c1, if_neg (by omega)]; exact fin _ (by omega)
theorem pick_ok {l : List Int} (hb : Bytes8 l) (s : Int) (L : List Int) (h0 : 0 ≤ s) (h1 : s ≤ 10000000) (hL : 0 < L.length) :
    ∃ v, spec_l1Pick.f l s L = some (v, s + 1) ∧ v ∈ L := by
  unfold spec_l1Pick.f
  obtain ⟨v, hv, hv0, _, hv1⟩ := next_ok hb s (L.length : Int) h0 h1
  rw [hv]; simp only [Option.bind_some]
  have := hv1 (by omega)
  rw [if_pos hv0, if_pos this]
  exact ⟨_, rfl, rd_mem L v hv0 this⟩
theorem DrawOwnerOf_ok {l : List Int} (hb : Bytes8 l) : ∃ a b, spec_DrawOwnerOf.f l = some (a, b) := by
  unfold spec_DrawOwnerOf.f spec_l1Source.f
  simp only [Option.bind_some]
  obtain ⟨v, hv, _⟩ := next_ok hb 0 99 (by omega) (by omega)
  rw [hv]; simp only [Option.bind_some]
  obtain ⟨u, hu, _⟩ := pick_ok hb (0 + 1) [0, 1, 9999, 10000, -1, v] (by omega) (by omega) (by simp)
  rw [hu]; simp only [Option.bind_some]
  obtain ⟨z, hz, _⟩ := pick_ok hb (0 + 1 + 1) [0, 1, 0, 1, 2, -1] (by omega) (by omega) (by simp)
  rw [hz]; exact ⟨_, _, rfl⟩
theorem l9DrawRung_ok {l : List Int} (hb : Bytes8 l) (s : Int) (h0 : 0 ≤ s) (h1 : s ≤ 9000000) : ∃ r, spec_l9DrawRung.f l s = some (r, s + 4) ∧ 0 ≤ r ∧ r ≤ 47 := by
  unfold spec_l9DrawRung.f
  obtain ⟨v, hv, v0, _, v1⟩ := next_ok hb s 48 (by omega) (by omega)
  rw [hv]; simp only [Option.bind_some]
  obtain ⟨u, hu, u0, _, u1⟩ := next_ok hb (s + 1) 20 (by omega) (by omega)
  rw [hu]; simp only [Option.bind_some]
  obtain ⟨x, hx, x0, _, x1⟩ := next_ok hb (s + 1 + 1) 20 (by omega) (by omega)
  rw [hx]; simp only [Option.bind_some]
  obtain ⟨z, hz, hm⟩ := pick_ok hb (s + 1 + 1 + 1) [0, 1, 2, 47, 46, v, u, x] (by omega) (by omega) (by simp)
  rw [hz]; simp only [Option.bind_some]
  have v1 := v1 (by omega)
  have u1 := u1 (by omega)
  have x1 := x1 (by omega)
  refine ⟨z, by rw [show s + 1 + 1 + 1 + 1 = s + 4 by omega], ?_⟩
  simp only [List.mem_cons, List.not_mem_nil, or_false] at hm
  omega
theorem DrawStepOf_ok {l : List Int} (hb : Bytes8 l) : ∃ r, spec_DrawStepOf.f l = some r := by
  unfold spec_DrawStepOf.f spec_l1Source.f
  simp only [Option.bind_some]
  obtain ⟨v, hv, _⟩ := l9DrawRung_ok hb 0 (by omega) (by omega)
  rw [hv]; simp only [Option.bind_some]
  obtain ⟨u, hu, _⟩ := l9DrawRung_ok hb (0 + 4) (by omega) (by omega)
  rw [hu]; simp only [Option.bind_some]
  obtain ⟨x, hx, _⟩ := l9DrawRung_ok hb (0 + 4 + 4) (by omega) (by omega)
  rw [hx]; simp only [Option.bind_some]
  obtain ⟨z, hz, hm⟩ := pick_ok hb (0 + 4 + 4 + 4) [v, u, x, 48, -1] (by omega) (by omega) (by simp)
  rw [hz]; exact ⟨_, rfl⟩
theorem DrawGainRung_ok {l : List Int} (hb : Bytes8 l) : ∃ a b, spec_DrawGainRung.f l = some (a, b) := by
  unfold spec_DrawGainRung.f spec_l1Source.f
  simp only [Option.bind_some]
  obtain ⟨v, hv⟩ := DrawStepOf_ok hb
  rw [hv]; simp only [Option.bind_some]
  obtain ⟨u, hu, _⟩ := pick_ok hb 0 [0, 1, 2, 3, 3, 4, -1] (by omega) (by omega) (by simp)
  rw [hu]; exact ⟨_, _, rfl⟩
theorem inRange_eq (a b c : Int) : impl_inRange.f a b c = some (decide (b ≤ a ∧ a ≤ c)) := by
  unfold impl_inRange.f
  by_cases h : b ≤ a
  · rw [if_pos h]; simp [h]
  · rw [if_neg h]; simp [h]
theorem isNumber_eq (a : Int) : impl_isNumber.f a = some (decide (0 ≤ a ∧ a ≤ 9999)) := by unfold impl_isNumber.f; rw [inRange_eq]; rfl
def ownR (a b : Int) : Int × Int := if (0 ≤ a ∧ a ≤ 9999) ∧ (0 ≤ b ∧ b ≤ 1) then (0, (a + b) % 2) else (3, 0)
theorem OwnerOf_eq (a b : Int) : impl_OwnerOf.f a b = some (ownR a b) := by
  unfold impl_OwnerOf.f impl_ownerOf.f ownR
  simp only [isNumber_eq, inRange_eq, Option.bind_some, decide_eq_true_eq]
  by_cases h1 : 0 ≤ a ∧ a ≤ 9999
  · by_cases h2 : 0 ≤ b ∧ b ≤ 1
    · rw [if_pos h1, if_pos h2, if_pos ⟨h1, h2⟩]
      have e : wrap64 (a + b) = a + b := by unfold wrap64; omega
      rw [e, Int.tmod_eq_emod_of_nonneg (by omega)]
    · rw [if_pos h1, if_neg h2, if_neg (fun h => h2 h.2)]
  · rw [if_neg h1, if_neg (fun h => h1 h.1)]
theorem l1In_eq (a b c : Int) : spec_l1In.f a b c = some (decide (b ≤ a ∧ a ≤ c)) := by
  unfold spec_l1In.f
  by_cases h : a ≥ b
  · rw [if_pos h]; congr 1; have : b ≤ a := h; simp [this]
  · rw [if_neg h]; have : ¬ b ≤ a := h; simp [this]
theorem specOwnerOf_eq (a b : Int) : spec_OwnerOf.f a b = some (ownR a b) := by
  unfold spec_OwnerOf.f ownR
  simp only [l1In_eq, Option.bind_some, decide_eq_true_eq]
  by_cases h1 : 0 ≤ a ∧ a ≤ 9999
  · by_cases h2 : 0 ≤ b ∧ b ≤ 1
    · rw [if_pos h1, if_pos h2, if_pos ⟨h1, h2⟩]
      have e : wrap64 (a + b) = a + b := by unfold wrap64; omega
      rw [e, Int.tmod_eq_emod_of_nonneg (by omega)]
    · rw [if_pos h1, if_neg h2, if_neg (fun h => h2 h.2)]
  · rw [if_neg h1, if_neg (fun h => h1 h.1)]
theorem isRung_eq (a : Int) : impl_isRung.f a = some (decide (0 ≤ a ∧ a ≤ 47)) := by unfold impl_isRung.f; rw [inRange_eq]; rfl
theorem isMask_eq (a : Int) : impl_isMask.f a = some (decide (0 ≤ a ∧ a ≤ 3)) := by unfold impl_isMask.f; rw [inRange_eq]; rfl
theorem gainRung_eq (r m : Int) (h0 : 0 ≤ r ∧ r ≤ 47) (h1 : 0 ≤ m ∧ m ≤ 3) : impl_gainRung.f r m = some (if r + 2 * m ≤ 47 then r + 2 * m else 47) := by
  unfold impl_gainRung.f mn
  simp only [w64 (n := 2 * m) (by omega) (by omega), w64 (n := r + 2 * m) (by omega) (by omega)]
  congr 1; split <;> split <;> omega
def gainR (r m : Int) : Int × Int := if (0 ≤ r ∧ r ≤ 47) ∧ (0 ≤ m ∧ m ≤ 3) then (0, if r + 2 * m ≤ 47 then r + 2 * m else 47) else (3, 0)
theorem GainRung_eq (r m : Int) : impl_GainRung.f r m = some (gainR r m) := by
  unfold impl_GainRung.f gainR
  simp only [isRung_eq, isMask_eq, Option.bind_some, decide_eq_true_eq]
  by_cases h1 : 0 ≤ r ∧ r ≤ 47
  · by_cases h2 : 0 ≤ m ∧ m ≤ 3
    · rw [if_pos h1, if_pos h2, if_pos ⟨h1, h2⟩, gainRung_eq r m h1 h2]; rfl
    · rw [if_pos h1, if_neg h2, if_neg (fun h => h2 h.2)]
  · rw [if_neg h1, if_neg (fun h => h1 h.1)]
theorem l9Rung_eq (a : Int) : spec_l9Rung.f a = some (decide (0 ≤ a ∧ a ≤ 47)) := by unfold spec_l9Rung.f; rw [l1In_eq]; rfl
theorem l13Is_eq (a : Int) : spec_l13Is.f a = some (decide (0 ≤ a ∧ a ≤ 3)) := by unfold spec_l13Is.f; rw [l1In_eq]; rfl
theorem l13Rung_eq (r m : Int) (h0 : 0 ≤ r ∧ r ≤ 47) (h1 : 0 ≤ m ∧ m ≤ 3) : spec_l13Rung.f r m = some (if r + 2 * m ≤ 47 then r + 2 * m else 47) := by
  unfold spec_l13Rung.f spec_l1Min.f
  simp only [w64 (n := 2 * m) (by omega) (by omega), w64 (n := r + 2 * m) (by omega) (by omega)]
  by_cases h : 47 < r + 2 * m
  · rw [if_pos h, if_neg (show ¬ r + 2 * m ≤ 47 by omega)]; rfl
  · rw [if_neg h, if_pos (show r + 2 * m ≤ 47 by omega)]; rfl
theorem specGainRung_eq (r m : Int) : spec_GainRung.f r m = some (gainR r m) := by
  unfold spec_GainRung.f gainR
  simp only [l9Rung_eq, l13Is_eq, Option.bind_some, decide_eq_true_eq]
  by_cases h1 : 0 ≤ r ∧ r ≤ 47
  · by_cases h2 : 0 ≤ m ∧ m ≤ 3
    · rw [if_pos h1, if_pos h2, if_pos ⟨h1, h2⟩, l13Rung_eq r m h1 h2]; rfl
    · rw [if_pos h1, if_neg h2, if_neg (fun h => h2 h.2)]
  · rw [if_neg h1, if_neg (fun h => h1 h.1)]
def pforR (m : Int) : Int × Int := if 0 ≤ m ∧ m ≤ 3 then (0, 8 - 2 * m) else (3, 0)
theorem PulsesFor_eq (m : Int) : impl_PulsesFor.f m = some (pforR m) := by
  unfold impl_PulsesFor.f impl_pulsesFor.f pforR
  simp only [isMask_eq, Option.bind_some, decide_eq_true_eq]
  by_cases h : 0 ≤ m ∧ m ≤ 3
  · rw [if_pos h, if_pos h, w64 (n := 2 * m) (by omega) (by omega), w64 (by omega) (by omega)]
  · rw [if_neg h, if_neg h]
theorem specPulsesFor_eq (m : Int) : spec_PulsesFor.f m = some (pforR m) := by
  unfold spec_PulsesFor.f pforR
  simp only [l13Is_eq, Option.bind_some, decide_eq_true_eq]
  by_cases h : 0 ≤ m ∧ m ≤ 3
  · rw [if_pos h, if_pos h, w64 (n := 2 * m) (by omega) (by omega), w64 (by omega) (by omega)]
  · rw [if_neg h, if_neg h]
theorem lwBig_eq (l : List Int) : laws_lwBig.f l = some (decide ((l.length : Int) > 1048576)) := rfl
theorem FnOwners : laws_FnOwners.Pure := by
  intro l hm hl hb
  refine ⟨5, ?_⟩
  unfold laws_FnOwners.f
  rw [lwBig_eq]; simp only [Option.bind_some, decide_eq_true_eq]
  by_cases hbig : (l.length : Int) > 1048576
  · rw [if_pos hbig]
  rw [if_neg hbig]
  obtain ⟨a, b, hd⟩ := DrawOwnerOf_ok hb
  obtain ⟨r, m, hg⟩ := DrawGainRung_ok hb
  rw [hd]; simp only [Option.bind_some]
  rw [OwnerOf_eq]; simp only [Option.bind_some]
  rw [hg]; simp only [Option.bind_some]
  rw [GainRung_eq, PulsesFor_eq, specOwnerOf_eq]; simp only [Option.bind_some]
  rw [if_neg (by simp), specGainRung_eq]; simp only [Option.bind_some]
  rw [if_neg (by simp), specPulsesFor_eq]; simp only [Option.bind_some]
  simp only [beq_self_eq_true, Bool.not_true, Bool.or_self]
  have j1 : ∀ k : Nat, 1 ≤ k → laws_FnOwners.j1 k a b false (ownR a b).1 (ownR a b).2 = some true := by
    intro k hk
    obtain ⟨k, rfl⟩ : ∃ m, k = m + 1 := ⟨k - 1, by omega⟩
    simp only [laws_FnOwners.j1]
    rw [if_neg (by simp)]
    by_cases h : (0 ≤ a ∧ a ≤ 9999) ∧ (0 ≤ b ∧ b ≤ 1)
    · have e : ownR a b = (0, (a + b) % 2) := by unfold ownR; rw [if_pos h]
      rw [e]; simp only [if_true]
      rw [w64 (n := 1 - b) (by omega) (by omega), OwnerOf_eq]
      have e2 : ownR a (1 - b) = (0, (a + (1 - b)) % 2) := by unfold ownR; rw [if_pos (by omega)]
      rw [e2]; simp only [Option.bind_some]
      rw [w64 (by omega) (by omega), if_pos (by omega)]
      by_cases h0 : a = 0
      · rw [if_pos h0]
      · rw [if_neg h0, w64 (n := a - 1) (by omega) (by omega), OwnerOf_eq]
        have e3 : ownR (a - 1) b = (0, (a - 1 + b) % 2) := by unfold ownR; rw [if_pos (by omega)]
        rw [e3]; simp only [Option.bind_some]
        rw [w64 (by omega) (by omega)]
        have : (a + b) % 2 = 1 - (a - 1 + b) % 2 := by omega
        rw [this]; simp
    · have e : ownR a b = (3, 0) := by unfold ownR; rw [if_neg h]
      rw [e]; simp
  simp only [laws_FnOwners.j0]
  rw [if_neg (by simp)]
  by_cases h : (0 ≤ r ∧ r ≤ 47) ∧ (0 ≤ m ∧ m ≤ 3)
  · have e : gainR r m = (0, if r + 2 * m ≤ 47 then r + 2 * m else 47) := by unfold gainR; rw [if_pos h]
    have e2 : pforR m = (0, 8 - 2 * m) := by unfold pforR; rw [if_pos h.2]
    rw [e, e2]; simp only [if_true]
    rw [if_neg (by split <;> omega), if_neg (by split <;> omega), if_neg (by omega)]
    have : decide (8 - 2 * m > 8) = false := by rw [decide_eq_false_iff_not]; omega
    rw [this]; exact j1 4 (by omega)
  · have e : gainR r m = (3, 0) := by unfold gainR; rw [if_neg h]
    rw [e, if_neg (by simp)]; exact j1 4 (by omega)

end Go.Proofs.Ytfjljllkofcmbaa.Pure
