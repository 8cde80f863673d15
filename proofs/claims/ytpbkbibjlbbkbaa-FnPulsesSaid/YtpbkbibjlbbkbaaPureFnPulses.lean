/- Pulses are found by their number, and each of them stands right behind the one ahead of it, whatever arguments are drawn. -/
import Derived.Test.YtpbkbibjlbbkbaaPFnPulsesx7
set_option linter.unusedVariables false
set_option linter.unusedSimpArgs false
namespace Go.Proofs.Ytpbkbibjlbbkbaa.Pure
open Go.RowKit Go.Proofs.Ytpbkbibjlbbkbaa.PFnPulses Go.Proofs.YtpbkbibjlbbkbaaW.PrintWords Go.Proofs.YtpbkbibjlbbkbaaW.PrintLast

theorem w64 {n : Int} (h1 : -9223372036854775808 ≤ n) (h2 : n ≤ 9223372036854775807) : wrap64 n = n := by unfold wrap64; omega
theorem rd_mem (L : List Int) (i : Int) (h0 : 0 ≤ i) (h1 : i < (L.length : Int)) : rd L i ∈ L := by
  unfold rd
  rw [List.getD_eq_getElem?_getD, List.getElem?_eq_getElem (by omega)]
  exact List.getElem_mem _
/-- All of a list are bytes. -/
def Bytes8 (l : List Int) : Prop := ∀ x ∈ l, (Lit.int .u8 x).wf = true
theorem Bytes8.rdb {l : List Int} (h : Bytes8 l) (i : Int) : 0 ≤ rd l i ∧ rd l i ≤ 255 := by
  by_cases hi : i.toNat < l.length
  · have hm : rd l i ∈ l := by
      unfold rd
      rw [List.getD_eq_getElem?_getD, List.getElem?_eq_getElem hi]
      exact List.getElem_mem _
    have := h _ hm
    simp only [Lit.wf, Bool.and_eq_true, decide_eq_true_eq] at this
    have e1 : IntKind.u8.min = 0 := by decide
    have e2 : IntKind.u8.max = 255 := by decide
    rw [e1, e2] at this; exact this
  · unfold rd
    rw [List.getD_eq_getElem?_getD, List.getElem?_eq_none (by omega)]
    simp
theorem tmod_in (s m : Int) (hs : 0 ≤ s) (hm : 1 ≤ m) : 0 ≤ Int.tmod s m ∧ Int.tmod s m < m := by
  rw [Int.tmod_eq_emod_of_nonneg hs]
  exact ⟨Int.emod_nonneg s (by omega), Int.emod_lt_of_pos s (by omega)⟩
theorem next_ok {l : List Int} (hb : Bytes8 l) (s n : Int) (h0 : 0 ≤ s) (h1 : s ≤ 10000000) :
    ∃ v, spec_l1Next.f l s n = some (v, s + 1) ∧ 0 ≤ v ∧ (n < 1 → v = 0) ∧ (1 ≤ n → v < n) := by
  unfold spec_l1Next.f
  by_cases hn : n < 1
  · rw [if_pos hn, w64 (by omega) (by omega)]
    exact ⟨0, rfl, by omega, fun _ => rfl, fun h => by omega⟩
  rw [if_neg hn]
  have hn0 : ¬ n = 0 := by omega
  have e1 : wrap64 (s + 1) = s + 1 := w64 (by omega) (by omega)
  have e2 : wrap64 (s + 1 - 1) = s := by rw [w64 (by omega) (by omega)]; omega
  have e3 : wrap64 (s + 2) = s + 2 := w64 (by omega) (by omega)
  simp only [e1, e2, e3]
  by_cases hl : (l.length : Int) = 0
  · rw [if_pos hl, if_neg hn0]
    have := tmod_in (wrap64 (s * 7)) n (by rw [w64 (by omega) (by omega)]; omega) (by omega)
    exact ⟨_, rfl, this.1, fun h => by omega, fun _ => this.2⟩
  rw [if_neg hl]
  have hm : 1 ≤ (l.length : Int) := by omega
  have t0 := tmod_in s (l.length : Int) h0 hm
  have t1 := tmod_in (s + 1) (l.length : Int) (by omega) hm
  have t2 := tmod_in (s + 2) (l.length : Int) (by omega) hm
  rw [if_pos t0.1, if_pos t0.2]
  simp only [if_pos t1.1, if_pos t1.2, if_pos t2.1, if_pos t2.2, if_neg hn0]
  have r0 := hb.rdb (Int.tmod s (l.length : Int))
  have r1 := hb.rdb (Int.tmod (s + 1) (l.length : Int))
  have r2 := hb.rdb (Int.tmod (s + 2) (l.length : Int))
  have q : 0 ≤ Int.tdiv s (l.length : Int) ∧ Int.tdiv s (l.length : Int) ≤ s := by
    rw [Int.tdiv_eq_ediv_of_nonneg h0]
    exact ⟨Int.ediv_nonneg h0 (by omega), Int.ediv_le_self _ h0⟩
  generalize rd l (Int.tmod s (l.length : Int)) = b0 at *
  generalize rd l (Int.tmod (s + 1) (l.length : Int)) = b1 at *
  generalize rd l (Int.tmod (s + 2) (l.length : Int)) = b2 at *
  generalize Int.tdiv s (l.length : Int) = d at *
  have f0 : wrap64 b0 = b0 := w64 (by omega) (by omega)
  have f1 : wrap64 b1 = b1 := w64 (by omega) (by omega)
  have f2 : wrap64 b2 = b2 := w64 (by omega) (by omega)
  have f3 : wrap64 d = d := w64 (by omega) (by omega)
  have f4 : wrap64 (d * 37) = d * 37 := w64 (by omega) (by omega)
  have f5 : wrap64 (b0 + d * 37) = b0 + d * 37 := w64 (by omega) (by omega)
  have f6 : wrap64 ((b0 + d * 37) * 251) = (b0 + d * 37) * 251 := w64 (by omega) (by omega)
  have f7 : wrap64 (b1 * 13) = b1 * 13 := w64 (by omega) (by omega)
  have f8 : wrap64 ((b0 + d * 37) * 251 + b1 * 13) = (b0 + d * 37) * 251 + b1 * 13 := w64 (by omega) (by omega)
  have f9 : wrap64 ((b0 + d * 37) * 251 + b1 * 13 + s) = (b0 + d * 37) * 251 + b1 * 13 + s := w64 (by omega) (by omega)
  have f10 : wrap64 (((b0 + d * 37) * 251 + b1 * 13 + s) * 257) = ((b0 + d * 37) * 251 + b1 * 13 + s) * 257 := w64 (by omega) (by omega)
  have f11 : wrap64 ((b0 + d * 37) * 257) = (b0 + d * 37) * 257 := w64 (by omega) (by omega)
  simp only [f0, f1, f2, f3, f4, f5, f6, f7, f8, f9, f10, f11]
  have fin : ∀ X : Int, 0 ≤ X → ∃ v, (some (Int.tmod X n, s + 1) : Option (Int × Int)) = some (v, s + 1) ∧ 0 ≤ v ∧ (n < 1 → v = 0) ∧ (1 ≤ n → v < n) := fun X hX =>
    ⟨_, rfl, (tmod_in X n hX (by omega)).1, fun h => by omega, fun _ => (tmod_in X n hX (by omega)).2⟩
  by_cases c1 : n > 200
  · rw [if_pos c1]
    by_cases c2 : n > 60000
    · rw [if_pos c2]; exact fin _ (by rw [w64 (by omega) (by omega)]; omega)
    · rw [if_neg c2]; exact fin _ (by omega)
  · rw [if_neg c1, if_neg (by omega)]; exact fin _ (by omega)
theorem chance_ok {l : List Int} (hb : Bytes8 l) (s n : Int) (h0 : 0 ≤ s) (h1 : s ≤ 10000000) : ∃ b, spec_l1Chance.f l s n = some (b, s + 1) := by
  unfold spec_l1Chance.f
  obtain ⟨v, hv, _⟩ := next_ok hb s n h0 h1
  rw [hv]; exact ⟨_, rfl⟩
theorem l11Draw_l0 {l : List Int} (hb : Bytes8 l) (d : Int) : ∀ (n : Nat) (L : List Int) (s : Int) (K : Nat), (L.length : Int) = d → 1 ≤ d → 0 ≤ s → s + 2 * n ≤ 1000000 → n + 1 ≤ K → ∃ R s', spec_l11Draw.l0 K d L (n : Int) l s = some (R, s') ∧ R.length = L.length ∧ s ≤ s' ∧ s' ≤ s + 2 * n := by
  intro n
  induction n with
  | zero =>
    intro L s K h1 h2 h3 h4 hK
    obtain ⟨K, rfl⟩ : ∃ q, K = q + 1 := ⟨K - 1, by omega⟩
    simp only [spec_l11Draw.l0]
    rw [if_neg (by omega)]
    exact ⟨_, _, rfl, rfl, by omega, by omega⟩
  | succ n ih =>
    intro L s K h1 h2 h3 h4 hK
    obtain ⟨K, rfl⟩ : ∃ q, K = q + 1 := ⟨K - 1, by omega⟩
    simp only [spec_l11Draw.l0]
    obtain ⟨v, hv, v0, _, v1⟩ := next_ok hb s d h3 (by omega)
    have v1 := v1 (by omega)
    rw [if_pos (by omega), hv]
    simp only [Option.bind_some]
    rw [if_pos v0, if_pos (by omega), w64 (n := ((n + 1 : Nat) : Int) - 1) (by omega) (by omega), show ((n + 1 : Nat) : Int) - 1 = (n : Int) by omega]
    have fin : ∀ (M : List Int) (t : Int), M.length = L.length → s + 1 ≤ t → t ≤ s + 2 → ∃ R s', spec_l11Draw.l0 K d M (n : Int) l t = some (R, s') ∧ R.length = L.length ∧ s ≤ s' ∧ s' ≤ s + 2 * ((n + 1 : Nat) : Int) := by
      intro M t e1 e2 e3
      obtain ⟨R, s', g1, g2, g3, g4⟩ := ih M t K (by omega) h2 (by omega) (by omega) (by omega)
      exact ⟨R, s', g1, by omega, by omega, by omega⟩
    by_cases c1 : rd L v > 0
    · rw [if_pos c1]; exact fin _ _ (by simp) (by omega) (by omega)
    · rw [if_neg c1]
      by_cases c2 : rd L v = 0
      · obtain ⟨b, hc⟩ := chance_ok hb (s + 1) 2 (by omega) (by omega)
        rw [if_pos c2, hc]
        simp only [Option.bind_some]
        by_cases cb : b = true
        · rw [if_pos cb]; exact fin _ _ (by simp) (by omega) (by omega)
        · rw [if_neg cb]; exact fin _ _ (by simp) (by omega) (by omega)
      · rw [if_neg c2]; exact fin _ _ (by simp) (by omega) (by omega)
theorem pick_ok {l : List Int} (hb : Bytes8 l) (s : Int) (L : List Int) (h0 : 0 ≤ s) (h1 : s ≤ 10000000) (hL : 0 < L.length) :
    ∃ v, spec_l1Pick.f l s L = some (v, s + 1) ∧ v ∈ L := by
  unfold spec_l1Pick.f
  obtain ⟨v, hv, hv0, _, hv1⟩ := next_ok hb s (L.length : Int) h0 h1
  rw [hv]; simp only [Option.bind_some]
  have := hv1 (by omega)
  rw [if_pos hv0, if_pos this]
  exact ⟨_, rfl, rd_mem L v hv0 this⟩
theorem DrawPulsesFault_ok {l : List Int} (hb : Bytes8 l) (K : Nat) (hK : 100 ≤ K) : ∃ L k, spec_DrawPulsesFault.f K l = some (L, k) ∧ L.length ≤ 100 := by
  unfold spec_DrawPulsesFault.f spec_l1Source.f
  simp only [Option.bind_some]
  obtain ⟨k, hk, km⟩ := pick_ok hb 0 [0, 1, 2, 4, 6, 8] (by omega) (by omega) (by simp)
  rw [hk]; simp only [Option.bind_some]
  obtain ⟨d, hd, dm⟩ := pick_ok hb (0 + 1) [1, 2, 3, 4, 2, 4] (by omega) (by omega) (by simp)
  rw [hd]; simp only [Option.bind_some]
  have hk2 : 0 ≤ k ∧ k ≤ 8 := by simp only [List.mem_cons, List.not_mem_nil, or_false] at km; omega
  have hd2 : 1 ≤ d ∧ d ≤ 4 := by simp only [List.mem_cons, List.not_mem_nil, or_false] at dm; omega
  unfold spec_l11Draw.f spec_l1Zeros.f
  rw [if_pos (by omega), if_pos (by omega)]
  simp only [Option.bind_some]
  obtain ⟨R, s, hR, hRl, s0, s1⟩ := l11Draw_l0 hb d k.toNat (List.replicate d.toNat 0) (0 + 1 + 1) K (by simp; omega) hd2.1 (by omega) (by omega) (by omega)
  rw [Int.toNat_of_nonneg hk2.1] at hR
  have hRl2 : R.length = d.toNat := by rw [hRl]; simp
  rw [hR]; simp only [Option.bind_some]
  obtain ⟨e, he, _⟩ := next_ok hb s 14 (by omega) (by omega)
  rw [he]; simp only [Option.bind_some]
  by_cases c0 : e = 0
  · obtain ⟨f, hf, _⟩ := pick_ok hb (s + 1) [9, -9, 9223372036854775807, -9223372036854775808] (by omega) (by omega) (by simp)
    rw [if_pos c0, hf]; simp only [Option.bind_some]
    rw [if_pos (by omega)]
    exact ⟨_, _, rfl, by simp; omega⟩
  · rw [if_neg c0]
    by_cases c1 : e = 1
    · obtain ⟨f, hf, _⟩ := pick_ok hb (s + 1) [-1, 9, 3] (by omega) (by omega) (by simp)
      rw [if_pos c1, hf]
      exact ⟨_, _, rfl, by omega⟩
    · rw [if_neg c1]
      by_cases c2 : e = 2
      · rw [if_pos c2]
        rw [if_pos (by simp; omega)]
        exact ⟨_, _, rfl, by simp; omega⟩
      · rw [if_neg c2]
        by_cases c3 : e = 3
        · rw [if_pos c3]; exact ⟨_, _, rfl, by simp⟩
        · rw [if_neg c3]; exact ⟨_, _, rfl, by omega⟩
theorem DrawCountPulses_ok {l : List Int} (hb : Bytes8 l) : ∃ d k, spec_DrawCountPulses.f l = some (d, k) := by
  unfold spec_DrawCountPulses.f spec_l1Source.f
  simp only [Option.bind_some]
  obtain ⟨v, hv, _⟩ := pick_ok hb 0 [1, 2, 3, 4, 2, 4, 5, 0] (by omega) (by omega) (by simp)
  rw [hv]; simp only [Option.bind_some]
  obtain ⟨u, hu, _⟩ := pick_ok hb (0 + 1) [0, 1, 2, 4, 6, 8, 8, 9, -1] (by omega) (by omega) (by simp)
  rw [hu]; exact ⟨_, _, rfl⟩
theorem l1In_eq (a b c : Int) : spec_l1In.f a b c = some (decide (b ≤ a ∧ a ≤ c)) := by
  unfold spec_l1In.f
  by_cases h : a ≥ b
  · rw [if_pos h]; congr 1; have : b ≤ a := h; simp [this]
  · rw [if_neg h]; have : ¬ b ≤ a := h; simp [this]
theorem l11Ask_eq (a b : Int) : spec_l11Ask.f a b = some (decide ((1 ≤ a ∧ a ≤ 4) ∧ (0 ≤ b ∧ b ≤ 8))) := by
  unfold spec_l11Ask.f; simp only [l1In_eq, Option.bind_some]; by_cases h : 1 ≤ a ∧ a ≤ 4 <;> simp [h]
/-- How many pulses of k there are of a length. -/
def cnt : Nat → Nat → Nat
  | 0, k => if k = 0 then 1 else 0
  | d + 1, k => cnt d k + 2 * ((List.range k).map (cnt d)).sum
theorem l11Count_eq (d k : Int) (hd0 : 0 ≤ d) (hd1 : d ≤ 4) (hk0 : 0 ≤ k) (hk1 : k ≤ 8) (K : Nat) (hK : 120 ≤ K) : spec_l11Count.f K d k = some (cnt d.toNat k.toNat : Int) := by
  have key : ∀ d : Nat, d < 5 → ∀ k : Nat, k < 9 → spec_l11Count.f 120 (d : Int) (k : Int) = some (cnt d k : Int) := by decide +kernel
  have := key d.toNat (by omega) k.toNat (by omega)
  rw [Int.toNat_of_nonneg hd0, Int.toNat_of_nonneg hk0] at this
  exact at_rounds (g := fun K => spec_l11Count.f K d k) (spec_l11Count.mono d k) hK this
theorem inRange_eq (a b c : Int) : impl_inRange.f a b c = some (decide (b ≤ a ∧ a ≤ c)) := by
  unfold impl_inRange.f
  by_cases h : b ≤ a
  · rw [if_pos h]; simp [h]
  · rw [if_neg h]; simp [h]
theorem isDim_eq (a : Int) : impl_isDim.f a = some (decide (1 ≤ a ∧ a ≤ 4)) := by unfold impl_isDim.f; rw [inRange_eq]; rfl
theorem isPulses_eq (a : Int) : impl_isPulses.f a = some (decide (0 ≤ a ∧ a ≤ 8)) := by unfold impl_isPulses.f; rw [inRange_eq]; rfl
theorem countPulses_eq (d k : Int) (hd0 : 0 ≤ d) (hd1 : d ≤ 4) (hk0 : 0 ≤ k) (hk1 : k ≤ 8) (K : Nat) (hK : 120 ≤ K) : impl_countPulses.f K d k = some (cnt d.toNat k.toNat : Int) := by
  have key : ∀ d : Nat, d < 5 → ∀ k : Nat, k < 9 → impl_countPulses.f 120 (d : Int) (k : Int) = some (cnt d k : Int) := by decide +kernel
  have := key d.toNat (by omega) k.toNat (by omega)
  rw [Int.toNat_of_nonneg hd0, Int.toNat_of_nonneg hk0] at this
  exact at_rounds (g := fun K => impl_countPulses.f K d k) (impl_countPulses.mono d k) hK this
/-- What CountPulses answers. -/
def countR (d k : Int) : Int × Int := if (1 ≤ d ∧ d ≤ 4) ∧ (0 ≤ k ∧ k ≤ 8) then (0, (cnt d.toNat k.toNat : Int)) else (3, 0)
theorem CountPulses_eq (d k : Int) (K : Nat) (hK : 120 ≤ K) : impl_CountPulses.f K d k = some (countR d k) := by
  unfold impl_CountPulses.f countR
  simp only [isDim_eq, isPulses_eq, Option.bind_some, decide_eq_true_eq]
  by_cases h1 : 1 ≤ d ∧ d ≤ 4
  · by_cases h2 : 0 ≤ k ∧ k ≤ 8
    · simp [h1, h2, countPulses_eq d k (by omega) h1.2 h2.1 h2.2 K hK]
    · simp [h1, h2]
  · simp [h1]
theorem specCountPulses_eq (d k : Int) (K : Nat) (hK : 120 ≤ K) : spec_CountPulses.f K d k = some (countR d k) := by
  unfold spec_CountPulses.f countR
  simp only [l11Ask_eq, Option.bind_some, decide_eq_true_eq]
  by_cases h1 : 1 ≤ d ∧ d ≤ 4
  · by_cases h2 : 0 ≤ k ∧ k ≤ 8
    · simp [h1, h2, l11Count_eq d k (by omega) h1.2 h2.1 h2.2 K hK]
    · simp [h1, h2]
  · simp [h1]
theorem DrawPulsesAt_ok {l : List Int} (hb : Bytes8 l) (K : Nat) (hK : 200 ≤ K) : ∃ d k i, spec_DrawPulsesAt.f K l = some (d, k, i) := by
  unfold spec_DrawPulsesAt.f spec_l1Source.f
  simp only [Option.bind_some]
  obtain ⟨d, k, hd⟩ := DrawCountPulses_ok hb
  rw [hd]; simp only [Option.bind_some]
  rw [specCountPulses_eq d k K (by omega)]; simp only [Option.bind_some]
  obtain ⟨a, ha, _⟩ := next_ok hb 0 (countR d k).2 (by omega) (by omega)
  rw [ha]; simp only [Option.bind_some]
  obtain ⟨b, hb', _⟩ := next_ok hb (0 + 1) (countR d k).2 (by omega) (by omega)
  rw [hb']; simp only [Option.bind_some]
  obtain ⟨c, hc, _⟩ := next_ok hb (0 + 1 + 1) (countR d k).2 (by omega) (by omega)
  rw [hc]; simp only [Option.bind_some]
  obtain ⟨e, he, _⟩ := pick_ok hb (0 + 1 + 1 + 1) [0, wrap64 ((countR d k).2 - 1), (countR d k).2, -1, a, b, c] (by omega) (by omega) (by simp)
  rw [he]; exact ⟨_, _, _, rfl⟩
theorem codeIf_eq (b : Bool) (c : Int) : impl_codeIf.f b c = some (if b = true then c else 0) := by unfold impl_codeIf.f; split <;> rfl
theorem idxP_any (p : Int → Option Bool) (q : Int → Bool) : ∀ (l : List Int) (i : Int), 0 ≤ i → (∀ x ∈ l, p x = some (q x)) → ∃ r, idxP p l i = some r ∧ decide (0 ≤ r) = l.any q
  | [], i, _, _ => ⟨-1, rfl, by simp⟩
  | x :: l, i, hi, h => by
    obtain ⟨r, hr, hq⟩ := idxP_any p q l (i + 1) (by omega) (fun y hy => h y (by simp [hy]))
    simp only [idxP]
    rw [h x (by simp)]
    simp only [Option.bind_some]
    cases hx : q x with
    | true => exact ⟨i, by simp, by simp [hx, hi]⟩
    | false => exact ⟨r, by simp [hr], by simp [hx, hq]⟩
theorem anyP_eq (p : Int → Option Bool) (q : Int → Bool) (l : List Int) (h : ∀ x ∈ l, p x = some (q x)) : anyP p l = some (l.any q) := by
  obtain ⟨r, hr, hq⟩ := idxP_any p q l 0 (by omega) h
  unfold anyP; rw [hr]; simp only [Option.bind_some]; rw [hq]
/-- All of a list lie between two bounds. -/
def allW (l : List Int) (a b : Int) : Bool := l.all fun x => decide (a ≤ x ∧ x ≤ b)
theorem allW_cons (x : Int) (l : List Int) (a b : Int) : allW (x :: l) a b = (decide (a ≤ x ∧ x ≤ b) && allW l a b) := by simp [allW]
theorem allW_mem {l : List Int} {a b : Int} (h : allW l a b = true) {x : Int} (hx : x ∈ l) : a ≤ x ∧ x ≤ b := by
  unfold allW at h; rw [List.all_eq_true] at h; simpa using h x hx
theorem allW_mk {l : List Int} {a b : Int} (h : ∀ x ∈ l, a ≤ x ∧ x ≤ b) : allW l a b = true := by
  unfold allW; rw [List.all_eq_true]; intro x hx; simpa using h x hx
theorem within_eq (a b : Int) (h0 : 0 ≤ b) (h1 : b ≤ 9223372036854775807) : impl_within.f a b = some (decide (-b ≤ a ∧ a ≤ b)) := by
  unfold impl_within.f; rw [w64 (by omega) (by omega), inRange_eq]; rfl
theorem allWithin_eq (l : List Int) (m : Int) (h0 : 0 ≤ m) (h1 : m ≤ 9223372036854775807) : impl_allWithin.f l m = some (allW l (-m) m) := by
  unfold impl_allWithin.f
  rw [anyP_eq (notWithinP m) (fun x => !decide (-m ≤ x ∧ x ≤ m)) l (fun x _ => by unfold notWithinP; rw [within_eq x m h0 h1]; rfl)]
  simp only [Option.bind_some]
  congr 1
  unfold allW
  rw [List.any_eq_not_all_not]; simp
/-- The sum of the absolute values. -/
def nrm : List Int → Nat
  | [] => 0
  | x :: l => x.natAbs + nrm l
theorem nrm_append : ∀ (a b : List Int), nrm (a ++ b) = nrm a + nrm b
  | [], b => by simp [nrm]
  | x :: a, b => by simp only [List.cons_append, nrm, nrm_append a b]; omega
theorem nrm_le (M : Nat) : ∀ (l : List Int), (∀ x ∈ l, x.natAbs ≤ M) → nrm l ≤ M * l.length
  | [], _ => by simp [nrm]
  | x :: l, h => by
    have h1 := nrm_le M l (fun y hy => h y (by simp [hy]))
    have h2 := h x (by simp)
    simp only [nrm, List.length_cons, Nat.mul_add, Nat.mul_one]; omega
theorem nrm_mem : ∀ {l : List Int} {x : Int}, x ∈ l → x.natAbs ≤ nrm l
  | y :: l, x, h => by
    simp only [nrm]
    rcases List.mem_cons.1 h with rfl | h
    · omega
    · have := nrm_mem h; omega
theorem allW_nrm {l : List Int} {M : Nat} (h : allW l (-(M : Int)) M = true) : nrm l ≤ M * l.length :=
  nrm_le M l (fun x hx => by have := allW_mem h hx; omega)
theorem abs_eq (x : Int) (h0 : -9223372036854775807 ≤ x) (h1 : x ≤ 9223372036854775807) : impl_abs.f x = some (x.natAbs : Int) := by
  unfold impl_abs.f mx; rw [w64 (by omega) (by omega)]; congr 1; split <;> omega
theorem rd_append_right (P Q : List Int) (i : Int) (h : i = (P.length : Int)) (x : Int) (R : List Int) (hQ : Q = x :: R) : rd (P ++ Q) i = x := by
  subst hQ; unfold rd; rw [h, Int.toNat_natCast, List.getD_eq_getElem?_getD, List.getElem?_append_right (Nat.le_refl _)]; simp
theorem rd_get (l : List Int) (i : Int) (h0 : 0 ≤ i) (h1 : i < (l.length : Int)) : rd l i = l[i.toNat]'(by omega) := by
  unfold rd; rw [List.getD_eq_getElem?_getD, List.getElem?_eq_getElem (by omega)]; rfl
theorem normOf_l0 (l : List Int) (hl : l.length ≤ 2000000) (hb : ∀ x ∈ l, x.natAbs ≤ 1099511627776) : ∀ (rest pre : List Int) (i s : Int) (k : Nat), l = pre ++ rest → (pre.length : Int) = i → rest.length < k → s = (nrm pre : Int) → impl_normOf.l0 k s l (l.length : Int) i = some (nrm l : Int) := by
  intro rest
  induction rest with
  | nil =>
    intro pre i s k h1 hi hk hs
    obtain ⟨k, rfl⟩ : ∃ m, k = m + 1 := ⟨k - 1, by omega⟩
    simp only [impl_normOf.l0]
    rw [if_neg (by rw [h1]; simp; omega), hs, h1]; simp
  | cons x rest ih =>
    intro pre i s k h1 hi hk hs
    obtain ⟨k, rfl⟩ : ∃ m, k = m + 1 := ⟨k - 1, by omega⟩
    simp only [List.length_cons] at hk
    have hlen : l.length = pre.length + (rest.length + 1) := by rw [h1]; simp
    have hx := hb x (by rw [h1]; simp)
    have hp := nrm_le 1099511627776 pre (fun y hy => hb y (by rw [h1]; simp [hy]))
    have hp2 : 1099511627776 * pre.length ≤ 1099511627776 * 2000000 := Nat.mul_le_mul_left _ (by omega)
    simp only [impl_normOf.l0]
    have hr : rd l i = x := by rw [h1]; exact rd_append_right pre (x :: rest) i hi.symm x rest rfl
    rw [if_pos (by omega), if_pos (by omega), if_pos (by omega), hr, abs_eq x (by omega) (by omega)]
    simp only [Option.bind_some]
    rw [w64 (n := s + _) (by omega) (by omega), w64 (n := i + 1) (by omega) (by omega)]
    exact ih (pre ++ [x]) (i + 1) _ k (by rw [h1]; simp) (by simp; omega) (by omega) (by rw [nrm_append]; simp only [nrm]; omega)
theorem normOf_eq (l : List Int) (hl : l.length ≤ 2000000) (hb : ∀ x ∈ l, x.natAbs ≤ 1099511627776) (k : Nat) (hk : l.length < k) : impl_normOf.f k l = some (nrm l : Int) := by
  unfold impl_normOf.f; exact normOf_l0 l hl hb l [] 0 0 k rfl rfl hk rfl
/-- The first code that is not 0. -/
def fst0 : List Int → Int
  | [] => 0
  | x :: l => if x = 0 then fst0 l else x
theorem first_l0 (l : List Int) (hl : l.length ≤ 2000000) : ∀ (rest pre : List Int) (i : Int) (k : Nat), l = pre ++ rest → (pre.length : Int) = i → rest.length < k → impl_first.l0 k l (l.length : Int) i = some (fst0 rest) := by
  intro rest
  induction rest with
  | nil =>
    intro pre i k h1 hi hk
    obtain ⟨k, rfl⟩ : ∃ m, k = m + 1 := ⟨k - 1, by omega⟩
    simp only [impl_first.l0]
    rw [if_neg (by rw [h1]; simp; omega)]; rfl
  | cons x rest ih =>
    intro pre i k h1 hi hk
    obtain ⟨k, rfl⟩ : ∃ m, k = m + 1 := ⟨k - 1, by omega⟩
    simp only [List.length_cons] at hk
    have hlen : l.length = pre.length + (rest.length + 1) := by rw [h1]; simp
    simp only [impl_first.l0]
    have hr : rd l i = x := by rw [h1]; exact rd_append_right pre (x :: rest) i hi.symm x rest rfl
    rw [if_pos (by omega), if_pos (by omega), if_pos (by omega), hr, w64 (n := i + 1) (by omega) (by omega)]
    simp only [fst0]
    by_cases c : x = 0
    · rw [if_pos c, if_pos c]; exact ih (pre ++ [x]) (i + 1) k (by rw [h1]; simp) (by simp; omega) (by omega)
    · rw [if_neg c, if_neg c]
theorem first_eq (l : List Int) (hl : l.length ≤ 1000) (k : Nat) (hk : l.length < k) : impl_first.f k l = some (fst0 l) := by
  unfold impl_first.f; exact first_l0 l (by omega) l [] 0 k rfl rfl hk
/-- The code of pulses. -/
def pfR (l : List Int) (k : Int) : Int := if ¬ (1 ≤ (l.length : Int) ∧ (l.length : Int) ≤ 4) then 2 else if ¬ (0 ≤ k ∧ k ≤ 8) then 3 else if allW l (-8) 8 = true ∧ (nrm l : Int) = k then 0 else 1
theorem allW8_nat {l : List Int} (h : allW l (-8) 8 = true) : ∀ x ∈ l, x.natAbs ≤ 1099511627776 := fun x hx => by have := allW_mem h hx; omega
theorem PulsesFault_eq (l : List Int) (a : Int) (hl : l.length ≤ 2000000) (k : Nat) (hk : l.length + 10 < k) : impl_PulsesFault.f k l a = some (pfR l a) := by
  unfold impl_PulsesFault.f
  simp only [isDim_eq, isPulses_eq, codeIf_eq, Option.bind_some]
  rw [allWithin_eq l 8 (by omega) (by omega)]
  simp only [Option.bind_some]
  unfold pfR
  by_cases hw : allW l (-8) 8 = true
  · rw [if_pos hw, normOf_eq l hl (allW8_nat hw) k (by omega)]
    simp only [Option.bind_some]
    rw [first_eq _ (by simp) k (by simp; omega)]
    by_cases h1 : 1 ≤ (l.length : Int) ∧ (l.length : Int) ≤ 4
    · by_cases h2 : 0 ≤ a ∧ a ≤ 8
      · by_cases h3 : (nrm l : Int) = a
        · simp [h1, h2, h3, hw, fst0]
        · simp [h1, h2, h3, hw, fst0]
      · simp [h1, h2, fst0]
    · simp [h1, fst0]
  · rw [if_neg hw]
    simp only [if_true, Option.bind_some]
    rw [first_eq _ (by simp) k (by simp; omega)]
    by_cases h1 : 1 ≤ (l.length : Int) ∧ (l.length : Int) ≤ 4
    · by_cases h2 : 0 ≤ a ∧ a ≤ 8
      · simp [h1, h2, hw, fst0]
      · simp [h1, h2, fst0]
    · simp [h1, fst0]
theorem pfR_0 {l : List Int} {k : Int} (h : pfR l k = 0) : (1 ≤ (l.length : Int) ∧ (l.length : Int) ≤ 4) ∧ (0 ≤ k ∧ k ≤ 8) ∧ allW l (-8) 8 = true ∧ (nrm l : Int) = k := by
  unfold pfR at h
  by_cases h1 : 1 ≤ (l.length : Int) ∧ (l.length : Int) ≤ 4
  · by_cases h2 : 0 ≤ k ∧ k ≤ 8
    · by_cases h3 : allW l (-8) 8 = true ∧ (nrm l : Int) = k
      · exact ⟨h1, h2, h3⟩
      · rw [if_neg (by simpa using h1), if_neg (by simpa using h2), if_neg h3] at h; simp at h
    · rw [if_neg (by simpa using h1), if_pos (by simpa using h2)] at h; simp at h
  · rw [if_pos h1] at h; simp at h
/-- How many pulses of k there are with m numbers behind a first one that is j - k. -/
def cw (m k j : Nat) : Int := (cnt m (k - ((j : Int) - k).natAbs) : Int)
/-- How many with a first number below j - k. -/
def hs (m k : Nat) : Nat → Int
  | 0 => 0
  | j + 1 => hs m k j + cw m k j
theorem hs_succ (m k j : Nat) : hs m k (j + 1) = hs m k j + cw m k j := rfl
theorem hs_total (m k : Nat) (hm : m ≤ 3) (hk : k ≤ 8) : hs m k (2 * k + 1) = (cnt (m + 1) k : Int) := by
  have key : ∀ m : Nat, m < 4 → ∀ k : Nat, k < 9 → hs m k (2 * k + 1) = (cnt (m + 1) k : Int) := by decide +kernel
  exact key m (by omega) k (by omega)
theorem cnt_le (m k : Nat) (hm : m ≤ 4) (hk : k ≤ 8) : cnt m k ≤ 10000 := by
  have key : ∀ m : Nat, m < 5 → ∀ k : Nat, k < 9 → cnt m k ≤ 10000 := by decide +kernel
  exact key m (by omega) k (by omega)
theorem cw_nonneg (m k j : Nat) : 0 ≤ cw m k j := by unfold cw; omega
theorem hs_mono (m k : Nat) : ∀ i j : Nat, i ≤ j → hs m k i ≤ hs m k j := by
  intro i j h
  induction j with
  | zero => obtain rfl : i = 0 := by omega
            exact Int.le_refl _
  | succ j ih =>
    by_cases e : i = j + 1
    · subst e; exact Int.le_refl _
    · have := ih (by omega); have := cw_nonneg m k j; simp only [hs]; omega
/-- From first number j - k on: the first number of the pulses of a number, and what is left of it. -/
def atJ (m k : Nat) : Nat → Nat → Int → Nat × Int
  | 0, j, i => (j, i)
  | n + 1, j, i => if i ≥ cw m k j then atJ m k n (j + 1) (i - cw m k j) else (j, i)
theorem atJ_spec (m k : Nat) : ∀ (n j : Nat) (i : Int), j + n = 2 * k + 1 → 0 ≤ i → i < hs m k (2 * k + 1) - hs m k j →
    hs m k (atJ m k n j i).1 + (atJ m k n j i).2 = hs m k j + i ∧ 0 ≤ (atJ m k n j i).2 ∧ (atJ m k n j i).2 < cw m k (atJ m k n j i).1 ∧ (atJ m k n j i).1 ≤ 2 * k ∧ j ≤ (atJ m k n j i).1 := by
  intro n
  induction n with
  | zero =>
    intro j i hj h0 h1
    obtain rfl : j = 2 * k + 1 := by omega
    omega
  | succ n ih =>
    intro j i hj h0 h1
    simp only [atJ]
    by_cases c : i ≥ cw m k j
    · rw [if_pos c]
      have h := ih (j + 1) (i - cw m k j) (by omega) (by omega) (by rw [hs_succ m k j]; omega)
      rw [hs_succ m k j] at h
      refine ⟨by omega, h.2.1, h.2.2.1, h.2.2.2.1, by omega⟩
    · rw [if_neg c]
      refine ⟨rfl, h0, by simp only; omega, by simp only; omega, Nat.le_refl _⟩
theorem atJ_back (m k : Nat) (J : Nat) (I : Int) (h0 : 0 ≤ I) (h1 : I < cw m k J) : ∀ (n j : Nat), j ≤ J → J < j + n → atJ m k n j (hs m k J - hs m k j + I) = (J, I) := by
  intro n
  induction n with
  | zero => intro j h2 h3; omega
  | succ n ih =>
    intro j h2 h3
    simp only [atJ]
    by_cases e : j = J
    · subst e; rw [if_neg (by omega)]; congr 1; omega
    · have hm := hs_mono m k (j + 1) J (by omega)
      simp only [hs] at hm
      rw [if_pos (by omega)]
      have := ih (j + 1) (by omega) (by omega)
      rw [hs_succ m k j] at this
      rw [← this]; congr 1; omega
/-- The pulses of a number. -/
def atL : Nat → Nat → Int → List Int
  | 0, _, _ => []
  | m + 1, k, i => (((atJ m k (2 * k + 1) 0 i).1 : Int) - k) :: atL m (k - (((atJ m k (2 * k + 1) 0 i).1 : Int) - k).natAbs) (atJ m k (2 * k + 1) 0 i).2
theorem atL_length : ∀ (m k : Nat) (i : Int), (atL m k i).length = m
  | 0, _, _ => rfl
  | m + 1, k, i => by simp only [atL, List.length_cons, atL_length m]
/-- How many pulses of k stand ahead of a list. -/
def idxL : List Int → Nat → Int
  | [], _ => 0
  | v :: l, k => hs l.length k (v + k).toNat + idxL l (k - v.natAbs)
theorem idxL_range : ∀ (l : List Int) (k : Nat), l.length ≤ 4 → k ≤ 8 → nrm l = k → 0 ≤ idxL l k ∧ idxL l k < (cnt l.length k : Int)
  | [], k, _, hk, hn => by
    simp only [nrm] at hn; subst hn; simp [idxL, cnt]
  | v :: l, k, hl, hk, hn => by
    simp only [nrm] at hn
    simp only [List.length_cons] at hl
    have ih := idxL_range l (k - v.natAbs) (by omega) (by omega) (by omega)
    simp only [idxL, List.length_cons]
    have ht := hs_total l.length k (by omega) hk
    have h1 := hs_mono l.length k 0 (v + k).toNat (by omega)
    have h2 := hs_mono l.length k ((v + k).toNat + 1) (2 * k + 1) (by omega)
    rw [hs_succ] at h2
    have h3 : cw l.length k (v + k).toNat = (cnt l.length (k - v.natAbs) : Int) := by unfold cw; congr 2; omega
    have h4 : hs l.length k 0 = 0 := rfl
    omega
theorem indexPulses_l1 (l0 : List Int) (m k : Nat) (hm : m ≤ 3) (hk : k ≤ 8) (v : Int) (hv : -(k : Int) ≤ v ∧ v ≤ k) (R : Int) (K0 : Nat) (l : List Int) (x11 i : Int) (hi : 0 ≤ i ∧ i ≤ 1000) : ∀ (n j : Nat) (s : Int) (K : Nat), (j : Int) - k + n = v → 0 ≤ s → s + (hs m k (v + k).toNat - hs m k j) ≤ 1000000000 → K0 + n + 130 ≤ K →
    (impl_indexPulses.l0 K0 l0 (((k - v.natAbs : Nat)) : Int) (s + (hs m k (v + k).toNat - hs m k j)) l x11 (i + 1) = some R) →
    impl_indexPulses.l1 K l0 (k : Int) s v (m : Int) ((j : Int) - k) l x11 i = some R := by
  intro n
  induction n with
  | zero =>
    intro j s K hj h0 h1 hK h
    obtain ⟨K, rfl⟩ : ∃ q, K = q + 1 := ⟨K - 1, by omega⟩
    simp only [impl_indexPulses.l1]
    rw [if_neg (by omega), abs_eq v (by omega) (by omega)]
    simp only [Option.bind_some]
    rw [w64 (n := (k : Int) - _) (by omega) (by omega), w64 (n := i + 1) (by omega) (by omega)]
    have e : (v + k).toNat = j := by omega
    rw [e] at h
    refine at_rounds (g := fun K => impl_indexPulses.l0 K _ _ _ _ _ _) (fun K => (impl_indexPulses.mono_l K).1 _ _ _ _ _ _) (show K0 ≤ K by omega) ?_
    rw [← h]; congr 1 <;> omega
  | succ n ih =>
    intro j s K hj h0 h1 hK h
    obtain ⟨K, rfl⟩ : ∃ q, K = q + 1 := ⟨K - 1, by omega⟩
    have hb : cw m k j ≤ 10000 := by have := cnt_le m (k - ((j : Int) - k).natAbs) (by omega) (by omega); unfold cw; omega
    have hn := cw_nonneg m k j
    have hmo := hs_mono m k j (v + k).toNat (by omega)
    have ec : (cnt ((m : Int)).toNat ((k : Int) - (((j : Int) - k).natAbs : Int)).toNat : Int) = cw m k j := by unfold cw; congr 1; congr 1; omega
    simp only [impl_indexPulses.l1]
    rw [if_pos (by omega), abs_eq _ (by omega) (by omega)]
    simp only [Option.bind_some]
    rw [w64 (n := (k : Int) - _) (by omega) (by omega), countPulses_eq (m : Int) _ (by omega) (by omega) (by omega) (by omega) K (by omega), ec]
    simp only [Option.bind_some]
    rw [w64 (n := s + cw m k j) (by omega) (by omega), w64 (n := (j : Int) - k + 1) (by omega) (by omega)]
    have e2 : (j : Int) - k + 1 = ((j + 1 : Nat) : Int) - k := by omega
    rw [e2]
    refine ih (j + 1) (s + cw m k j) K (by omega) (by omega) (by rw [hs_succ m k j]; omega) (by omega) ?_
    rw [← h, hs_succ m k j]; congr 1; omega
theorem indexPulses_l0 (L : List Int) (hL : L.length ≤ 4) : ∀ (rest pre : List Int) (k : Nat) (s i : Int) (K : Nat), L = pre ++ rest → (pre.length : Int) = i → k ≤ 8 → nrm rest = k → 0 ≤ s → s + 20000 * rest.length ≤ 100000000 → 200 * rest.length + 1 ≤ K →
    impl_indexPulses.l0 K L (k : Int) s L (L.length : Int) i = some (s + idxL rest k) := by
  intro rest
  induction rest with
  | nil =>
    intro pre k s i K h1 hi hk hn h0 hs1 hK
    obtain ⟨K, rfl⟩ : ∃ q, K = q + 1 := ⟨K - 1, by omega⟩
    simp only [impl_indexPulses.l0]
    rw [if_neg (by rw [h1]; simp; omega)]; simp [idxL]
  | cons v rest ih =>
    intro pre k s i K h1 hi hk hn h0 hs1 hK
    obtain ⟨K, rfl⟩ : ∃ q, K = q + 1 := ⟨K - 1, by omega⟩
    simp only [List.length_cons] at hK hs1
    simp only [nrm] at hn
    have hlen : L.length = pre.length + (rest.length + 1) := by rw [h1]; simp
    have hr2 : rd L i = v := by rw [h1]; exact rd_append_right pre (v :: rest) i hi.symm v rest rfl
    have hh := hs_total rest.length k (by omega) hk
    have hc := cnt_le (rest.length + 1) k (by omega) hk
    have hm1 := hs_mono rest.length k (v + k).toNat (2 * k + 1) (by omega)
    have hm0 := hs_mono rest.length k 0 (v + k).toNat (by omega)
    have hz : hs rest.length k 0 = 0 := rfl
    simp only [impl_indexPulses.l0]
    rw [if_pos (by omega), if_pos (by omega), if_pos (by omega), hr2, w64 (n := (L.length : Int) - 1) (by omega) (by omega), w64 (n := (L.length : Int) - 1 - i) (by omega) (by omega), w64 (n := -(k : Int)) (by omega) (by omega)]
    have e1 : (L.length : Int) - 1 - i = (rest.length : Int) := by omega
    have e2 : -(k : Int) = ((0 : Nat) : Int) - k := by omega
    rw [e1, e2]
    refine indexPulses_l1 L rest.length k (by omega) hk v (by omega) _ (200 * rest.length + 1) L _ i (by omega) (v + k).toNat 0 s K (by omega) h0 (by omega) (by omega) ?_
    rw [ih (pre ++ [v]) (k - v.natAbs) (s + (hs rest.length k (v + k).toNat - hs rest.length k 0)) (i + 1) (200 * rest.length + 1) (by rw [h1]; simp) (by simp; omega) (by omega) (by omega) (by omega) (by omega) (Nat.le_refl _)]
    congr 1; simp only [idxL]; omega
theorem indexPulses_eq (l : List Int) (k : Int) (hl : l.length ≤ 4) (hk0 : 0 ≤ k) (hk1 : k ≤ 8) (hn : (nrm l : Int) = k) (K : Nat) (hK : 1000 ≤ K) : impl_indexPulses.f K l k = some (idxL l k.toNat) := by
  unfold impl_indexPulses.f
  have := indexPulses_l0 l hl l [] k.toNat 0 0 K rfl rfl (by omega) (by omega) (by omega) (by omega) (by omega)
  rw [Int.toNat_of_nonneg hk0] at this
  rw [this]; simp
def ipR (l : List Int) (k : Int) : Int × Int := if pfR l k = 0 then (0, idxL l k.toNat) else (pfR l k, 0)
theorem IndexPulses_eq (l : List Int) (k : Int) (hl : l.length ≤ 2000000) (K : Nat) (hK : l.length + 1000 ≤ K) : impl_IndexPulses.f K l k = some (ipR l k) := by
  unfold impl_IndexPulses.f ipR
  rw [PulsesFault_eq l k hl K (by omega)]
  simp only [Option.bind_some]
  by_cases h : pfR l k = 0
  · obtain ⟨h1, h2, h3, h4⟩ := pfR_0 h
    rw [if_pos h, if_pos h, indexPulses_eq l k (by omega) h2.1 h2.2 h4 K (by omega)]; rfl
  · rw [if_neg h, if_neg h]
/-- What NextPulses answers. -/
def nxtR (l : List Int) (k : Int) : Int × List Int := if pfR l k = 0 then (if idxL l k.toNat + 1 < (cnt l.length k.toNat : Int) then (0, atL l.length k.toNat (idxL l k.toNat + 1)) else (4, [])) else (pfR l k, [])
theorem nxtR_length (l : List Int) (k : Int) : (nxtR l k).2.length ≤ 4 := by
  unfold nxtR
  by_cases h : pfR l k = 0
  · rw [if_pos h]
    have := pfR_0 h
    split
    · simp only [atL_length]; omega
    · simp
  · rw [if_neg h]; simp
theorem pulsesAt_l1 (m k : Nat) (hm : m ≤ 3) (hk : k ≤ 8) (acc : List Int) (ha : acc.length ≤ 100) (R : List Int) (K0 : Nat) : ∀ (n j : Nat) (i : Int) (K : Nat), j + n = 2 * k → 0 ≤ i → i < hs m k (2 * k + 1) - hs m k j → K0 + n + 130 ≤ K →
    impl_pulsesAt.l0 K0 ((k - (((atJ m k (n + 1) j i).1 : Int) - k).natAbs : Nat) : Int) (atJ m k (n + 1) j i).2 (acc ++ [((atJ m k (n + 1) j i).1 : Int) - k]) ((m : Int) - 1) = some R →
    impl_pulsesAt.l1 K (k : Int) i acc (m : Int) ((j : Int) - k) (cw m k j) = some R := by
  intro n
  induction n with
  | zero =>
    intro j i K hj h0 h1 hK h
    obtain ⟨K, rfl⟩ : ∃ q, K = q + 1 := ⟨K - 1, by omega⟩
    obtain rfl : j = 2 * k := by omega
    simp only [hs] at h1
    have e : atJ m k (0 + 1) (2 * k) i = (2 * k, i) := by simp only [atJ]; rw [if_neg (by omega)]
    rw [e] at h
    simp only [impl_pulsesAt.l1]
    rw [if_neg (by omega), if_pos (by omega), abs_eq _ (by omega) (by omega)]
    simp only [Option.bind_some]
    rw [w64 (n := (k : Int) - _) (by omega) (by omega), w64 (n := (m : Int) - 1) (by omega) (by omega)]
    refine at_rounds (g := fun K => impl_pulsesAt.l0 K _ _ _ _) (fun K => (impl_pulsesAt.mono_l K).1 _ _ _ _) (show K0 ≤ K by omega) ?_
    rw [← h]; congr 1; simp only; omega
  | succ n ih =>
    intro j i K hj h0 h1 hK h
    obtain ⟨K, rfl⟩ : ∃ q, K = q + 1 := ⟨K - 1, by omega⟩
    simp only [impl_pulsesAt.l1]
    have hb : cw m k j ≤ 10000 := by have := cnt_le m (k - ((j : Int) - k).natAbs) (by omega) (by omega); unfold cw; omega
    have hn := cw_nonneg m k j
    have hm1 := hs_mono m k j (2 * k + 1) (by omega)
    have htot := hs_total m k hm hk
    have htb := cnt_le (m + 1) k (by omega) hk
    have hz := hs_mono m k 0 j (by omega)
    have hz0 : hs m k 0 = 0 := rfl
    by_cases c : i ≥ cw m k j
    · have e : atJ m k (n + 1 + 1) j i = atJ m k (n + 1) (j + 1) (i - cw m k j) := by rw [atJ, if_pos c]
      rw [e] at h
      rw [if_pos c, w64 (n := (j : Int) - k + 1) (by omega) (by omega), abs_eq _ (by omega) (by omega)]
      simp only [Option.bind_some]
      rw [w64 (n := (k : Int) - _) (by omega) (by omega), countPulses_eq (m : Int) _ (by omega) (by omega) (by omega) (by omega) K (by omega), w64 (n := i - cw m k j) (by omega) (by omega)]
      simp only [Option.bind_some]
      have := ih (j + 1) (i - cw m k j) K (by omega) (by omega) (by rw [hs_succ m k j]; omega) (by omega) h
      rw [← this]
      congr 1
      · omega
      · unfold cw; congr 1; congr 1; omega
    · have e : atJ m k (n + 1 + 1) j i = (j, i) := by rw [atJ, if_neg c]
      rw [e] at h
      rw [if_neg c, if_pos (by omega), abs_eq _ (by omega) (by omega)]
      simp only [Option.bind_some]
      rw [w64 (n := (k : Int) - _) (by omega) (by omega), w64 (n := (m : Int) - 1) (by omega) (by omega)]
      refine at_rounds (g := fun K => impl_pulsesAt.l0 K _ _ _ _) (fun K => (impl_pulsesAt.mono_l K).1 _ _ _ _) (show K0 ≤ K by omega) ?_
      rw [← h]; congr 1; simp only; omega
theorem pulsesAt_l0 : ∀ (m k : Nat) (i : Int) (acc : List Int) (K : Nat), m ≤ 4 → k ≤ 8 → 0 ≤ i → i < (cnt m k : Int) → acc.length + m ≤ 100 → 200 * m + 1 ≤ K →
    impl_pulsesAt.l0 K (k : Int) i acc ((m : Int) - 1) = some (acc ++ atL m k i) := by
  intro m
  induction m with
  | zero =>
    intro k i acc K hm hk h0 h1 ha hK
    obtain ⟨K, rfl⟩ : ∃ q, K = q + 1 := ⟨K - 1, by omega⟩
    simp only [impl_pulsesAt.l0]; rw [if_neg (by omega)]; simp [atL]
  | succ m ih =>
    intro k i acc K hm hk h0 h1 ha hK
    obtain ⟨K, rfl⟩ : ∃ q, K = q + 1 := ⟨K - 1, by omega⟩
    simp only [impl_pulsesAt.l0]
    rw [← hs_total m k (by omega) hk] at h1
    have hz0 : hs m k 0 = 0 := rfl
    have sp := atJ_spec m k (2 * k + 1) 0 i (by omega) h0 (by omega)
    rw [if_pos (by omega), w64 (n := -(k : Int)) (by omega) (by omega), abs_eq _ (by omega) (by omega)]
    simp only [Option.bind_some]
    rw [w64 (n := (k : Int) - _) (by omega) (by omega), countPulses_eq _ _ (by omega) (by omega) (by omega) (by omega) K (by omega)]
    simp only [Option.bind_some]
    have hc : (atJ m k (2 * k + 1) 0 i).2 < (cnt m (k - (((atJ m k (2 * k + 1) 0 i).1 : Int) - k).natAbs) : Int) := by have := sp.2.2.1; unfold cw at this; exact this
    have nx := ih (k - (((atJ m k (2 * k + 1) 0 i).1 : Int) - k).natAbs) (atJ m k (2 * k + 1) 0 i).2 (acc ++ [((atJ m k (2 * k + 1) 0 i).1 : Int) - k]) (200 * m + 1) (by omega) (by omega) sp.2.1 hc (by simp; omega) (Nat.le_refl _)
    have := pulsesAt_l1 m k (by omega) hk acc (by omega) _ (200 * m + 1) (2 * k) 0 i K (by omega) h0 (by omega) (by omega) nx
    have e1 : ((m + 1 : Nat) : Int) - 1 = (m : Int) := by omega
    have e2 : ((0 : Nat) : Int) - (k : Int) = -(k : Int) := by omega
    have e3 : (cnt ((m : Int)).toNat (((k : Int) - ((-(k : Int)).natAbs : Int))).toNat : Int) = cw m k 0 := by unfold cw; congr 1; congr 1; omega
    rw [e2] at this
    rw [e1, e3, this]
    simp [atL]
theorem pulsesAt_eq (d k i : Int) (hd0 : 0 ≤ d) (hd1 : d ≤ 4) (hk0 : 0 ≤ k) (hk1 : k ≤ 8) (h0 : 0 ≤ i) (h1 : i < (cnt d.toNat k.toNat : Int)) (K : Nat) (hK : 900 ≤ K) : impl_pulsesAt.f K d k i = some (atL d.toNat k.toNat i) := by
  unfold impl_pulsesAt.f
  rw [w64 (n := d - 1) (by omega) (by omega)]
  have := pulsesAt_l0 d.toNat k.toNat i [] K (by omega) (by omega) h0 h1 (by simp; omega) (by omega)
  rw [Int.toNat_of_nonneg hk0, Int.toNat_of_nonneg hd0] at this
  rw [this]; simp
theorem NextPulses_eq (l : List Int) (k : Int) (hl : l.length ≤ 2000000) (K : Nat) (hK : l.length + 1000 ≤ K) : impl_NextPulses.f K l k = some (nxtR l k) := by
  unfold impl_NextPulses.f nxtR
  rw [PulsesFault_eq l k hl K (by omega)]
  simp only [Option.bind_some]
  by_cases h : pfR l k = 0
  · obtain ⟨h1, h2, h3, h4⟩ := pfR_0 h
    obtain ⟨r0, r1⟩ := idxL_range l k.toNat (by omega) (by omega) (by omega)
    have hb := cnt_le l.length k.toNat (by omega) (by omega)
    rw [if_pos h, if_pos h, indexPulses_eq l k (by omega) h2.1 h2.2 h4 K (by omega)]
    simp only [Option.bind_some]
    rw [countPulses_eq (l.length : Int) k (by omega) h1.2 h2.1 h2.2 K (by omega)]
    simp only [Option.bind_some, Int.toNat_natCast]
    rw [w64 (n := (cnt l.length k.toNat : Int) - 1) (by omega) (by omega)]
    by_cases h5 : idxL l k.toNat + 1 < (cnt l.length k.toNat : Int)
    · rw [if_neg (by omega), if_pos h5, w64 (n := idxL l k.toNat + 1) (by omega) (by omega), pulsesAt_eq (l.length : Int) k _ (by omega) h1.2 h2.1 h2.2 (by omega) (by simpa using h5) K (by omega)]
      simp only [Option.bind_some, Int.toNat_natCast]
      unfold slices_Clone_int64_int64.f
      rw [if_pos (by rw [atL_length]; omega)]; rfl
    · rw [if_pos (by omega), if_neg h5]
  · rw [if_neg h, if_neg h]
theorem l1All_l0 (a b : Int) : ∀ (rest pre : List Int) (i : Int) (k : Nat), (pre.length : Int) = i → rest.length < k → pre.length + rest.length ≤ 1000000000 → spec_l1All.l0 k (pre ++ rest) a b i = some (allW rest a b) := by
  intro rest
  induction rest with
  | nil =>
    intro pre i k hi hk hl
    obtain ⟨k, rfl⟩ : ∃ m, k = m + 1 := ⟨k - 1, by omega⟩
    simp only [spec_l1All.l0]
    rw [if_neg (by simp; omega)]; rfl
  | cons x rest ih =>
    intro pre i k hi hk hl
    obtain ⟨k, rfl⟩ : ∃ m, k = m + 1 := ⟨k - 1, by omega⟩
    simp only [List.length_cons] at hk hl
    simp only [spec_l1All.l0]
    rw [if_pos (by simp; omega), if_pos (by omega), rd_append_right pre (x :: rest) i hi.symm x rest rfl, l1In_eq, w64 (n := i + 1) (by omega) (by omega)]
    have e : pre ++ x :: rest = (pre ++ [x]) ++ rest := by simp
    rw [e, ih (pre ++ [x]) (i + 1) k (by simp; omega) (by omega) (by simp; omega), allW_cons]
    by_cases c : a ≤ x ∧ x ≤ b <;> simp [c]
theorem l1All_eq (l : List Int) (a b : Int) (k : Nat) (hk : l.length < k) (hl : l.length ≤ 1000000000) : spec_l1All.f k l a b = some (allW l a b) := by
  unfold spec_l1All.f; have := l1All_l0 a b l [] 0 k rfl hk (by simpa using hl); simpa using this
theorem l1Abs_eq (x : Int) (h0 : -9223372036854775807 ≤ x) (h1 : x ≤ 9223372036854775807) : spec_l1Abs.f x = some (x.natAbs : Int) := by
  unfold spec_l1Abs.f
  by_cases h : x < 0
  · rw [if_pos h, w64 (by omega) (by omega)]; congr 1; omega
  · rw [if_neg h]; congr 1; omega
theorem l1Norm_l0 (l : List Int) (hl : l.length ≤ 2000000) (hb : ∀ x ∈ l, x.natAbs ≤ 1099511627776) : ∀ (rest pre : List Int) (i s : Int) (k : Nat), l = pre ++ rest → (pre.length : Int) = i → rest.length < k → s = (nrm pre : Int) → spec_l1Norm.l0 k l s i = some (nrm l : Int) := by
  intro rest
  induction rest with
  | nil =>
    intro pre i s k h1 hi hk hs
    obtain ⟨k, rfl⟩ : ∃ m, k = m + 1 := ⟨k - 1, by omega⟩
    simp only [spec_l1Norm.l0]
    rw [if_neg (by rw [h1]; simp; omega), hs, h1]; simp
  | cons x rest ih =>
    intro pre i s k h1 hi hk hs
    obtain ⟨k, rfl⟩ : ∃ m, k = m + 1 := ⟨k - 1, by omega⟩
    simp only [List.length_cons] at hk
    have hlen : l.length = pre.length + (rest.length + 1) := by rw [h1]; simp
    have hx := hb x (by rw [h1]; simp)
    have hp := nrm_le 1099511627776 pre (fun y hy => hb y (by rw [h1]; simp [hy]))
    have hp2 : 1099511627776 * pre.length ≤ 1099511627776 * 2000000 := Nat.mul_le_mul_left _ (by omega)
    simp only [spec_l1Norm.l0]
    have hr : rd l i = x := by rw [h1]; exact rd_append_right pre (x :: rest) i hi.symm x rest rfl
    rw [if_pos (by omega), if_pos (by omega), hr, l1Abs_eq x (by omega) (by omega)]
    simp only [Option.bind_some]
    rw [w64 (n := s + _) (by omega) (by omega), w64 (n := i + 1) (by omega) (by omega)]
    exact ih (pre ++ [x]) (i + 1) _ k (by rw [h1]; simp) (by simp; omega) (by omega) (by rw [nrm_append]; simp only [nrm]; omega)
theorem l1Norm_eq (l : List Int) (hl : l.length ≤ 2000000) (hb : ∀ x ∈ l, x.natAbs ≤ 1099511627776) (k : Nat) (hk : l.length < k) : spec_l1Norm.f k l = some (nrm l : Int) := by
  unfold spec_l1Norm.f; exact l1Norm_l0 l hl hb l [] 0 0 k rfl rfl hk rfl
theorem allW_k {l : List Int} {k : Int} (hk : 0 ≤ k ∧ k ≤ 8) : (allW l (-k) k = true ∧ (nrm l : Int) = k) ↔ (allW l (-8) 8 = true ∧ (nrm l : Int) = k) := by
  constructor
  · rintro ⟨h1, h2⟩; exact ⟨allW_mk fun x hx => by have := allW_mem h1 hx; omega, h2⟩
  · rintro ⟨h1, h2⟩; exact ⟨allW_mk fun x hx => by have := nrm_mem hx; omega, h2⟩
theorem specPulsesFault_eq (l : List Int) (a : Int) (hl : l.length ≤ 2000000) (k : Nat) (hk : l.length + 10 < k) : spec_PulsesFault.f k l a = some (pfR l a) := by
  obtain ⟨k, rfl⟩ : ∃ m, k = m + 1 := ⟨k - 1, by omega⟩
  unfold spec_PulsesFault.f pfR
  by_cases h0 : (l.length : Int) < 1
  · rw [if_pos h0, if_pos (by omega)]; simp only [spec_PulsesFault.j0, if_true]
  · rw [if_neg h0]
    by_cases h1 : (l.length : Int) > 4
    · rw [decide_eq_true h1, if_pos (by omega)]; simp only [spec_PulsesFault.j0, if_true]
    · rw [decide_eq_false h1, if_neg (by omega)]
      simp only [spec_PulsesFault.j0]
      rw [if_neg (by simp), l1In_eq]
      simp only [Option.bind_some, decide_eq_true_eq]
      by_cases h2 : 0 ≤ a ∧ a ≤ 8
      · rw [if_pos h2, if_neg (by simp [h2]), w64 (n := -a) (by omega) (by omega), l1All_eq l (-a) a k (by omega) (by omega)]
        simp only [Option.bind_some]
        simp only [← allW_k h2]
        by_cases h3 : allW l (-a) a = true
        · have h4 : ∀ x ∈ l, x.natAbs ≤ 1099511627776 := fun x hx => by have := allW_mem h3 hx; omega
          rw [if_pos h3, l1Norm_eq l hl h4 k (by omega)]
          simp only [Option.bind_some]
          by_cases h5 : (nrm l : Int) = a
          · rw [if_pos h5, if_pos ⟨h3, h5⟩]
          · rw [if_neg h5, if_neg (fun h => h5 h.2)]
        · rw [if_neg h3, if_neg (fun h => h3 h.1)]
      · rw [if_neg h2, if_pos (by simpa using h2)]
theorem l11Index_l1 (L : List Int) (hL : L.length ≤ 4) (m k : Nat) (hm : m ≤ 3) (hk : k ≤ 8) (v : Int) (hv : -(k : Int) ≤ v ∧ v ≤ k) (R : Int) (K0 : Nat) (i : Int) (hi : 0 ≤ i) (hi2 : i < (L.length : Int)) (hr : rd L i = v) (hmi : (m : Int) = (L.length : Int) - 1 - i) : ∀ (n j : Nat) (s : Int) (K : Nat), (j : Int) - k + n = v → 0 ≤ s → s + (hs m k (v + k).toNat - hs m k j) ≤ 1000000000 → K0 + n + 130 ≤ K →
    (spec_l11Index.l0 K0 L (s + (hs m k (v + k).toNat - hs m k j)) (((k - v.natAbs : Nat)) : Int) (i + 1) = some R) →
    spec_l11Index.l1 K L s (k : Int) i ((j : Int) - k) = some R := by
  intro n
  induction n with
  | zero =>
    intro j s K hj h0 h1 hK h
    obtain ⟨K, rfl⟩ : ∃ q, K = q + 1 := ⟨K - 1, by omega⟩
    simp only [spec_l11Index.l1]
    rw [if_pos hi, if_pos hi2, hr, if_neg (by omega), l1Abs_eq v (by omega) (by omega)]
    simp only [Option.bind_some]
    rw [w64 (n := (k : Int) - _) (by omega) (by omega), w64 (n := i + 1) (by omega) (by omega)]
    have e : (v + k).toNat = j := by omega
    rw [e] at h
    refine at_rounds (g := fun K => spec_l11Index.l0 K _ _ _ _) (fun K => (spec_l11Index.mono_l K).1 _ _ _ _) (show K0 ≤ K by omega) ?_
    rw [← h]; congr 1 <;> omega
  | succ n ih =>
    intro j s K hj h0 h1 hK h
    obtain ⟨K, rfl⟩ : ∃ q, K = q + 1 := ⟨K - 1, by omega⟩
    have hb : cw m k j ≤ 10000 := by have := cnt_le m (k - ((j : Int) - k).natAbs) (by omega) (by omega); unfold cw; omega
    have hn := cw_nonneg m k j
    have hmo := hs_mono m k j (v + k).toNat (by omega)
    have ec : (cnt ((m : Int)).toNat ((k : Int) - (((j : Int) - k).natAbs : Int)).toNat : Int) = cw m k j := by unfold cw; congr 1; congr 1; omega
    simp only [spec_l11Index.l1]
    rw [if_pos hi, if_pos hi2, hr, if_pos (by omega), l1Abs_eq _ (by omega) (by omega)]
    simp only [Option.bind_some]
    rw [w64 (n := (L.length : Int) - 1) (by omega) (by omega), w64 (n := (L.length : Int) - 1 - i) (by omega) (by omega), ← hmi, w64 (n := (k : Int) - _) (by omega) (by omega), l11Count_eq (m : Int) _ (by omega) (by omega) (by omega) (by omega) K (by omega), ec]
    simp only [Option.bind_some]
    rw [w64 (n := s + cw m k j) (by omega) (by omega), w64 (n := (j : Int) - k + 1) (by omega) (by omega)]
    have e2 : (j : Int) - k + 1 = ((j + 1 : Nat) : Int) - k := by omega
    rw [e2]
    refine ih (j + 1) (s + cw m k j) K (by omega) (by omega) (by rw [hs_succ m k j]; omega) (by omega) ?_
    rw [← h, hs_succ m k j]; congr 1; omega
theorem l11Index_l0 (L : List Int) (hL : L.length ≤ 4) : ∀ (rest pre : List Int) (k : Nat) (s i : Int) (K : Nat), L = pre ++ rest → (pre.length : Int) = i → k ≤ 8 → nrm rest = k → 0 ≤ s → s + 20000 * rest.length ≤ 100000000 → 200 * rest.length + 1 ≤ K →
    spec_l11Index.l0 K L s (k : Int) i = some (s + idxL rest k) := by
  intro rest
  induction rest with
  | nil =>
    intro pre k s i K h1 hi hk hn h0 hs1 hK
    obtain ⟨K, rfl⟩ : ∃ q, K = q + 1 := ⟨K - 1, by omega⟩
    simp only [spec_l11Index.l0]
    rw [if_neg (by rw [h1]; simp; omega)]; simp [idxL]
  | cons v rest ih =>
    intro pre k s i K h1 hi hk hn h0 hs1 hK
    obtain ⟨K, rfl⟩ : ∃ q, K = q + 1 := ⟨K - 1, by omega⟩
    simp only [List.length_cons] at hK hs1
    simp only [nrm] at hn
    have hlen : L.length = pre.length + (rest.length + 1) := by rw [h1]; simp
    have hr2 : rd L i = v := by rw [h1]; exact rd_append_right pre (v :: rest) i hi.symm v rest rfl
    have hh := hs_total rest.length k (by omega) hk
    have hc := cnt_le (rest.length + 1) k (by omega) hk
    have hm1 := hs_mono rest.length k (v + k).toNat (2 * k + 1) (by omega)
    have hm0 := hs_mono rest.length k 0 (v + k).toNat (by omega)
    have hz : hs rest.length k 0 = 0 := rfl
    simp only [spec_l11Index.l0]
    rw [if_pos (by omega), w64 (n := -(k : Int)) (by omega) (by omega)]
    have e2 : -(k : Int) = ((0 : Nat) : Int) - k := by omega
    rw [e2]
    refine l11Index_l1 L hL rest.length k (by omega) hk v (by omega) _ (200 * rest.length + 1) i (by omega) (by omega) hr2 (by omega) (v + k).toNat 0 s K (by omega) h0 (by omega) (by omega) ?_
    rw [ih (pre ++ [v]) (k - v.natAbs) (s + (hs rest.length k (v + k).toNat - hs rest.length k 0)) (i + 1) (200 * rest.length + 1) (by rw [h1]; simp) (by simp; omega) (by omega) (by omega) (by omega) (by omega) (Nat.le_refl _)]
    congr 1; simp only [idxL]; omega
theorem l11Index_eq (l : List Int) (k : Int) (hl : l.length ≤ 4) (hk0 : 0 ≤ k) (hk1 : k ≤ 8) (hn : (nrm l : Int) = k) (K : Nat) (hK : 1000 ≤ K) : spec_l11Index.f K l k = some (idxL l k.toNat) := by
  unfold spec_l11Index.f
  have := l11Index_l0 l hl l [] k.toNat 0 0 K rfl rfl (by omega) (by omega) (by omega) (by omega) (by omega)
  rw [Int.toNat_of_nonneg hk0] at this
  rw [this]; simp
/-- What PulsesAt answers. -/
def patR (d k i : Int) : Int × List Int := if ((1 ≤ d ∧ d ≤ 4) ∧ (0 ≤ k ∧ k ≤ 8)) ∧ (0 ≤ i ∧ i < (cnt d.toNat k.toNat : Int)) then (0, atL d.toNat k.toNat i) else (3, [])
theorem patR_length (d k i : Int) : (patR d k i).2.length ≤ 4 := by
  unfold patR; split
  · simp only [atL_length]; omega
  · simp
theorem l11At_l1 (d : Int) (m k c : Nat) (hd : d = m + 1 + c) (hd4 : d ≤ 4) (hm : m ≤ 3) (hk : k ≤ 8) (acc : List Int) (ha : acc.length ≤ 100) (R : List Int) (K0 : Nat) : ∀ (n j : Nat) (i : Int) (K : Nat), j + n = 2 * k → 0 ≤ i → i < hs m k (2 * k + 1) - hs m k j → K0 + 2 * n + 130 ≤ K →
    spec_l11At.l0 K0 d (atJ m k (n + 1) j i).2 (acc ++ [((atJ m k (n + 1) j i).1 : Int) - k]) ((k - (((atJ m k (n + 1) j i).1 : Int) - k).natAbs : Nat) : Int) ((c : Int) + 1) = some R →
    spec_l11At.l1 K d i acc (k : Int) (c : Int) ((j : Int) - k) = some R := by
  have stop : ∀ (j : Nat) (i : Int) (K : Nat), j ≤ 2 * k → K0 + 1 ≤ K → spec_l11At.l0 K0 d i (acc ++ [(j : Int) - k]) ((k - ((j : Int) - k).natAbs : Nat) : Int) ((c : Int) + 1) = some R → spec_l11At.j2 K d i acc (k : Int) (c : Int) ((j : Int) - k) false = some R := by
    intro j i K hj hK h
    obtain ⟨K, rfl⟩ : ∃ q, K = q + 1 := ⟨K - 1, by omega⟩
    simp only [spec_l11At.j2]
    rw [if_neg (by simp), if_pos (by omega), l1Abs_eq _ (by omega) (by omega)]
    simp only [Option.bind_some]
    rw [w64 (n := (k : Int) - _) (by omega) (by omega), w64 (n := (c : Int) + 1) (by omega) (by omega)]
    refine at_rounds (g := fun K => spec_l11At.l0 K _ _ _ _ _) (fun K => (spec_l11At.mono_l K).1 _ _ _ _ _) (show K0 ≤ K by omega) ?_
    rw [← h]; congr 1; omega
  intro n
  induction n with
  | zero =>
    intro j i K hj h0 h1 hK h
    obtain ⟨K, rfl⟩ : ∃ q, K = q + 1 := ⟨K - 1, by omega⟩
    obtain rfl : j = 2 * k := by omega
    simp only [hs] at h1
    have e : atJ m k (0 + 1) (2 * k) i = (2 * k, i) := by simp only [atJ]; rw [if_neg (by omega)]
    rw [e] at h
    simp only [spec_l11At.l1]
    rw [if_neg (by omega)]
    exact stop (2 * k) i K (by omega) (by omega) h
  | succ n ih =>
    intro j i K hj h0 h1 hK h
    obtain ⟨K, rfl⟩ : ∃ q, K = q + 1 := ⟨K - 1, by omega⟩
    have hb : cw m k j ≤ 10000 := by have := cnt_le m (k - ((j : Int) - k).natAbs) (by omega) (by omega); unfold cw; omega
    have hn := cw_nonneg m k j
    have htot := hs_total m k hm hk
    have htb := cnt_le (m + 1) k (by omega) hk
    have hz := hs_mono m k 0 j (by omega)
    have hz0 : hs m k 0 = 0 := rfl
    have ed : wrap64 (wrap64 (d - 1) - (c : Int)) = (m : Int) := by rw [w64 (n := d - 1) (by omega) (by omega), w64 (by omega) (by omega)]; omega
    have ec : (cnt ((m : Int)).toNat ((k : Int) - (((j : Int) - k).natAbs : Int)).toNat : Int) = cw m k j := by unfold cw; congr 1; congr 1; omega
    simp only [spec_l11At.l1]
    rw [if_pos (by omega), l1Abs_eq _ (by omega) (by omega)]
    simp only [Option.bind_some]
    rw [ed, w64 (n := (k : Int) - _) (by omega) (by omega), l11Count_eq (m : Int) _ (by omega) (by omega) (by omega) (by omega) K (by omega)]
    simp only [Option.bind_some, ec]
    by_cases cc : i ≥ cw m k j
    · have e : atJ m k (n + 1 + 1) j i = atJ m k (n + 1) (j + 1) (i - cw m k j) := by rw [atJ, if_pos cc]
      rw [e] at h
      rw [decide_eq_true cc]
      obtain ⟨K, rfl⟩ : ∃ q, K = q + 1 := ⟨K - 1, by omega⟩
      simp only [spec_l11At.j2]
      rw [if_pos True.intro, l1Abs_eq _ (by omega) (by omega)]
      simp only [Option.bind_some]
      rw [ed, w64 (n := (k : Int) - _) (by omega) (by omega), l11Count_eq (m : Int) _ (by omega) (by omega) (by omega) (by omega) K (by omega)]
      simp only [Option.bind_some, ec]
      rw [w64 (n := i - cw m k j) (by omega) (by omega), w64 (n := (j : Int) - k + 1) (by omega) (by omega)]
      have := ih (j + 1) (i - cw m k j) K (by omega) (by omega) (by rw [hs_succ m k j]; omega) (by omega) h
      rw [← this]; congr 1; omega
    · have e : atJ m k (n + 1 + 1) j i = (j, i) := by rw [atJ, if_neg cc]
      rw [e] at h
      rw [decide_eq_false cc]
      exact stop j i K (by omega) (by omega) h
theorem l11At_l0 (d : Int) (hd4 : d ≤ 4) : ∀ (m k : Nat) (i : Int) (acc : List Int) (c K : Nat), d = m + c → m ≤ 4 → k ≤ 8 → 0 ≤ i → i < (cnt m k : Int) → acc.length + m ≤ 100 → 200 * m + 1 ≤ K →
    spec_l11At.l0 K d i acc (k : Int) (c : Int) = some (acc ++ atL m k i) := by
  intro m
  induction m with
  | zero =>
    intro k i acc c K hd hm hk h0 h1 ha hK
    obtain ⟨K, rfl⟩ : ∃ q, K = q + 1 := ⟨K - 1, by omega⟩
    simp only [spec_l11At.l0]; rw [if_neg (by omega)]; simp [atL]
  | succ m ih =>
    intro k i acc c K hd hm hk h0 h1 ha hK
    obtain ⟨K, rfl⟩ : ∃ q, K = q + 1 := ⟨K - 1, by omega⟩
    simp only [spec_l11At.l0]
    rw [← hs_total m k (by omega) hk] at h1
    have hz0 : hs m k 0 = 0 := rfl
    have sp := atJ_spec m k (2 * k + 1) 0 i (by omega) h0 (by omega)
    rw [if_pos (by omega), w64 (n := -(k : Int)) (by omega) (by omega)]
    have hc : (atJ m k (2 * k + 1) 0 i).2 < (cnt m (k - (((atJ m k (2 * k + 1) 0 i).1 : Int) - k).natAbs) : Int) := by have := sp.2.2.1; unfold cw at this; exact this
    have nx := ih (k - (((atJ m k (2 * k + 1) 0 i).1 : Int) - k).natAbs) (atJ m k (2 * k + 1) 0 i).2 (acc ++ [((atJ m k (2 * k + 1) 0 i).1 : Int) - k]) (c + 1) (200 * m + 1) (by omega) (by omega) (by omega) sp.2.1 hc (by simp; omega) (Nat.le_refl _)
    have := l11At_l1 d m k c (by omega) hd4 (by omega) hk acc (by omega) _ (200 * m + 1) (2 * k) 0 i K (by omega) h0 (by omega) (by omega) (by rw [← nx]; congr 1)
    have e2 : ((0 : Nat) : Int) - (k : Int) = -(k : Int) := by omega
    rw [e2] at this
    rw [this]
    simp [atL]
theorem l11At_eq (d k i : Int) (hd0 : 0 ≤ d) (hd1 : d ≤ 4) (hk0 : 0 ≤ k) (hk1 : k ≤ 8) (h0 : 0 ≤ i) (h1 : i < (cnt d.toNat k.toNat : Int)) (K : Nat) (hK : 900 ≤ K) : spec_l11At.f K d k i = some (atL d.toNat k.toNat i) := by
  unfold spec_l11At.f
  have := l11At_l0 d hd1 d.toNat k.toNat i [] 0 K (by omega) (by omega) (by omega) h0 h1 (by simp; omega) (by omega)
  rw [Int.toNat_of_nonneg hk0] at this
  rw [show ((0 : Nat) : Int) = 0 from rfl] at this
  rw [this]; simp
theorem specPulsesAt_eq (d k i : Int) (K : Nat) (hK : 1000 ≤ K) : spec_PulsesAt.f K d k i = some (patR d k i) := by
  unfold spec_PulsesAt.f patR
  simp only [l11Ask_eq, Option.bind_some, decide_eq_true_eq]
  by_cases h1 : (1 ≤ d ∧ d ≤ 4) ∧ (0 ≤ k ∧ k ≤ 8)
  · have hb := cnt_le d.toNat k.toNat (by omega) (by omega)
    rw [if_pos h1, l11Count_eq d k (by omega) h1.1.2 h1.2.1 h1.2.2 K (by omega)]
    simp only [Option.bind_some]
    rw [w64 (by omega) (by omega), l1In_eq]
    simp only [Option.bind_some, decide_eq_true_eq]
    by_cases h3 : 0 ≤ i ∧ i < (cnt d.toNat k.toNat : Int)
    · rw [if_pos (by omega), if_pos ⟨h1, h3⟩, l11At_eq d k i (by omega) h1.1.2 h1.2.1 h1.2.2 h3.1 h3.2 K (by omega)]; rfl
    · rw [if_neg (by omega), if_neg (fun h => h3 h.2)]
  · rw [if_neg h1, if_neg (fun h => h1 h.1)]
theorem specNextPulses_eq (l : List Int) (k : Int) (hl : l.length ≤ 2000000) (K : Nat) (hK : l.length + 1000 ≤ K) : spec_NextPulses.f K l k = some (nxtR l k) := by
  unfold spec_NextPulses.f nxtR
  rw [specPulsesFault_eq l k hl K (by omega)]
  simp only [Option.bind_some]
  by_cases h : pfR l k = 0
  · obtain ⟨h1, h2, h3, h4⟩ := pfR_0 h
    obtain ⟨r0, r1⟩ := idxL_range l k.toNat (by omega) (by omega) (by omega)
    have hb := cnt_le l.length k.toNat (by omega) (by omega)
    rw [if_pos h, if_pos h, l11Index_eq l k (by omega) h2.1 h2.2 h4 K (by omega)]
    simp only [Option.bind_some]
    rw [w64 (n := idxL l k.toNat + 1) (by omega) (by omega), specPulsesAt_eq _ k _ K (by omega)]
    simp only [Option.bind_some]
    by_cases h5 : idxL l k.toNat + 1 < (cnt l.length k.toNat : Int)
    · have ep : patR (l.length : Int) k (idxL l k.toNat + 1) = (0, atL l.length k.toNat (idxL l k.toNat + 1)) := by
        unfold patR; rw [if_pos ⟨⟨by omega, h2⟩, by omega, by simpa using h5⟩, Int.toNat_natCast]
      rw [ep, if_pos h5]; simp
    · have ep : patR (l.length : Int) k (idxL l k.toNat + 1) = (3, []) := by
        unfold patR; rw [if_neg (by intro h6; exact h5 (by simpa using h6.2.2))]
      rw [ep, if_neg h5]; simp
  · rw [if_neg h, if_neg h]
theorem PulsesAt_eq (d k i : Int) (K : Nat) (hK : 1000 ≤ K) : impl_PulsesAt.f K d k i = some (patR d k i) := by
  unfold impl_PulsesAt.f patR
  simp only [isDim_eq, isPulses_eq, Option.bind_some, decide_eq_true_eq]
  by_cases h1 : 1 ≤ d ∧ d ≤ 4
  · by_cases h2 : 0 ≤ k ∧ k ≤ 8
    · have hb := cnt_le d.toNat k.toNat (by omega) (by omega)
      rw [if_pos h1, if_pos h2, countPulses_eq d k (by omega) h1.2 h2.1 h2.2 K (by omega)]
      simp only [Option.bind_some]
      rw [w64 (by omega) (by omega), inRange_eq]
      simp only [Option.bind_some, decide_eq_true_eq]
      by_cases h3 : 0 ≤ i ∧ i < (cnt d.toNat k.toNat : Int)
      · rw [if_pos (by omega), if_pos ⟨⟨h1, h2⟩, h3⟩, pulsesAt_eq d k i (by omega) h1.2 h2.1 h2.2 h3.1 h3.2 K (by omega)]; rfl
      · rw [if_neg (by omega), if_neg (fun h => h3 h.2)]
    · rw [if_pos h1, if_neg h2, if_neg (fun h => h2 h.1.2)]
  · rw [if_neg h1, if_neg (fun h => h1 h.1.1)]
theorem cw_at (m k J : Nat) : cw m k J = (cnt m (k - ((J : Int) - k).natAbs) : Int) := rfl
theorem nrm_atL : ∀ (m k : Nat) (i : Int), m ≤ 4 → k ≤ 8 → 0 ≤ i → i < (cnt m k : Int) → nrm (atL m k i) = k
  | 0, k, i, _, _, h0, h1 => by
    have : ∀ k : Nat, k ≠ 0 → cnt 0 k = 0 := by intro k hk; cases k with | zero => omega | succ k => rfl
    by_cases e : k = 0
    · subst e; rfl
    · rw [this k e] at h1; omega
  | m + 1, k, i, hm, hk, h0, h1 => by
    have ht := hs_total m k (by omega) hk
    have hz : hs m k 0 = 0 := rfl
    obtain ⟨s1, s2, s3, s4, _⟩ := atJ_spec m k (2 * k + 1) 0 i (by omega) h0 (by omega)
    rw [cw_at] at s3
    simp only [atL, nrm]
    rw [nrm_atL m _ _ (by omega) (by omega) s2 s3]
    omega
theorem idx_atL : ∀ (m k : Nat) (i : Int), m ≤ 4 → k ≤ 8 → 0 ≤ i → i < (cnt m k : Int) → idxL (atL m k i) k = i
  | 0, k, i, _, _, h0, h1 => by
    have : cnt 0 k ≤ 1 := by cases k with | zero => exact Nat.le_refl _ | succ k => exact Nat.zero_le _
    simp only [atL, idxL]; omega
  | m + 1, k, i, hm, hk, h0, h1 => by
    have ht := hs_total m k (by omega) hk
    have hz : hs m k 0 = 0 := rfl
    obtain ⟨s1, s2, s3, s4, _⟩ := atJ_spec m k (2 * k + 1) 0 i (by omega) h0 (by omega)
    rw [cw_at] at s3
    simp only [atL, idxL, atL_length]
    rw [idx_atL m _ _ (by omega) (by omega) s2 s3]
    rw [show ((((atJ m k (2 * k + 1) 0 i).1 : Int) - k) + k).toNat = (atJ m k (2 * k + 1) 0 i).1 by omega]
    omega
theorem at_idxL : ∀ (l : List Int) (k : Nat), l.length ≤ 4 → k ≤ 8 → nrm l = k → atL l.length k (idxL l k) = l
  | [], k, _, _, _ => rfl
  | v :: l, k, hl, hk, hn => by
    simp only [nrm] at hn
    simp only [List.length_cons] at hl
    obtain ⟨r0, r1⟩ := idxL_range l (k - v.natAbs) (by omega) (by omega) (by omega)
    have hz : hs l.length k 0 = 0 := rfl
    have ej : ((((v + k).toNat : Nat) : Int) - k) = v := by omega
    have hb := atJ_back l.length k (v + k).toNat (idxL l (k - v.natAbs)) r0 (by rw [cw_at, ej]; exact r1) (2 * k + 1) 0 (by omega) (by omega)
    simp only [idxL, List.length_cons, atL]
    rw [show hs l.length k (v + k).toNat + idxL l (k - v.natAbs) = hs l.length k (v + k).toNat - hs l.length k 0 + idxL l (k - v.natAbs) by omega, hb]
    simp only [ej]
    rw [at_idxL l (k - v.natAbs) (by omega) (by omega) (by omega)]
theorem atL_within (l : List Int) (k : Nat) (h : nrm l = k) : allW l (-(k : Int)) k = true := allW_mk fun x hx => by have := nrm_mem hx; omega
theorem pfR_of {l : List Int} {k : Int} (h1 : 1 ≤ (l.length : Int) ∧ (l.length : Int) ≤ 4) (h2 : 0 ≤ k ∧ k ≤ 8) (h4 : (nrm l : Int) = k) : pfR l k = 0 := by
  unfold pfR
  rw [if_neg (show ¬ ¬ (1 ≤ (l.length : Int) ∧ (l.length : Int) ≤ 4) from fun h => h h1), if_neg (show ¬ ¬ (0 ≤ k ∧ k ≤ 8) from fun h => h h2), if_pos ⟨allW_mk fun x hx => by have := nrm_mem hx; omega, h4⟩]
theorem lwNums_self (l : List Int) (hl : l.length ≤ 1000000) (K : Nat) (hK : l.length < K) : laws_lwNums.f K l l = some true := by
  unfold laws_lwNums.f
  rw [if_pos rfl]
  have main : ∀ (n : Nat) (i : Int) (K : Nat), i + n = l.length → 0 ≤ i → n < K → laws_lwNums.l0 K l l i = some true := by
    intro n
    induction n with
    | zero =>
      intro i K hi h0 hK
      obtain ⟨K, rfl⟩ : ∃ z, K = z + 1 := ⟨K - 1, by omega⟩
      simp only [laws_lwNums.l0]
      rw [if_neg (by omega)]
    | succ n ih =>
      intro i K hi h0 hK
      obtain ⟨K, rfl⟩ : ∃ z, K = z + 1 := ⟨K - 1, by omega⟩
      simp only [laws_lwNums.l0]
      rw [if_pos (by omega), if_pos h0, if_pos (by omega), if_pos trivial, w64 (by omega) (by omega)]
      exact ih (i + 1) K (by omega) (by omega) (by omega)
  exact main l.length 0 K (by omega) (by omega) hK
theorem lwBig_eq (l : List Int) : laws_lwBig.f l = some (decide ((l.length : Int) > 1048576)) := rfl
theorem FnPulses : laws_FnPulses.Pure := by
  intro l hm hl hb
  refine ⟨5000, ?_⟩
  unfold laws_FnPulses.f
  rw [lwBig_eq]; simp only [Option.bind_some, decide_eq_true_eq]
  by_cases hbig : (l.length : Int) > 1048576
  · rw [if_pos hbig]
  rw [if_neg hbig]
  obtain ⟨L, k, hd, hL⟩ := DrawPulsesFault_ok hb 5000 (by omega)
  unfold spec_DrawIndexPulses.f
  rw [hd]; simp only [Option.bind_some]
  rw [IndexPulses_eq L k (by omega) 5000 (by omega)]; simp only [Option.bind_some]
  rw [NextPulses_eq L k (by omega) 5000 (by omega), specPulsesFault_eq L k (by omega) 5000 (by omega)]; simp only [Option.bind_some]
  have hi : (ipR L k).1 = pfR L k := by unfold ipR; by_cases h : pfR L k = 0 <;> simp [h]
  rw [if_pos hi, PulsesFault_eq L k (by omega) 5000 (by omega)]; simp only [Option.bind_some]
  rw [if_pos hi.symm, specNextPulses_eq L k (by omega) 5000 (by omega)]
  simp only [Option.bind_some, bne_self_eq_false]
  have fin2 : ∀ K, 2000 ≤ K → pfR L k = 0 → laws_FnPulses.j2 K L k false (ipR L k).1 (ipR L k).2 (countR (L.length : Int) k).1 (countR (L.length : Int) k).2 = some true := by
    intro K hK h
    obtain ⟨K, rfl⟩ : ∃ z, K = z + 1 := ⟨K - 1, by omega⟩
    obtain ⟨h1, h2, h3, h4⟩ := pfR_0 h
    obtain ⟨r0, r1⟩ := idxL_range L k.toNat (by omega) (by omega) (by omega)
    have e1 : ipR L k = (0, idxL L k.toNat) := by unfold ipR; rw [if_pos h]
    have e2 : countR (L.length : Int) k = (0, (cnt L.length k.toNat : Int)) := by unfold countR; rw [if_pos ⟨h1, h2⟩, Int.toNat_natCast]
    have e3 : patR (L.length : Int) k (idxL L k.toNat) = (0, L) := by
      unfold patR; rw [if_pos ⟨⟨h1, h2⟩, r0, by simpa using r1⟩, Int.toNat_natCast, at_idxL L k.toNat (by omega) (by omega) (by omega)]
    rw [e1, e2]
    simp only [laws_FnPulses.j2, Bool.false_eq_true, if_false, if_true]
    rw [if_pos r0, if_pos r1, PulsesAt_eq _ _ _ K (by omega), e3]
    simp only [Option.bind_some]
    rw [lwNums_self L (by omega) K (by omega)]; rfl
  have fin : ∀ K, 3000 ≤ K → laws_FnPulses.j1 K L k false (ipR L k).1 (ipR L k).2 (nxtR L k).1 (nxtR L k).2 = some true := by
    intro K hK
    obtain ⟨K, rfl⟩ : ∃ z, K = z + 1 := ⟨K - 1, by omega⟩
    simp only [laws_FnPulses.j1, Bool.false_eq_true, if_false]
    by_cases h : pfR L k = 0
    · rw [if_pos (by rw [hi]; exact h), CountPulses_eq _ k K (by omega)]
      simp only [Option.bind_some]
      obtain ⟨h1, h2, h3, h4⟩ := pfR_0 h
      obtain ⟨r0, r1⟩ := idxL_range L k.toNat (by omega) (by omega) (by omega)
      have hb := cnt_le L.length k.toNat (by omega) (by omega)
      have e1 : (ipR L k).2 = idxL L k.toNat := by unfold ipR; rw [if_pos h]
      have e2 : (countR (L.length : Int) k).2 = (cnt L.length k.toNat : Int) := by unfold countR; rw [if_pos ⟨h1, h2⟩, Int.toNat_natCast]
      by_cases h5 : idxL L k.toNat + 1 < (cnt L.length k.toNat : Int)
      · have en : nxtR L k = (0, atL L.length k.toNat (idxL L k.toNat + 1)) := by unfold nxtR; rw [if_pos h, if_pos h5]
        have ef : pfR (atL L.length k.toNat (idxL L k.toNat + 1)) k = 0 := pfR_of (by rw [atL_length]; omega) h2 (by rw [nrm_atL L.length k.toNat _ (by omega) (by omega) (by omega) h5]; omega)
        have ei : ipR (atL L.length k.toNat (idxL L k.toNat + 1)) k = (0, idxL L k.toNat + 1) := by
          unfold ipR; rw [if_pos ef, idx_atL L.length k.toNat _ (by omega) (by omega) (by omega) h5]
        rw [en]
        simp only [if_true]
        rw [IndexPulses_eq _ k (by rw [atL_length]; omega) K (by rw [atL_length]; omega), ei]
        simp only [Option.bind_some]
        rw [e1, w64 (n := idxL L k.toNat + 1) (by omega) (by omega), if_pos rfl, e2, decide_eq_true h5]
        have := fin2 K (by omega) h
        rw [e1, e2] at this
        exact this
      · have en : nxtR L k = (4, []) := by unfold nxtR; rw [if_pos h, if_neg h5]
        rw [en, if_neg (by simp), e1, w64 (n := idxL L k.toNat + 1) (by omega) (by omega), e2, decide_eq_false h5]
        have := fin2 K (by omega) h
        rw [e1, e2] at this
        exact this
    · rw [if_neg (by rw [hi]; exact h)]
  simp only [laws_FnPulses.j0, Bool.false_eq_true, if_false]
  obtain ⟨d, m, i, hp⟩ := DrawPulsesAt_ok hb 4999 (by omega)
  rw [hp]; simp only [Option.bind_some]
  rw [PulsesAt_eq d m i 4999 (by omega), specPulsesAt_eq d m i 4999 (by omega)]
  simp only [Option.bind_some, if_true]
  by_cases h : ((1 ≤ d ∧ d ≤ 4) ∧ (0 ≤ m ∧ m ≤ 8)) ∧ (0 ≤ i ∧ i < (cnt d.toNat m.toNat : Int))
  · have ep : patR d m i = (0, atL d.toNat m.toNat i) := by unfold patR; rw [if_pos h]
    obtain ⟨⟨h1, h2⟩, h3⟩ := h
    have ef : pfR (atL d.toNat m.toNat i) m = 0 := pfR_of (by rw [atL_length]; omega) h2 (by rw [nrm_atL d.toNat m.toNat _ (by omega) (by omega) h3.1 h3.2]; omega)
    have ei : ipR (atL d.toNat m.toNat i) m = (0, i) := by
      unfold ipR; rw [if_pos ef, idx_atL d.toNat m.toNat _ (by omega) (by omega) h3.1 h3.2]
    rw [ep]; simp only [if_true]
    rw [IndexPulses_eq _ m (by rw [atL_length]; omega) 4999 (by rw [atL_length]; omega), ei]
    simp only [Option.bind_some, beq_self_eq_true, Bool.not_true, Bool.or_self]
    exact fin 4999 (by omega)
  · have ep : patR d m i = (3, []) := by unfold patR; rw [if_neg h]
    rw [ep, if_neg (by simp)]
    exact fin 4999 (by omega)

end Go.Proofs.Ytpbkbibjlbbkbaa.Pure
