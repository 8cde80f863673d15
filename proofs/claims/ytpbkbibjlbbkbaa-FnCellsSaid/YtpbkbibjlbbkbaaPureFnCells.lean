/- An index is in the cell of each of its numbers, and in no other one of that side, whatever arguments are drawn. -/
import Derived.Test.YtpbkbibjlbbkbaaPFnCellsx5
set_option linter.unusedVariables false
set_option linter.unusedSimpArgs false
namespace Go.Proofs.Ytpbkbibjlbbkbaa.Pure
open Go.RowKit Go.Proofs.Ytpbkbibjlbbkbaa.PFnCells Go.Proofs.YtpbkbibjlbbkbaaW.PrintWords Go.Proofs.YtpbkbibjlbbkbaaW.PrintLast

theorem w64 {n : Int} (h1 : -9223372036854775808 ≤ n) (h2 : n ≤ 9223372036854775807) : wrap64 n = n := by unfold wrap64; omega
theorem rd_mem (L : List Int) (i : Int) (h0 : 0 ≤ i) (h1 : i < (L.length : Int)) : rd L i ∈ L := by
  unfold rd
  rw [List.getD_eq_getElem?_getD, List.getElem?_eq_getElem (by omega)]
  exact List.getElem_mem _
/-- All of a list are bytes. -/
def Bytes8 (l : List Int) : Prop := ∀ x ∈ l, (Lit.int .u8 x).wf = true
theorem Bytes8.rdb {l : List Int} (h : Bytes8 l) (i : Int) : 0 ≤ rd l i ∧ rd l i ≤ 255 := by
  by_cases hi : i.toNat < l.length
  · have hm : rd l i ∈ l := by
      unfold rd
      rw [List.getD_eq_getElem?_getD, List.getElem?_eq_getElem hi]
      exact List.getElem_mem _
    have := h _ hm
    simp only [Lit.wf, Bool.and_eq_true, decide_eq_true_eq] at this
    have e1 : IntKind.u8.min = 0 := by decide
    have e2 : IntKind.u8.max = 255 := by decide
    rw [e1, e2] at this; exact this
  · unfold rd
    rw [List.getD_eq_getElem?_getD, List.getElem?_eq_none (by omega)]
    simp
theorem tmod_in (s m : Int) (hs : 0 ≤ s) (hm : 1 ≤ m) : 0 ≤ Int.tmod s m ∧ Int.tmod s m < m := by
  rw [Int.tmod_eq_emod_of_nonneg hs]
  exact ⟨Int.emod_nonneg s (by omega), Int.emod_lt_of_pos s (by omega)⟩
theorem next_ok {l : List Int} (hb : Bytes8 l) (s n : Int) (h0 : 0 ≤ s) (h1 : s ≤ 10000000) :
    ∃ v, spec_l1Next.f l s n = some (v, s + 1) ∧ 0 ≤ v ∧ (n < 1 → v = 0) ∧ (1 ≤ n → v < n) := by
  unfold spec_l1Next.f
  by_cases hn : n < 1
  · rw [if_pos hn, w64 (by omega) (by omega)]
    exact ⟨0, rfl, by omega, fun _ => rfl, fun h => by omega⟩
  rw [if_neg hn]
  have hn0 : ¬ n = 0 := by omega
  have e1 : wrap64 (s + 1) = s + 1 := w64 (by omega) (by omega)
  have e2 : wrap64 (s + 1 - 1) = s := by rw [w64 (by omega) (by omega)]; omega
  have e3 : wrap64 (s + 2) = s + 2 := w64 (by omega) (by omega)
  simp only [e1, e2, e3]
  by_cases hl : (l.length : Int) = 0
  · rw [if_pos hl, if_neg hn0]
    have := tmod_in (wrap64 (s * 7)) n (by rw [w64 (by omega) (by omega)]; omega) (by omega)
    exact ⟨_, rfl, this.1, fun h => by omega, fun _ => this.2⟩
  rw [if_neg hl]
  have hm : 1 ≤ (l.length : Int) := by omega
  have t0 := tmod_in s (l.length : Int) h0 hm
  have t1 := tmod_in (s + 1) (l.length : Int) (by omega) hm
  have t2 := tmod_in (s + 2) (l.length : Int) (by omega) hm
  rw [if_pos t0.1, if_pos t0.2]
  simp only [if_pos t1.1, if_pos t1.2, if_pos t2.1, if_pos t2.2, if_neg hn0]
  have r0 := hb.rdb (Int.tmod s (l.length : Int))
  have r1 := hb.rdb (Int.tmod (s + 1) (l.length : Int))
  have r2 := hb.rdb (Int.tmod (s + 2) (l.length : Int))
  have q : 0 ≤ Int.tdiv s (l.length : Int) ∧ Int.tdiv s (l.length : Int) ≤ s := by
    rw [Int.tdiv_eq_ediv_of_nonneg h0]
    exact ⟨Int.ediv_nonneg h0 (by omega), Int.ediv_le_self _ h0⟩
  generalize rd l (Int.tmod s (l.length : Int)) = b0 at *
  generalize rd l (Int.tmod (s + 1) (l.length : Int)) = b1 at *
  generalize rd l (Int.tmod (s + 2) (l.length : Int)) = b2 at *
  generalize Int.tdiv s (l.length : Int) = d at *
  have f0 : wrap64 b0 = b0 := w64 (by omega) (by omega)
  have f1 : wrap64 b1 = b1 := w64 (by omega) (by omega)
  have f2 : wrap64 b2 = b2 := w64 (by omega) (by omega)
  have f3 : wrap64 d = d := w64 (by omega) (by omega)
  have f4 : wrap64 (d * 37) = d * 37 := w64 (by omega) (by omega)
  have f5 : wrap64 (b0 + d * 37) = b0 + d * 37 := w64 (by omega) (by omega)
  have f6 : wrap64 ((b0 + d * 37) * 251) = (b0 + d * 37) * 251 := w64 (by omega) (by omega)
  have f7 : wrap64 (b1 * 13) = b1 * 13 := w64 (by omega) (by omega)
  have f8 : wrap64 ((b0 + d * 37) * 251 + b1 * 13) = (b0 + d * 37) * 251 + b1 * 13 := w64 (by omega) (by omega)
  have f9 : wrap64 ((b0 + d * 37) * 251 + b1 * 13 + s) = (b0 + d * 37) * 251 + b1 * 13 + s := w64 (by omega) (by omega)
  have f10 : wrap64 (((b0 + d * 37) * 251 + b1 * 13 + s) * 257) = ((b0 + d * 37) * 251 + b1 * 13 + s) * 257 := w64 (by omega) (by omega)
  have f11 : wrap64 ((b0 + d * 37) * 257) = (b0 + d * 37) * 257 := w64 (by omega) (by omega)
  simp only [f0, f1, f2, f3, f4, f5, f6, f7, f8, f9, f10, f11]
  have fin : ∀ X : Int, 0 ≤ X → ∃ v, (some (Int.tmod X n, s + 1) : Option (Int × Int)) = some (v, s + 1) ∧ 0 ≤ v ∧ (n < 1 → v = 0) ∧ (1 ≤ n → v < n) := fun X hX =>
    ⟨_, rfl, (tmod_in X n hX (by omega)).1, fun h => by omega, fun _ => (tmod_in X n hX (by omega)).2⟩
  by_cases c1 : n > 200
  · rw [if_pos c1]
    by_cases c2 : n > 60000
    · rw [if_pos c2]; exact fin _ (by rw [w64 (by omega) (by omega)]; omega)
    · rw [if_neg c2]; exact fin _ (by omega)
  · rw [if_neg c1, if_neg (by omega)]; exact fin _ (by omega)
theorem signed_ok {l : List Int} (hb : Bytes8 l) (s m : Int) (h0 : 0 ≤ s) (h1 : s ≤ 10000000) (hm0 : 0 ≤ m) (hm : m ≤ 1000000000) :
    ∃ v, spec_l1Signed.f l s m = some (v, s + 1) ∧ -m ≤ v ∧ v ≤ m := by
  unfold spec_l1Signed.f
  have e1 : wrap64 (2 * m) = 2 * m := w64 (by omega) (by omega)
  have e2 : wrap64 (2 * m + 1) = 2 * m + 1 := w64 (by omega) (by omega)
  simp only [e1, e2]
  obtain ⟨v, hv, hv0, _, hv1⟩ := next_ok hb s (2 * m + 1) h0 h1
  rw [hv]; simp only [Option.bind_some]
  have := hv1 (by omega)
  rw [w64 (by omega) (by omega)]
  exact ⟨_, rfl, by omega, by omega⟩

theorem pick_ok {l : List Int} (hb : Bytes8 l) (s : Int) (L : List Int) (h0 : 0 ≤ s) (h1 : s ≤ 10000000) (hL : 0 < L.length) :
    ∃ v, spec_l1Pick.f l s L = some (v, s + 1) ∧ v ∈ L := by
  unfold spec_l1Pick.f
  obtain ⟨v, hv, hv0, _, hv1⟩ := next_ok hb s (L.length : Int) h0 h1
  rw [hv]; simp only [Option.bind_some]
  have := hv1 (by omega)
  rw [if_pos hv0, if_pos this]
  exact ⟨_, rfl, rd_mem L v hv0 this⟩
theorem l10Draw_ok {l : List Int} (hb : Bytes8 l) (s : Int) (h0 : 0 ≤ s) (h1 : s ≤ 9000000) : ∃ c, spec_l10Draw.f l s = some (c, s + 5) ∧ -30000 ≤ c ∧ c ≤ 30000 := by
  unfold spec_l10Draw.f
  obtain ⟨v, hv, v0, v1⟩ := signed_ok hb s 9 (by omega) (by omega) (by omega) (by omega)
  rw [hv]; simp only [Option.bind_some]
  obtain ⟨u, hu, u0, u1⟩ := signed_ok hb (s + 1) 9 (by omega) (by omega) (by omega) (by omega)
  rw [hu]; simp only [Option.bind_some]
  obtain ⟨x, hx, x0, x1⟩ := signed_ok hb (s + 1 + 1) 400 (by omega) (by omega) (by omega) (by omega)
  rw [hx]; simp only [Option.bind_some]
  obtain ⟨y, hy, y0, y1⟩ := signed_ok hb (s + 1 + 1 + 1) 30000 (by omega) (by omega) (by omega) (by omega)
  rw [hy]; simp only [Option.bind_some]
  obtain ⟨z, hz, hm⟩ := pick_ok hb (s + 1 + 1 + 1 + 1) [0, 1, -1, 2, v, u, x, y, 30000, -30000] (by omega) (by omega) (by simp)
  rw [hz]; simp only [Option.bind_some]
  refine ⟨z, by rw [show s + 1 + 1 + 1 + 1 + 1 = s + 5 by omega], ?_⟩
  simp only [List.mem_cons, List.not_mem_nil, or_false] at hm
  omega
theorem chance_ok {l : List Int} (hb : Bytes8 l) (s n : Int) (h0 : 0 ≤ s) (h1 : s ≤ 10000000) : ∃ b, spec_l1Chance.f l s n = some (b, s + 1) := by
  unfold spec_l1Chance.f
  obtain ⟨v, hv, _⟩ := next_ok hb s n h0 h1
  rw [hv]; exact ⟨_, rfl⟩
theorem DrawSplitIndex_ok {l : List Int} (hb : Bytes8 l) : ∃ q k t, spec_DrawSplitIndex.f l = some (q, k, t) ∧ -30001 ≤ q ∧ q ≤ 30001 := by
  unfold spec_DrawSplitIndex.f spec_l1Source.f
  simp only [Option.bind_some]
  obtain ⟨a, ha, a0⟩ := l10Draw_ok hb 0 (by omega) (by omega)
  rw [ha]; simp only [Option.bind_some]
  obtain ⟨b, hb', b0⟩ := l10Draw_ok hb (0 + 5) (by omega) (by omega)
  rw [hb']; simp only [Option.bind_some]
  obtain ⟨c, hc, c0⟩ := l10Draw_ok hb (0 + 5 + 5) (by omega) (by omega)
  rw [hc]; simp only [Option.bind_some]
  obtain ⟨d, hd, hm⟩ := pick_ok hb (0 + 5 + 5 + 5) [a, b, c, 30001] (by omega) (by omega) (by simp)
  rw [hd]; simp only [Option.bind_some]
  obtain ⟨e, he, _⟩ := pick_ok hb (0 + 5 + 5 + 5 + 1) [0, 1, 2, 1, 2, 1, 2, 3, -1] (by omega) (by omega) (by simp)
  rw [he]; simp only [Option.bind_some]
  obtain ⟨f, hf⟩ := chance_ok hb (0 + 5 + 5 + 5 + 1 + 1) 2 (by omega) (by omega)
  rw [hf]
  refine ⟨_, _, _, rfl, ?_⟩
  simp only [List.mem_cons, List.not_mem_nil, or_false] at hm
  omega
theorem DrawCellOf_ok {l : List Int} (hb : Bytes8 l) : ∃ s v k t, spec_DrawCellOf.f l = some (s, v, k, t) := by
  unfold spec_DrawCellOf.f spec_DrawSideIndex.f spec_l1Source.f
  simp only [Option.bind_some]
  obtain ⟨q, k, t, hq, _⟩ := DrawSplitIndex_ok hb
  rw [hq]; simp only [Option.bind_some]
  obtain ⟨e, he, _⟩ := pick_ok hb 0 [0, 1, 0, 1, 0, 1, 2, -1] (by omega) (by omega) (by simp)
  rw [he]; exact ⟨_, _, _, _, rfl⟩
theorem inRange_eq (a b c : Int) : impl_inRange.f a b c = some (decide (b ≤ a ∧ a ≤ c)) := by
  unfold impl_inRange.f
  by_cases h : b ≤ a
  · rw [if_pos h]; simp [h]
  · rw [if_neg h]; simp [h]
theorem isSide_eq (a : Int) : impl_isSide.f a = some (decide (0 ≤ a ∧ a ≤ 1)) := by unfold impl_isSide.f; rw [inRange_eq]; rfl
theorem isSpread_eq (a : Int) : impl_isSpread.f a = some (decide (0 ≤ a ∧ a ≤ 2)) := by unfold impl_isSpread.f; rw [inRange_eq]; rfl
theorem within_eq (a b : Int) (h0 : 0 ≤ b) (h1 : b ≤ 9223372036854775807) : impl_within.f a b = some (decide (-b ≤ a ∧ a ≤ b)) := by
  unfold impl_within.f; rw [w64 (by omega) (by omega), inRange_eq]; rfl
theorem isIndexOf_eq (a : Int) : impl_isIndexOf.f a = some (decide (-30000 ≤ a ∧ a ≤ 30000)) := by unfold impl_isIndexOf.f; rw [within_eq _ _ (by decide) (by decide)]; rfl
theorem codeIf_eq (b : Bool) (c : Int) : impl_codeIf.f b c = some (if b = true then c else 0) := by unfold impl_codeIf.f; split <;> rfl
/-- The two numbers of an index, rounded down. -/
def spl (q k : Int) (t : Bool) : Int × Int :=
  let p : Int × Int := if k = 1 then ((q + 1) / 2, q / 2) else if k = 2 then (if q % 3 = 1 then (q / 3, q / 3 + 1) else if q % 3 = 2 then (q / 3 + 1, q / 3) else (q / 3, q / 3)) else (q, q)
  if t = true then (p.2, p.1) else p
theorem spl_bound (q k : Int) (t : Bool) (h0 : -100000 ≤ q) (h1 : q ≤ 100000) : -100001 ≤ (spl q k t).1 ∧ (spl q k t).1 ≤ 100001 ∧ -100001 ≤ (spl q k t).2 ∧ (spl q k t).2 ≤ 100001 := by
  unfold spl
  by_cases c1 : k = 1
  · cases t <;> simp only [c1, if_true, Bool.false_eq_true, if_false] <;> omega
  · by_cases c2 : k = 2
    · by_cases c3 : q % 3 = 1
      · cases t <;> simp [c1, c2, c3] <;> omega
      · by_cases c4 : q % 3 = 2
        · cases t <;> simp [c1, c2, c3, c4] <;> omega
        · cases t <;> simp [c1, c2, c3, c4] <;> omega
    · cases t <;> simp [c1, c2] <;> omega
theorem floorDiv_eq (a b : Int) (hb : 1 ≤ b) (h0 : -9223372036854775807 ≤ a) (h1 : a ≤ 9223372036854775807) (hb1 : b ≤ 9223372036854775807) : impl_floorDiv.f a b = some (a / b) := by
  unfold impl_floorDiv.f
  rw [if_neg (by omega)]
  have hq : -9223372036854775807 ≤ a / b ∧ a / b ≤ 9223372036854775807 := by
    have hm := Int.mul_ediv_add_emod a b
    have hr0 := Int.emod_nonneg a (show b ≠ 0 by omega)
    have hr1 := Int.emod_lt_of_pos a (show 0 < b by omega)
    rcases Int.lt_or_le a 0 with hneg | hpos
    · have h3 : a / b < 0 := Int.ediv_neg_of_neg_of_pos hneg (by omega)
      have h4 : a ≤ a / b := Int.le_ediv_of_mul_le (by omega) (by
        have : a * b ≤ a * 1 := Int.mul_le_mul_of_nonpos_left (by omega) (by omega)
        omega)
      omega
    · have h3 := Int.ediv_nonneg hpos (show 0 ≤ b by omega)
      have h4 := Int.ediv_le_self b hpos
      omega
  have hqr := Int.mul_tdiv_add_tmod a b
  have hm := Int.mul_ediv_add_emod a b
  have hr0 := Int.emod_nonneg a (show b ≠ 0 by omega)
  have hr1 := Int.emod_lt_of_pos a (show 0 < b by omega)
  rw [Int.tmod_eq_emod, Int.tdiv_eq_ediv]
  by_cases hc : 0 ≤ a ∨ b ∣ a
  · rw [if_pos hc, if_pos hc]
    simp only [Int.sub_zero, Int.add_zero]
    rw [if_neg (by have := hr0; omega)]
    rw [w64 (by omega) (by omega)]
  · rw [if_neg hc, if_neg hc]
    have hs : b.sign = 1 := Int.sign_eq_one_of_pos (by omega)
    have hbn : (b.natAbs : Int) = b := by omega
    rw [hs]
    rw [if_pos (by omega)]
    have : wrap64 (a / b + 1) = a / b + 1 := w64 (by omega) (by
      rcases Int.lt_or_le a 0 with hneg | hpos
      · have h3 : a / b < 0 := Int.ediv_neg_of_neg_of_pos hneg (by omega)
        omega
      · exact absurd (Or.inl hpos) hc)
    rw [this, w64 (by omega) (by omega)]
    congr 1; omega
theorem splitIndex_eq (q k : Int) (t : Bool) (h0 : -100000 ≤ q) (h1 : q ≤ 100000) : impl_splitIndex.f q k t = some (spl q k t) := by
  unfold impl_splitIndex.f spl
  by_cases c1 : k = 1
  · rw [if_pos c1, w64 (n := q + 1) (by omega) (by omega), floorDiv_eq (q + 1) 2 (by omega) (by omega) (by omega) (by omega), floorDiv_eq q 2 (by omega) (by omega) (by omega) (by omega)]
    cases t <;> simp [c1]
  · rw [if_neg c1]
    by_cases c2 : k = 2
    · rw [if_pos c2, floorDiv_eq q 3 (by omega) (by omega) (by omega) (by omega)]
      simp only [Option.bind_some]
      rw [w64 (n := 3 * (q / 3)) (by omega) (by omega), w64 (n := q - 3 * (q / 3)) (by omega) (by omega), w64 (n := q / 3 + 1) (by omega) (by omega)]
      have e : q - 3 * (q / 3) = q % 3 := by omega
      rw [e]
      by_cases c3 : q % 3 = 1
      · cases t <;> simp [c1, c2, c3]
      · by_cases c4 : q % 3 = 2
        · cases t <;> simp [c1, c2, c3, c4]
        · cases t <;> simp [c1, c2, c3, c4]
    · cases t <;> simp [c1, c2]
/-- The only index that two numbers can have. -/
def joinq (a b k : Int) (t : Bool) : Int := if k = 0 then a else if k = 1 then a + b else if t = true then (if a = b then 3 * a else if a < b then 3 * a + 2 else 3 * b + 1) else (if a = b then 3 * a else if a < b then 3 * a + 1 else 3 * b + 2)
theorem joinq_spl (q a b k : Int) (t : Bool) (hk : 0 ≤ k ∧ k ≤ 2) (h : spl q k t = (a, b)) : q = joinq a b k t ∧ (k + 1) * (if b < a then b else a) ≤ q ∧ q ≤ (k + 1) * (if b < a then b else a) + k + 1 ∧ (k + 1) * a - 3 ≤ q ∧ q ≤ (k + 1) * a + 3 ∧ (k + 1) * a - 2 ≤ q ∧ q ≤ (k + 1) * a + 2 ∧ (k + 1) * b - 2 ≤ q ∧ q ≤ (k + 1) * b + 2 := by
  have hk' : k = 0 ∨ k = 1 ∨ k = 2 := by omega
  unfold spl at h
  unfold joinq
  rcases hk' with rfl | rfl | rfl
  · cases t <;> simp at h <;> obtain ⟨rfl, rfl⟩ := h <;> simp <;> omega
  · cases t <;> simp at h <;> obtain ⟨h1, h2⟩ := h <;> simp <;> split <;> omega
  · by_cases c3 : q % 3 = 1
    · cases t <;> simp [c3] at h <;> obtain ⟨h1, h2⟩ := h <;> simp <;> (repeat' split) <;> omega
    · by_cases c4 : q % 3 = 2
      · cases t <;> simp [c4] at h <;> obtain ⟨h1, h2⟩ := h <;> simp <;> (repeat' split) <;> omega
      · cases t <;> simp [c3, c4] at h <;> obtain ⟨h1, h2⟩ := h <;> simp <;> (repeat' split) <;> omega
/-- So many numbers from x on. -/
def iv : Nat → Int → List Int
  | 0, _ => []
  | n + 1, x => x :: iv n (x + 1)
theorem iv_length : ∀ (n : Nat) (x : Int), (iv n x).length = n
  | 0, _ => rfl
  | n + 1, x => by simp [iv, iv_length n]
theorem mem_iv : ∀ (n : Nat) (x y : Int), y ∈ iv n x → x ≤ y ∧ y < x + n
  | 0, _, _, h => by simp [iv] at h
  | n + 1, x, y, h => by
    simp only [iv, List.mem_cons] at h
    rcases h with rfl | h
    · omega
    · have := mem_iv n (x + 1) y h; omega
theorem ceil_alt (a b : Int) (hb : 1 ≤ b) : (a + b - 1) / b = -(-a / b) := by
  have h1 := Int.mul_ediv_add_emod (-a) b
  have hr0 := Int.emod_nonneg (-a) (show b ≠ 0 by omega)
  have hr1 := Int.emod_lt_of_pos (-a) (show 0 < b by omega)
  have e : a + b - 1 = (b - 1 - (-a) % b) + b * (-(-a / b)) := by
    have : b * (-(-a / b)) = -(b * (-a / b)) := by rw [Int.mul_neg]
    omega
  rw [e, Int.add_mul_ediv_left _ _ (by omega), Int.ediv_eq_zero_of_lt (by omega) (by omega)]
  omega
theorem l1Ceil_eq (a b : Int) (hb : 1 ≤ b) (h0 : 0 ≤ a) (h1 : a ≤ 4611686018427387904) (hb1 : b ≤ 4611686018427387903) : spec_l1Ceil.f a b = some (-(-a / b)) := by
  unfold spec_l1Ceil.f
  rw [if_neg (by omega), w64 (n := a + b) (by omega) (by omega), w64 (n := a + b - 1) (by omega) (by omega), Int.tdiv_eq_ediv_of_nonneg (by omega), ceil_alt a b hb]
  have hq : -a / b ≤ 0 := by have := Int.ediv_le_ediv (show 0 < b by omega) (show -a ≤ 0 by omega); simpa using this
  have h4 : -a ≤ -a / b := Int.le_ediv_of_mul_le (by omega) (by
        have : -a * b ≤ -a * 1 := Int.mul_le_mul_of_nonpos_left (by omega) (by omega)
        omega)
  rw [w64 (by omega) (by omega)]
theorem l1Floor_eq (a b : Int) (hb : 1 ≤ b) (h0 : -4611686018427387904 ≤ a) (h1 : a ≤ 4611686018427387904) (hb1 : b ≤ 4611686018427387903) : spec_l1Floor.f a b = some (a / b) := by
  unfold spec_l1Floor.f
  by_cases ha : a < 0
  · rw [if_pos ha, w64 (n := -a) (by omega) (by omega), l1Ceil_eq (-a) b hb (by omega) (by omega) hb1]
    simp only [Option.bind_some, Int.neg_neg]
    have h3 : a / b < 0 := Int.ediv_neg_of_neg_of_pos ha (by omega)
    have h4 : a ≤ a / b := Int.le_ediv_of_mul_le (by omega) (by
        have : a * b ≤ a * 1 := Int.mul_le_mul_of_nonpos_left (by omega) (by omega)
        omega)
    rw [w64 (by omega) (by omega)]
  · rw [if_neg ha, if_neg (by omega), Int.tdiv_eq_ediv_of_nonneg (by omega)]
    have h3 := Int.ediv_nonneg (show 0 ≤ a by omega) (show 0 ≤ b by omega)
    have h4 := Int.ediv_le_self b (show 0 ≤ a by omega)
    rw [w64 (by omega) (by omega)]
theorem l10Split_eq (q k : Int) (t : Bool) (h0 : -100000 ≤ q) (h1 : q ≤ 100000) (K : Nat) (hK : 1 ≤ K) : spec_l10Split.f K q k t = some (spl q k t) := by
  obtain ⟨K, rfl⟩ : ∃ m, K = m + 1 := ⟨K - 1, by omega⟩
  unfold spec_l10Split.f spl
  by_cases c1 : k = 1
  · rw [if_pos c1, w64 (n := q + 1) (by omega) (by omega), l1Floor_eq (q + 1) 2 (by omega) (by omega) (by omega) (by omega), l1Floor_eq q 2 (by omega) (by omega) (by omega) (by omega)]
    cases t <;> simp [c1]
  · rw [if_neg c1]
    by_cases c2 : k = 2
    · rw [if_pos c2, l1Floor_eq q 3 (by omega) (by omega) (by omega) (by omega)]
      simp only [Option.bind_some]
      rw [w64 (n := 3 * (q / 3)) (by omega) (by omega), w64 (n := 3 * (q / 3) + 1) (by omega) (by omega), w64 (n := q / 3 + 1) (by omega) (by omega)]
      simp only [spec_l10Split.j0]
      rw [w64 (n := 3 * (q / 3)) (by omega) (by omega), w64 (n := 3 * (q / 3) + 2) (by omega) (by omega), w64 (n := q / 3 + 1) (by omega) (by omega)]
      by_cases c3 : q % 3 = 1
      · rw [if_pos (show q = 3 * (q / 3) + 1 by omega), if_neg (show ¬ q = 3 * (q / 3) + 2 by omega)]
        cases t <;> simp [c1, c2, c3]
      · rw [if_neg (show ¬ q = 3 * (q / 3) + 1 by omega)]
        by_cases c4 : q % 3 = 2
        · rw [if_pos (show q = 3 * (q / 3) + 2 by omega)]
          cases t <;> simp [c1, c2, c3, c4]
        · rw [if_neg (show ¬ q = 3 * (q / 3) + 2 by omega)]
          cases t <;> simp [c1, c2, c3, c4]
    · cases t <;> simp [c1, c2]
theorem l1In_eq (a b c : Int) : spec_l1In.f a b c = some (decide (b ≤ a ∧ a ≤ c)) := by
  unfold spec_l1In.f
  by_cases h : a ≥ b
  · rw [if_pos h]; congr 1; have : b ≤ a := h; simp [this]
  · rw [if_neg h]; have : ¬ b ≤ a := h; simp [this]
theorem l10Index_eq (a : Int) : spec_l10Index.f a = some (decide (-30000 ≤ a ∧ a ≤ 30000)) := by unfold spec_l10Index.f; rw [l1In_eq]; rfl
/-- All indices out of a run of numbers that have a number on a side. -/
def cellP (side v k : Int) (t : Bool) (q : Int) : Bool := decide (-30000 ≤ q ∧ q ≤ 30000) && (decide (side = 0 ∧ (spl q k t).1 = v) || decide (side = 1 ∧ (spl q k t).2 = v))
theorem l10Cell_l0 (side v k : Int) (t : Bool) (hk : 0 ≤ k ∧ k ≤ 2) (hv : -30000 ≤ v ∧ v ≤ 30000) (hi : Int) (hhi : hi = (k + 1) * v + 3) :
    ∀ (n : Nat) (x : Int) (acc : List Int) (K : Nat), hi + 1 - x = n → -100000 ≤ x → n + 1 < K → acc.length + n ≤ 1000 →
    spec_l10Cell.l0 K side v k t acc x = some (acc ++ (iv n x).filter (cellP side v k t)) := by
  have hk' : k = 0 ∨ k = 1 ∨ k = 2 := by omega
  have ew : wrap64 (wrap64 (wrap64 (k + 1) * v) + 3) = hi := by
    subst hhi
    rcases hk' with rfl | rfl | rfl <;> simp only [wrap64] <;> omega
  have hhb : -100000 ≤ hi ∧ hi ≤ 99999 := by subst hhi; rcases hk' with rfl | rfl | rfl <;> omega
  intro n
  induction n with
  | zero =>
    intro x acc K hn hx hK ha
    obtain ⟨K, rfl⟩ : ∃ m, K = m + 1 := ⟨K - 1, by omega⟩
    simp only [spec_l10Cell.l0]
    rw [ew, if_neg (by omega)]; simp [iv]
  | succ n ih =>
    intro x acc K hn hx hK ha
    obtain ⟨K, rfl⟩ : ∃ m, K = m + 1 := ⟨K - 1, by omega⟩
    simp only [spec_l10Cell.l0]
    rw [ew, if_pos (by omega), l10Split_eq x k t (by omega) (by omega) K (by omega), l10Index_eq]
    simp only [Option.bind_some, decide_eq_true_eq]
    have hlim : acc.length < 17592186044416 := by omega
    have go1 := ih (x + 1) acc K (by omega) (by omega) (by omega) (by omega)
    have go2 := ih (x + 1) (acc ++ [x]) K (by omega) (by omega) (by omega) (by simp; omega)
    simp only [w64 (n := x + 1) (by omega) (by omega), if_pos hlim, go1, go2, iv, List.filter_cons, cellP]
    by_cases c1 : -30000 ≤ x ∧ x ≤ 30000
    · by_cases c2 : side = 0
      · by_cases c3 : (spl x k t).1 = v
        · simp [c1, c2, c3]
        · simp [c1, c2, c3]
      · by_cases c3 : side = 1
        · by_cases c4 : (spl x k t).2 = v
          · simp [c1, c3, c4]
          · simp [c1, c3, c4]
        · simp [c1, c2, c3]
    · simp [c1]
theorem l10Cell_eq (side v k : Int) (t : Bool) (hk : 0 ≤ k ∧ k ≤ 2) (hv : -30000 ≤ v ∧ v ≤ 30000) (K : Nat) (hK : 12 ≤ K) : spec_l10Cell.f K side v k t = some ((iv 7 ((k + 1) * v - 3)).filter (cellP side v k t)) := by
  have hk' : k = 0 ∨ k = 1 ∨ k = 2 := by omega
  have ew : wrap64 (wrap64 (wrap64 (k + 1) * v) - 3) = (k + 1) * v - 3 := by
    rcases hk' with rfl | rfl | rfl <;> simp only [wrap64] <;> omega
  have hlo : -100000 ≤ (k + 1) * v - 3 := by rcases hk' with rfl | rfl | rfl <;> omega
  unfold spec_l10Cell.f
  rw [ew, l10Cell_l0 side v k t hk hv _ rfl 7 _ [] K (by omega) hlo (by omega) (by simp)]
  simp
theorem cell_bounds (side v k : Int) (t : Bool) (hk : 0 ≤ k ∧ k ≤ 2) (q : Int) (h : cellP side v k t q = true) : (k + 1) * v - 2 ≤ q ∧ q ≤ (k + 1) * v + 2 := by
  unfold cellP at h
  simp only [Bool.and_eq_true, Bool.or_eq_true, decide_eq_true_eq] at h
  rcases h.2 with ⟨_, h1⟩ | ⟨_, h1⟩
  · have := joinq_spl q v (spl q k t).2 k t hk (Prod.ext h1 rfl); omega
  · have := joinq_spl q (spl q k t).1 v k t hk (Prod.ext rfl h1); omega
theorem cell_7_5 (side v k : Int) (t : Bool) (hk : 0 ≤ k ∧ k ≤ 2) : (iv 7 ((k + 1) * v - 3)).filter (cellP side v k t) = (iv 5 ((k + 1) * v - 2)).filter (cellP side v k t) := by
  have a := cell_bounds side v k t hk
  have e : iv 7 ((k + 1) * v - 3) = ((k + 1) * v - 3) :: (iv 5 ((k + 1) * v - 2) ++ [(k + 1) * v + 3]) := by
    simp only [iv, List.cons_append, List.nil_append]
    congr 1; congr 1; · omega
    congr 1; · omega
    congr 1; · omega
    congr 1; · omega
    congr 1; · omega
    congr 1; omega
  have n1 : ¬ cellP side v k t ((k + 1) * v - 3) = true := fun h => by have := a _ h; omega
  have n2 : ¬ cellP side v k t ((k + 1) * v + 3) = true := fun h => by have := a _ h; omega
  rw [e, List.filter_cons, if_neg n1, List.filter_append, List.filter_cons, if_neg n2]; simp
theorem sideFault_eq (a b c : Int) : impl_sideFault.f a b c = some (if (0 ≤ a ∧ a ≤ 1) ∧ (0 ≤ c ∧ c ≤ 2) ∧ (-30000 ≤ b ∧ b ≤ 30000) then 0 else 3) := by
  unfold impl_sideFault.f
  simp only [isSide_eq, isSpread_eq, isIndexOf_eq, codeIf_eq, Option.bind_some, decide_eq_true_eq]
  by_cases h1 : 0 ≤ a ∧ a ≤ 1 <;> by_cases h2 : 0 ≤ c ∧ c ≤ 2 <;> by_cases h3 : -30000 ≤ b ∧ b ≤ 30000 <;> simp [h1, h2, h3]
/-- What CellOf answers. -/
def cellR (side v k : Int) (t : Bool) : Int × List Int := if (0 ≤ side ∧ side ≤ 1) ∧ (0 ≤ k ∧ k ≤ 2) ∧ (-30000 ≤ v ∧ v ≤ 30000) then (0, (iv 5 ((k + 1) * v - 2)).filter (cellP side v k t)) else (3, [])
theorem cellR_length (side v k : Int) (t : Bool) : (cellR side v k t).2.length ≤ 5 := by
  unfold cellR; split
  · exact Nat.le_trans (List.length_filter_le _ _) (by simp [iv_length])
  · simp
theorem CellOf_l0 (side v k : Int) (t : Bool) (hk : 0 ≤ k ∧ k ≤ 2) (hv : -30000 ≤ v ∧ v ≤ 30000) (hi : Int) (hhi : hi = (k + 1) * v + 2) :
    ∀ (n : Nat) (x : Int) (acc : List Int) (K : Nat), hi + 1 - x = n → -100000 ≤ x → n + 1 < K → acc.length + n ≤ 1000 →
    impl_CellOf.l0 K side v k t acc x = some (0, acc ++ (iv n x).filter (cellP side v k t)) := by
  have hk' : k = 0 ∨ k = 1 ∨ k = 2 := by omega
  have ew : wrap64 (wrap64 (wrap64 (k + 1) * v) + 2) = hi := by
    subst hhi
    rcases hk' with rfl | rfl | rfl <;> simp only [wrap64] <;> omega
  have hhb : -100000 ≤ hi ∧ hi ≤ 99999 := by subst hhi; rcases hk' with rfl | rfl | rfl <;> omega
  intro n
  induction n with
  | zero =>
    intro x acc K hn hx hK ha
    obtain ⟨K, rfl⟩ : ∃ m, K = m + 1 := ⟨K - 1, by omega⟩
    simp only [impl_CellOf.l0]
    rw [ew, if_neg (by omega)]; simp [iv]
  | succ n ih =>
    intro x acc K hn hx hK ha
    obtain ⟨K, rfl⟩ : ∃ m, K = m + 1 := ⟨K - 1, by omega⟩
    simp only [impl_CellOf.l0]
    rw [ew, if_pos (by omega), splitIndex_eq x k t (by omega) (by omega), isIndexOf_eq]
    simp only [Option.bind_some, decide_eq_true_eq]
    have hlim : acc.length < 17592186044416 := by omega
    have go1 := ih (x + 1) acc K (by omega) (by omega) (by omega) (by omega)
    have go2 := ih (x + 1) (acc ++ [x]) K (by omega) (by omega) (by omega) (by simp; omega)
    simp only [w64 (n := x + 1) (by omega) (by omega), if_pos hlim, go1, go2, iv, List.filter_cons, cellP]
    by_cases c1 : -30000 ≤ x ∧ x ≤ 30000
    · by_cases c2 : side = 0
      · by_cases c3 : (spl x k t).1 = v
        · simp [c1, c2, c3]
        · simp [c1, c2, c3]
      · by_cases c3 : side = 1
        · by_cases c4 : (spl x k t).2 = v
          · simp [c1, c3, c4]
          · simp [c1, c3, c4]
        · simp [c1, c2, c3]
    · simp [c1]
theorem CellOf_eq (side v k : Int) (t : Bool) (K : Nat) (hK : 12 ≤ K) : impl_CellOf.f K side v k t = some (cellR side v k t) := by
  unfold impl_CellOf.f cellR
  rw [sideFault_eq]
  simp only [Option.bind_some]
  by_cases h : (0 ≤ side ∧ side ≤ 1) ∧ (0 ≤ k ∧ k ≤ 2) ∧ (-30000 ≤ v ∧ v ≤ 30000)
  · rw [if_pos h, if_pos rfl, if_pos h]
    have hk' : k = 0 ∨ k = 1 ∨ k = 2 := by omega
    have ew : wrap64 (wrap64 (wrap64 (k + 1) * v) - 2) = (k + 1) * v - 2 := by
      rcases hk' with rfl | rfl | rfl <;> simp only [wrap64] <;> omega
    have hlo : -100000 ≤ (k + 1) * v - 2 := by rcases hk' with rfl | rfl | rfl <;> omega
    rw [ew, CellOf_l0 side v k t h.2.1 h.2.2 _ rfl 5 _ [] K (by omega) hlo (by omega) (by simp)]
    simp
  · rw [if_neg h, if_neg (by decide), if_neg h]
theorem l10Spread_eq (a : Int) : spec_l10Spread.f a = some (decide (0 ≤ a ∧ a ≤ 2)) := by unfold spec_l10Spread.f; rw [l1In_eq]; rfl
theorem l10Side_eq (a b : Int) : spec_l10Side.f a b = some (decide ((0 ≤ a ∧ a ≤ 1) ∧ (0 ≤ b ∧ b ≤ 2))) := by
  unfold spec_l10Side.f; rw [l1In_eq, l10Spread_eq]; by_cases h : 0 ≤ a ∧ a ≤ 1 <;> simp [h]
theorem specCellOf_eq (side v k : Int) (t : Bool) (K : Nat) (hK : 12 ≤ K) : spec_CellOf.f K side v k t = some (cellR side v k t) := by
  unfold spec_CellOf.f cellR
  simp only [l10Side_eq, l10Index_eq, Option.bind_some, decide_eq_true_eq]
  by_cases h1 : (0 ≤ side ∧ side ≤ 1) ∧ (0 ≤ k ∧ k ≤ 2)
  · by_cases h2 : -30000 ≤ v ∧ v ≤ 30000
    · rw [if_pos h1, if_pos h2, if_pos ⟨h1.1, h1.2, h2⟩, l10Cell_eq side v k t h1.2 h2 K (by omega), cell_7_5 side v k t h1.2]; rfl
    · rw [if_pos h1, if_neg h2, if_neg (fun h => h2 h.2.2)]
  · rw [if_neg h1, if_neg (fun h => h1 ⟨h.1, h.2.1⟩)]
/-- What SplitIndex answers. -/
def splitR (q k : Int) (t : Bool) : Int × Int × Int := if (0 ≤ k ∧ k ≤ 2) ∧ (-30000 ≤ q ∧ q ≤ 30000) then (0, (spl q k t).1, (spl q k t).2) else (3, 0, 0)
theorem SplitIndex_eq (q k : Int) (t : Bool) : impl_SplitIndex.f q k t = some (splitR q k t) := by
  unfold impl_SplitIndex.f splitR
  simp only [isSpread_eq, isIndexOf_eq, Option.bind_some, decide_eq_true_eq]
  by_cases h1 : 0 ≤ k ∧ k ≤ 2
  · by_cases h2 : -30000 ≤ q ∧ q ≤ 30000
    · rw [splitIndex_eq q k t (by omega) (by omega)]; simp [h1, h2]
    · simp [h1, h2]
  · simp [h1]
def sideR (s v k : Int) : Int × Int := if (0 ≤ s ∧ s ≤ 1) ∧ (0 ≤ k ∧ k ≤ 2) ∧ (-30000 ≤ v ∧ v ≤ 30000) then (0, (k + 1) * v) else (3, 0)
theorem kv_bound (k v : Int) (hk : 0 ≤ k ∧ k ≤ 2) (hv : -30000 ≤ v ∧ v ≤ 30000) : -90000 ≤ (k + 1) * v ∧ (k + 1) * v ≤ 90000 := by
  have : k = 0 ∨ k = 1 ∨ k = 2 := by omega
  rcases this with rfl | rfl | rfl <;> omega
theorem SideIndex_eq (s v k : Int) (t : Bool) : impl_SideIndex.f s v k t = some (sideR s v k) := by
  unfold impl_SideIndex.f impl_sideFault.f sideR
  simp only [isSide_eq, isSpread_eq, isIndexOf_eq, codeIf_eq, Option.bind_some, decide_eq_true_eq]
  by_cases h1 : 0 ≤ s ∧ s ≤ 1
  · by_cases h2 : 0 ≤ k ∧ k ≤ 2
    · by_cases h3 : -30000 ≤ v ∧ v ≤ 30000
      · have := kv_bound k v h2 h3
        have e1 : wrap64 (k + 1) = k + 1 := w64 (by omega) (by omega)
        have e2 : wrap64 ((k + 1) * v) = (k + 1) * v := w64 (by omega) (by omega)
        simp [h1, h2, h3, e1, e2]
      · simp [h1, h2, h3]
    · simp [h1, h2]
  · simp [h1]
/-- How far an index is from what a side's number tells. -/
def off (s k : Int) (t : Bool) : Int := if k = 2 ∧ (decide (s = 1) != t) = false then 1 else k
def spreadR (s k : Int) (t : Bool) : Int × Int := if (0 ≤ s ∧ s ≤ 1) ∧ (0 ≤ k ∧ k ≤ 2) then (0, off s k t) else (3, 0)
theorem off_le (s k : Int) (t : Bool) : off s k t ≤ k := by unfold off; split <;> omega
theorem SpreadOf_eq (s k : Int) (t : Bool) : impl_SpreadOf.f s k t = some (spreadR s k t) := by
  unfold impl_SpreadOf.f spreadR
  simp only [isSide_eq, isSpread_eq, Option.bind_some, decide_eq_true_eq]
  by_cases h1 : 0 ≤ s ∧ s ≤ 1
  · by_cases h2 : 0 ≤ k ∧ k ≤ 2
    · unfold impl_spreadOf.f mn off
      have ha : s = 0 ∨ s = 1 := by omega
      have hb : k = 0 ∨ k = 1 ∨ k = 2 := by omega
      rcases ha with rfl | rfl <;> rcases hb with rfl | rfl | rfl <;> cases t <;> decide
    · simp [h1, h2]
  · simp [h1]
theorem specSpreadOf_eq (s k : Int) (t : Bool) : spec_SpreadOf.f s k t = some (spreadR s k t) := by
  unfold spec_SpreadOf.f spreadR
  simp only [l10Side_eq, Option.bind_some, decide_eq_true_eq]
  by_cases h1 : 0 ≤ s ∧ s ≤ 1
  · by_cases h2 : 0 ≤ k ∧ k ≤ 2
    · unfold spec_l10Off.f off
      have ha : s = 0 ∨ s = 1 := by omega
      have hb : k = 0 ∨ k = 1 ∨ k = 2 := by omega
      rcases ha with rfl | rfl <;> rcases hb with rfl | rfl | rfl <;> cases t <;> decide
    · simp [h1, h2]
  · simp [h1]
theorem spl_near (q k : Int) (t : Bool) (hk : 0 ≤ k ∧ k ≤ 2) (hq : -30000 ≤ q ∧ q ≤ 30000) :
    (-30000 ≤ (spl q k t).1 ∧ (spl q k t).1 ≤ 30000) ∧ (-30000 ≤ (spl q k t).2 ∧ (spl q k t).2 ≤ 30000) ∧ (-(off 0 k t) ≤ (k + 1) * (spl q k t).1 - q ∧ (k + 1) * (spl q k t).1 - q ≤ off 0 k t) ∧ (-(off 1 k t) ≤ (k + 1) * (spl q k t).2 - q ∧ (k + 1) * (spl q k t).2 - q ≤ off 1 k t) := by
  have hk' : k = 0 ∨ k = 1 ∨ k = 2 := by omega
  unfold spl off
  rcases hk' with rfl | rfl | rfl
  · cases t <;> simp <;> omega
  · cases t <;> simp <;> omega
  · by_cases c3 : q % 3 = 1
    · cases t <;> simp [c3] <;> omega
    · by_cases c4 : q % 3 = 2
      · cases t <;> simp [c4] <;> omega
      · cases t <;> simp [c3, c4] <;> omega
theorem spl_swap (q k : Int) (t : Bool) : spl q k (!t) = ((spl q k t).2, (spl q k t).1) := by
  unfold spl; cases t <;> simp
theorem cell_where (s v k : Int) (t : Bool) (q : Int) (hk : 0 ≤ k ∧ k ≤ 2) (h : cellP s v k t q = true) : (k = 0 → q = v) ∧ (k = 1 → q = 2 * v ∨ (q = 2 * v - 1 ∧ decide (s = 1) = t) ∨ (q = 2 * v + 1 ∧ decide (s = 1) ≠ t)) ∧ (k = 2 → q = 3 * v ∨ ((q = 3 * v - 1 ∨ q = 3 * v + 1) ∧ decide (s = 1) ≠ (!t)) ∨ ((q = 3 * v - 2 ∨ q = 3 * v + 2) ∧ decide (s = 1) ≠ t)) := by
  unfold cellP at h
  simp only [Bool.and_eq_true, Bool.or_eq_true, decide_eq_true_eq] at h
  obtain ⟨_, h⟩ := h
  have hk' : k = 0 ∨ k = 1 ∨ k = 2 := by omega
  unfold spl at h
  rcases hk' with rfl | rfl | rfl
  · refine ⟨fun _ => ?_, fun h => by omega, fun h => by omega⟩
    rcases h with ⟨rfl, h⟩ | ⟨rfl, h⟩ <;> cases t <;> simp at h <;> omega
  · refine ⟨fun h => by omega, fun _ => ?_, fun h => by omega⟩
    rcases h with ⟨rfl, h⟩ | ⟨rfl, h⟩ <;> cases t <;> simp at h ⊢ <;> omega
  · refine ⟨fun h => by omega, fun h => by omega, fun _ => ?_⟩
    by_cases c3 : q % 3 = 1
    · rcases h with ⟨rfl, h⟩ | ⟨rfl, h⟩ <;> cases t <;> simp [c3] at h ⊢ <;> omega
    · by_cases c4 : q % 3 = 2
      · rcases h with ⟨rfl, h⟩ | ⟨rfl, h⟩ <;> cases t <;> simp [c4] at h ⊢ <;> omega
      · rcases h with ⟨rfl, h⟩ | ⟨rfl, h⟩ <;> cases t <;> simp [c3, c4] at h ⊢ <;> omega
theorem cell_count (s v k : Int) (t : Bool) (hk : 0 ≤ k ∧ k ≤ 2) : (((iv 5 ((k + 1) * v - 2)).filter (cellP s v k t)).length : Int) ≤ k + 1 := by
  have hw := fun q => cell_where s v k t q hk
  generalize cellP s v k t = p at hw
  have no : ∀ q, (p q = true → False) → p q = false := fun q h => by cases e : p q with | false => rfl | true => exact (h e).elim
  have hk' : k = 0 ∨ k = 1 ∨ k = 2 := by omega
  have le3 : ∀ a b c : Int, (List.filter p [a, b, c]).length ≤ 3 := fun a b c => List.length_filter_le _ _
  have le2 : ∀ a b : Int, (List.filter p [a, b]).length ≤ 2 := fun a b => List.length_filter_le _ _
  have le1 : ∀ a : Int, (List.filter p [a]).length ≤ 1 := fun a => List.length_filter_le _ _
  simp only [iv]
  by_cases c : decide (s = 1) = t
  · have c2 : ¬ decide (s = 1) ≠ t := fun h => h c
    rcases hk' with rfl | rfl | rfl
    · have f1 := no ((0 + 1) * v - 2) (fun h => by have := (hw _ h).1 rfl; omega)
      have f2 := no ((0 + 1) * v - 2 + 1) (fun h => by have := (hw _ h).1 rfl; omega)
      have f4 := no ((0 + 1) * v - 2 + 1 + 1 + 1) (fun h => by have := (hw _ h).1 rfl; omega)
      have f5 := no ((0 + 1) * v - 2 + 1 + 1 + 1 + 1) (fun h => by have := (hw _ h).1 rfl; omega)
      have := le1 ((0 + 1) * v - 2 + 1 + 1)
      simp only [List.filter_cons, f1, f2, f4, f5, List.filter_nil] at this ⊢
      simp only [Bool.false_eq_true, if_false] at this ⊢
      omega
    · have f1 := no ((1 + 1) * v - 2) (fun h => by rcases (hw _ h).2.1 rfl with h | ⟨h, h'⟩ | ⟨h, h'⟩ <;> first | omega | exact (c2 h').elim | exact (h' c).elim)
      have f4 := no ((1 + 1) * v - 2 + 1 + 1 + 1) (fun h => by rcases (hw _ h).2.1 rfl with h | ⟨h, h'⟩ | ⟨h, h'⟩ <;> first | omega | exact (c2 h').elim | exact (h' c).elim)
      have f5 := no ((1 + 1) * v - 2 + 1 + 1 + 1 + 1) (fun h => by rcases (hw _ h).2.1 rfl with h | ⟨h, h'⟩ | ⟨h, h'⟩ <;> first | omega | exact (c2 h').elim | exact (h' c).elim)
      have := le2 ((1 + 1) * v - 2 + 1) ((1 + 1) * v - 2 + 1 + 1)
      simp only [List.filter_cons, f1, f4, f5, List.filter_nil] at this ⊢
      simp only [Bool.false_eq_true, if_false] at this ⊢
      omega
    · have f1 := no ((2 + 1) * v - 2) (fun h => by rcases (hw _ h).2.2 rfl with h | ⟨h, h'⟩ | ⟨h, h'⟩ <;> first | omega | exact (c2 h').elim | exact (h' c).elim)
      have f5 := no ((2 + 1) * v - 2 + 1 + 1 + 1 + 1) (fun h => by rcases (hw _ h).2.2 rfl with h | ⟨h, h'⟩ | ⟨h, h'⟩ <;> first | omega | exact (c2 h').elim | exact (h' c).elim)
      have := le3 ((2 + 1) * v - 2 + 1) ((2 + 1) * v - 2 + 1 + 1) ((2 + 1) * v - 2 + 1 + 1 + 1)
      simp only [List.filter_cons, f1, f5, List.filter_nil] at this ⊢
      simp only [Bool.false_eq_true, if_false] at this ⊢
      omega
  · have c3 : decide (s = 1) = !t := by cases t <;> cases h : decide (s = 1) <;> simp_all
    have c4 : ¬ decide (s = 1) ≠ (!t) := fun h => h c3
    rcases hk' with rfl | rfl | rfl
    · have f1 := no ((0 + 1) * v - 2) (fun h => by have := (hw _ h).1 rfl; omega)
      have f2 := no ((0 + 1) * v - 2 + 1) (fun h => by have := (hw _ h).1 rfl; omega)
      have f4 := no ((0 + 1) * v - 2 + 1 + 1 + 1) (fun h => by have := (hw _ h).1 rfl; omega)
      have f5 := no ((0 + 1) * v - 2 + 1 + 1 + 1 + 1) (fun h => by have := (hw _ h).1 rfl; omega)
      have := le1 ((0 + 1) * v - 2 + 1 + 1)
      simp only [List.filter_cons, f1, f2, f4, f5, List.filter_nil] at this ⊢
      simp only [Bool.false_eq_true, if_false] at this ⊢
      omega
    · have f1 := no ((1 + 1) * v - 2) (fun h => by rcases (hw _ h).2.1 rfl with h | ⟨h, h'⟩ | ⟨h, h'⟩ <;> first | omega | exact (c h').elim | exact (c4 h').elim)
      have f2 := no ((1 + 1) * v - 2 + 1) (fun h => by rcases (hw _ h).2.1 rfl with h | ⟨h, h'⟩ | ⟨h, h'⟩ <;> first | omega | exact (c h').elim | exact (c4 h').elim)
      have f5 := no ((1 + 1) * v - 2 + 1 + 1 + 1 + 1) (fun h => by rcases (hw _ h).2.1 rfl with h | ⟨h, h'⟩ | ⟨h, h'⟩ <;> first | omega | exact (c h').elim | exact (c4 h').elim)
      have := le2 ((1 + 1) * v - 2 + 1 + 1) ((1 + 1) * v - 2 + 1 + 1 + 1)
      simp only [List.filter_cons, f1, f2, f5, List.filter_nil] at this ⊢
      simp only [Bool.false_eq_true, if_false] at this ⊢
      omega
    · have f2 := no ((2 + 1) * v - 2 + 1) (fun h => by rcases (hw _ h).2.2 rfl with h | ⟨h, h'⟩ | ⟨h, h'⟩ <;> first | omega | exact (c h').elim | exact (c4 h').elim)
      have f4 := no ((2 + 1) * v - 2 + 1 + 1 + 1) (fun h => by rcases (hw _ h).2.2 rfl with h | ⟨h, h'⟩ | ⟨h, h'⟩ <;> first | omega | exact (c h').elim | exact (c4 h').elim)
      have := le3 ((2 + 1) * v - 2) ((2 + 1) * v - 2 + 1 + 1) ((2 + 1) * v - 2 + 1 + 1 + 1 + 1)
      simp only [List.filter_cons, f2, f4, List.filter_nil] at this ⊢
      simp only [Bool.false_eq_true, if_false] at this ⊢
      omega
theorem iv_asc : ∀ (n : Nat) (x : Int), List.Pairwise (· < ·) (iv n x)
  | 0, _ => List.Pairwise.nil
  | n + 1, x => by
    simp only [iv]
    exact List.Pairwise.cons (fun y hy => by have := mem_iv n (x + 1) y hy; omega) (iv_asc n (x + 1))
theorem asc_rd {L : List Int} (h : List.Pairwise (· < ·) L) (i : Int) (h0 : 1 ≤ i) (h1 : i < (L.length : Int)) : rd L (i - 1) < rd L i := by
  have := (List.pairwise_iff_getElem.mp h) (i - 1).toNat i.toNat (by omega) (by omega) (by omega)
  unfold rd
  rw [List.getD_eq_getElem?_getD, List.getD_eq_getElem?_getD, List.getElem?_eq_getElem (show (i - 1).toNat < L.length by omega), List.getElem?_eq_getElem (show i.toNat < L.length by omega)]
  exact this
theorem lwAbs_eq (x : Int) (h0 : -9223372036854775807 ≤ x) (h1 : x ≤ 9223372036854775807) : laws_lwAbs.f x = some (if x < 0 then -x else x) := by
  unfold laws_lwAbs.f
  by_cases h : x < 0
  · rw [if_pos h, if_pos h, w64 (by omega) (by omega)]
  · rw [if_neg h, if_neg h]
theorem lwBig_eq (l : List Int) : laws_lwBig.f l = some (decide ((l.length : Int) > 1048576)) := rfl
theorem FnCells : laws_FnCells.Pure := by
  intro l hm hl hb
  refine ⟨100, ?_⟩
  unfold laws_FnCells.f
  rw [lwBig_eq]; simp only [Option.bind_some, decide_eq_true_eq]
  by_cases hbig : (l.length : Int) > 1048576
  · rw [if_pos hbig]
  rw [if_neg hbig]
  obtain ⟨s, v, k, t, hd⟩ := DrawCellOf_ok hb
  rw [hd]; simp only [Option.bind_some]
  rw [CellOf_eq s v k t 100 (by omega), specCellOf_eq s v k t 100 (by omega)]
  simp only [Option.bind_some, if_true, SpreadOf_eq, specSpreadOf_eq, beq_self_eq_true, Bool.not_true, Bool.or_self]
  simp only [laws_FnCells.j0, Bool.false_eq_true, if_false]
  by_cases h : (0 ≤ s ∧ s ≤ 1) ∧ (0 ≤ k ∧ k ≤ 2) ∧ (-30000 ≤ v ∧ v ≤ 30000)
  · have e : cellR s v k t = (0, (iv 5 ((k + 1) * v - 2)).filter (cellP s v k t)) := by unfold cellR; rw [if_pos h]
    rw [e]; simp only [if_true]
    have hcnt := cell_count s v k t h.2.1
    have hasc : List.Pairwise (· < ·) ((iv 5 ((k + 1) * v - 2)).filter (cellP s v k t)) := List.Pairwise.filter _ (iv_asc 5 _)
    have hP : ∀ x ∈ (iv 5 ((k + 1) * v - 2)).filter (cellP s v k t), cellP s v k t x = true := fun x hx => (List.mem_filter.mp hx).2
    generalize (iv 5 ((k + 1) * v - 2)).filter (cellP s v k t) = L at hcnt hasc hP
    have main : ∀ (n : Nat) (i : Int) (K : Nat), i + n = L.length → 0 ≤ i → 2 * n + 20 ≤ K → laws_FnCells.l0 K s v k t i 0 L = some true := by
      intro n
      induction n with
      | zero =>
        intro i K hi h0 hK
        obtain ⟨K, rfl⟩ : ∃ z, K = z + 1 := ⟨K - 1, by omega⟩
        simp only [laws_FnCells.l0]
        rw [if_neg (by omega), w64 (by omega) (by omega), decide_eq_true hcnt]
      | succ n ih =>
        intro i K hi h0 hK
        obtain ⟨K, rfl⟩ : ∃ z, K = z + 2 := ⟨K - 2, by omega⟩
        have hx := hP _ (rd_mem L i h0 (by omega))
        have hx2 := hx
        unfold cellP at hx2
        simp only [Bool.and_eq_true, Bool.or_eq_true, decide_eq_true_eq] at hx2
        obtain ⟨hx3, hx4⟩ := hx2
        have esp : splitR (rd L i) k t = (0, (spl (rd L i) k t).1, (spl (rd L i) k t).2) := by unfold splitR; rw [if_pos ⟨h.2.1, hx3⟩]
        have esd : sideR s v k = (0, (k + 1) * v) := by unfold sideR; rw [if_pos h]
        have epr : spreadR s k t = (0, off s k t) := by unfold spreadR; rw [if_pos ⟨h.1, h.2.1⟩]
        have hbd := kv_bound k v h.2.1 h.2.2
        obtain ⟨_, _, n3, n4⟩ := spl_near (rd L i) k t h.2.1 hx3
        have hnear : -(off s k t) ≤ rd L i - (k + 1) * v ∧ rd L i - (k + 1) * v ≤ off s k t := by
          rcases hx4 with ⟨rfl, h5⟩ | ⟨rfl, h5⟩
          · rw [h5] at n3; omega
          · rw [h5] at n4; omega
        have hab : ¬ (if rd L i - (k + 1) * v < 0 then -(rd L i - (k + 1) * v) else rd L i - (k + 1) * v) > off s k t := by split <;> omega
        have step : ∀ mine, mine = v → laws_FnCells.j2 (K + 1) s v k t i mine 0 L 0 (spl (rd L i) k t).1 (spl (rd L i) k t).2 = some true := by
          rintro mine rfl
          simp only [laws_FnCells.j2, if_true]
          by_cases c : i > 0
          · have ha := asc_rd hasc i (by omega) (by omega)
            rw [if_pos c, if_pos h0, if_pos (by omega), w64 (n := i - 1) (by omega) (by omega), if_pos (by omega), if_pos (by omega), if_neg (by omega), SideIndex_eq, esd]
            simp only [Option.bind_some]
            rw [w64 (n := rd L i - (k + 1) * mine) (by omega) (by omega), lwAbs_eq _ (by omega) (by omega)]
            simp only [Option.bind_some, SpreadOf_eq, epr]
            rw [if_neg hab, w64 (n := i + 1) (by omega) (by omega)]
            exact ih (i + 1) K (by omega) (by omega) (by omega)
          · rw [if_neg c, if_pos h0, if_pos (by omega), SideIndex_eq, esd]
            simp only [Option.bind_some]
            rw [w64 (n := rd L i - (k + 1) * mine) (by omega) (by omega), lwAbs_eq _ (by omega) (by omega)]
            simp only [Option.bind_some, SpreadOf_eq, epr]
            rw [if_neg hab, w64 (n := i + 1) (by omega) (by omega)]
            exact ih (i + 1) K (by omega) (by omega) (by omega)
        simp only [laws_FnCells.l0]
        rw [if_pos (by omega), if_pos h0, SplitIndex_eq, esp]
        simp only [Option.bind_some]
        by_cases c : s = 1
        · rw [if_pos c]
          exact step _ (by rcases hx4 with h5 | h5 <;> omega)
        · rw [if_neg c]
          exact step _ (by rcases hx4 with h5 | h5 <;> omega)
    exact main L.length 0 99 (by omega) (by omega) (by omega)
  · have e : cellR s v k t = (3, []) := by unfold cellR; rw [if_neg h]
    rw [e]; simp

end Go.Proofs.Ytpbkbibjlbbkbaa.Pure
