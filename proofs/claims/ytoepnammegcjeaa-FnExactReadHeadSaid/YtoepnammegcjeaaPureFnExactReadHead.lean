/- The program's ReadHead returns what the reference's returns, for all arguments. -/
import Derived.Test.YtoepnammegcjeaaPFnExactReadHeadx6
set_option linter.unusedVariables false
set_option linter.unusedSimpArgs false
namespace Go.Proofs.Ytoepnammegcjeaa.Pure
open Go.RowKit Go.Proofs.Ytoepnammegcjeaa.PFnExactReadHead Go.Proofs.YtoepnammegcjeaaW.PrintWords Go.Proofs.YtoepnammegcjeaaW.PrintLast

theorem w64 {n : Int} (h1 : -9223372036854775808 ≤ n) (h2 : n ≤ 9223372036854775807) : wrap64 n = n := by unfold wrap64; omega
theorem wfu8 {x : Int} (h : (Lit.int .u8 x).wf = true) : 0 ≤ x ∧ x ≤ 255 := by
  simp only [Lit.wf, Bool.and_eq_true, decide_eq_true_eq] at h
  have e1 : IntKind.u8.min = 0 := by decide
  have e2 : IntKind.u8.max = 255 := by decide
  rw [e1, e2] at h; exact h
/-- Numbers of a byte each. -/
def byt (l : List Int) : Prop := ∀ x ∈ l, 0 ≤ x ∧ x ≤ 255
theorem byt_rd {l : List Int} (h : byt l) (i : Nat) (hi : i < l.length) : 0 ≤ rd l (i : Int) ∧ rd l (i : Int) ≤ 255 := by
  unfold rd; rw [Int.toNat_natCast, List.getD_eq_getElem?_getD, List.getElem?_eq_getElem hi]; exact h _ (List.getElem_mem _)
theorem u8nat {x : Int} (h : 0 ≤ x ∧ x ≤ 255) (y : Int) (h' : 0 ≤ y ∧ y ≤ 255) (e : UInt8.ofNat x.toNat = UInt8.ofNat y.toNat) : x = y := by
  have e1 := congrArg UInt8.toNat e
  simp only [UInt8.toNat_ofNat'] at e1
  omega
theorem map_inj8 : ∀ (a b : List Int), byt a → byt b → (a.map fun n => UInt8.ofNat n.toNat) = (b.map fun n => UInt8.ofNat n.toNat) → a = b
  | [], [], _, _, _ => rfl
  | [], _ :: _, _, _, h => by simp at h
  | _ :: _, [], _, _, h => by simp at h
  | x :: a, y :: b, ha, hb, h => by
    simp only [List.map_cons, List.cons.injEq] at h
    rw [u8nat (ha x List.mem_cons_self) y (hb y List.mem_cons_self) h.1, map_inj8 a b (fun z hz => ha z (List.mem_cons_of_mem _ hz)) (fun z hz => hb z (List.mem_cons_of_mem _ hz)) h.2]
theorem toList_loop (bs : ByteArray) : ∀ (d i : Nat) (r : List UInt8), i + d = bs.size → ByteArray.toList.loop bs i r = r.reverse ++ bs.data.toList.drop i := by
  intro d
  have hs : bs.data.toList.length = bs.size := by rw [Array.length_toList]; rfl
  induction d with
  | zero =>
    intro i r h
    unfold ByteArray.toList.loop
    rw [if_neg (by omega), List.drop_eq_nil_of_le (by omega)]; simp
  | succ d ih =>
    intro i r h
    unfold ByteArray.toList.loop
    have hi : i < bs.data.toList.length := by omega
    rw [if_pos (by omega), ih (i + 1) _ (by omega), List.drop_eq_getElem_cons hi]
    have e : bs.get! i = bs.data.toList[i] := by
      rw [Array.getElem_toList]
      show bs.data[i]! = _
      exact getElem!_pos bs.data i (by simpa using hi)
    rw [e]; simp
theorem sN_list (a : List Int) : (strOfNums a).toList = a.map fun n => UInt8.ofNat n.toNat := by
  unfold ByteArray.toList
  rw [toList_loop _ (strOfNums a).size 0 [] (by omega)]; simp [strOfNums]
theorem sN_eq (a b : List Int) (ha : byt a) (hb : byt b) : ((strOfNums a).toList = (strOfNums b).toList) ↔ a = b := by
  rw [sN_list, sN_list]
  exact ⟨map_inj8 a b ha hb, fun h => by rw [h]⟩
theorem wr63 (n : Int) (h0 : 0 ≤ n) (h1 : n < 2 ^ 63) : IntKind.i64.wrap n = n := by rw [IntKind.wrap_i64]; omega
theorem and1 (x : Int) (h0 : 0 ≤ x) (h1 : x < 65536) : Go.bits .and .i64 x 1 = x % 2 := bits_mask .i64 63 (by decide) wr63 1 (by decide) x h0 (by omega)
theorem and3 (x : Int) (h0 : 0 ≤ x) (h1 : x < 65536) : Go.bits .and .i64 x 3 = x % 4 := bits_mask .i64 63 (by decide) wr63 2 (by decide) x h0 (by omega)
theorem and16 (x : Int) (h0 : 0 ≤ x) (h1 : x < 1000000) : Go.bits .and .i64 x 65535 = x % 65536 := bits_mask .i64 63 (by decide) wr63 16 (by decide) x h0 (by omega)
theorem andb (x : Int) (h0 : 0 ≤ x) (h1 : x < 256) : Go.bits .and .u8 x 1 = x % 2 := bits_mask .u8 8 (by decide) wraps_u8 1 (by decide) x h0 (by omega)
theorem or8 (x y : Int) (h0 : 0 ≤ x) (h1 : x < 256) (h2 : 0 ≤ y) (h3 : y < 256) : Go.bits .or .i64 (x * 256) y = x * 256 + y := bits_join .i64 63 (by decide) wr63 8 (x * 256) y (by omega) (by omega) (by omega) h2 (by omega) (by omega)
theorem and2 (x : Int) (h0 : 0 ≤ x) (h1 : x < 256) : decide (Go.bits .and .i64 x 2 > 0) = (x / 2 % 2 == 1) := by
  obtain ⟨n, rfl⟩ := Int.eq_ofNat_of_zero_le h0
  have e : Go.bits .and .i64 ((n : Nat) : Int) ((2 : Nat) : Int) = ((n &&& 2 : Nat) : Int) := (bits_nat .i64 63 (by decide) wr63 n 2 (by omega) (by omega)).1
  have e' : Go.bits .and .i64 ((n : Nat) : Int) 2 = ((n &&& 2 : Nat) : Int) := e
  rw [e']
  have h : ∀ m : Fin 256, decide (((m.1 &&& 2 : Nat) : Int) > 0) = (((m.1 : Nat) : Int) / 2 % 2 == 1) := by decide +kernel
  exact h ⟨n, by omega⟩
theorem xor16 (x y : Int) (h0 : 0 ≤ x) (h1 : x < 65536) (h2 : 0 ≤ y) (h3 : y < 65536) : 0 ≤ Go.bits .xor .i64 x y ∧ Go.bits .xor .i64 x y < 65536 := by
  obtain ⟨a, rfl⟩ := Int.eq_ofNat_of_zero_le h0
  obtain ⟨b, rfl⟩ := Int.eq_ofNat_of_zero_le h2
  have ha : a < 2 ^ 16 := by omega
  have hb : b < 2 ^ 16 := by omega
  have e : Go.bits .xor .i64 (a : Int) (b : Int) = ((a ^^^ b : Nat) : Int) := by
    have ha' : a % 2 ^ IntKind.i64.bits = a := Nat.mod_eq_of_lt (by show a < 2 ^ 64; omega)
    have hb' : b % 2 ^ IntKind.i64.bits = b := Nat.mod_eq_of_lt (by show b < 2 ^ 64; omega)
    have hx : a ^^^ b < 2 ^ 16 := Nat.xor_lt_two_pow ha hb
    simp only [Go.bits, BitVec.ofInt_natCast, BitVec.toNat_xor, BitVec.toNat_ofNat, ha', hb']
    exact wr63 _ (by omega) (by omega)
  have := Nat.xor_lt_two_pow ha hb
  rw [e]; omega
theorem shrn {k : IntKind} (x : Int) (j : Nat) (h : j ≤ k.bits) : shr k x (j : Int) = x / 2 ^ j := by unfold shr; rw [Int.toNat_natCast, Nat.min_eq_left h]
theorem div2 (x : Int) (j : Nat) (h : 0 ≤ x ∧ x ≤ 255) : 0 ≤ x / 2 ^ j ∧ x / 2 ^ j ≤ 255 := by
  have hp : (0 : Int) < 2 ^ j := Int.pow_pos (by omega)
  exact ⟨Int.ediv_nonneg h.1 (by omega), Int.le_trans (Int.ediv_le_self _ h.1) h.2⟩
theorem rd_append_right (P Q : List Int) (i : Int) (h : i = (P.length : Int)) (x : Int) (R : List Int) (hQ : Q = x :: R) : rd (P ++ Q) i = x := by
  subst hQ; unfold rd; rw [h, Int.toNat_natCast, List.getD_eq_getElem?_getD, List.getElem?_append_right (Nat.le_refl _)]; simp
theorem rd_get (l : List Int) (i : Int) (h0 : 0 ≤ i) (h1 : i < (l.length : Int)) : rd l i = l[i.toNat]'(by omega) := by
  unfold rd; rw [List.getD_eq_getElem?_getD, List.getElem?_eq_getElem (by omega)]; rfl
/-- One bit more into the checksum. -/
def cst (s b : Int) : Int := if s / 32768 = b then s * 2 % 65536 else Go.bits .xor .i64 (s * 2 % 65536) 4129
/-- The j lowest bits of a byte, from the highest. -/
def cby (v : Int) : Nat → Int → Int
  | 0, s => s
  | j + 1, s => cby v j (cst s (v / 2 ^ j % 2))
def crcL : Int → List Int → Int
  | s, [] => s
  | s, v :: vs => crcL (cby v 8 s) vs
theorem cst_range (s b : Int) (h : 0 ≤ s ∧ s < 65536) : 0 ≤ cst s b ∧ cst s b < 65536 := by
  unfold cst
  split
  · omega
  · exact xor16 _ 4129 (by omega) (by omega) (by omega) (by omega)
theorem cby_range (v : Int) : ∀ (j : Nat) (s : Int), 0 ≤ s ∧ s < 65536 → 0 ≤ cby v j s ∧ cby v j s < 65536
  | 0, _, h => h
  | j + 1, s, h => cby_range v j _ (cst_range s _ h)
theorem crcL_range : ∀ (l : List Int) (s : Int), 0 ≤ s ∧ s < 65536 → 0 ≤ crcL s l ∧ crcL s l < 65536
  | [], _, h => h
  | v :: vs, s, h => crcL_range vs _ (cby_range v 8 s h)
theorem l2Crc_l1 (l : List Int) (v : Int) (i : Int) (hv : 0 ≤ v ∧ v ≤ 255) (h0 : 0 ≤ i) (h1 : i < l.length) (hr : rd l i = v) : ∀ (j : Nat) (s : Int) (K : Nat), j ≤ 8 → 0 ≤ s ∧ s < 65536 → spec_l2Crc.l1 (K + j + 1) l s i ((j : Int) - 1) = spec_l2Crc.l0 K l (cby v j s) (wrap64 (i + 1)) := by
  intro j
  induction j with
  | zero => intro s K _ _; rw [spec_l2Crc.l1, if_neg (by omega)]; rfl
  | succ j ih =>
    intro s K hj hs
    have hd := div2 v j hv
    have eu : IntKind.u64.wrap (((j + 1 : Nat) : Int) - 1) = (j : Int) := by rw [show (((j + 1 : Nat) : Int) - 1) = (j : Int) by omega, IntKind.wrap_u64]; omega
    rw [show K + (j + 1) + 1 = (K + j + 1) + 1 by omega, spec_l2Crc.l1, if_pos (by omega), if_pos h0, if_pos h1, eu, if_pos (by omega), hr, w64 (n := v) (by omega) (by omega), shrn v j (by simp [IntKind.bits]; omega), and1 _ hd.1 (by omega), and1 (s / 32768) (by omega) (by omega), w64 (n := s * 2) (by omega) (by omega), Int.tmod_eq_emod_of_nonneg (by omega), w64 (n := ((j + 1 : Nat) : Int) - 1 - 1) (by omega) (by omega)]
    have e2 : ((j + 1 : Nat) : Int) - 1 - 1 = (j : Int) - 1 := by omega
    rw [e2]
    by_cases c : s / 32768 = v / 2 ^ j % 2
    · rw [if_pos (by omega), ih _ K (by omega) (by omega)]
      simp only [cby, cst, if_pos c]
    · rw [if_neg (by omega), ih _ K (by omega) (xor16 _ 4129 (by omega) (by omega) (by omega) (by omega))]
      simp only [cby, cst, if_neg c]
theorem l2Crc_l0 : ∀ (rest pre : List Int) (s : Int) (i : Int) (K : Nat), (pre.length : Int) = i → byt rest → 0 ≤ s ∧ s < 65536 → pre.length + rest.length ≤ 1000000 → spec_l2Crc.l0 (K + 10 * rest.length + 1) (pre ++ rest) s i = some (crcL s rest) := by
  intro rest
  induction rest with
  | nil =>
    intro pre s i K hi _ _ _
    rw [spec_l2Crc.l0, if_neg (by simp; omega)]; rfl
  | cons v rest ih =>
    intro pre s i K hi hb hs hl
    simp only [List.length_cons] at hl
    have hv := hb v List.mem_cons_self
    rw [show K + 10 * (v :: rest).length + 1 = ((K + 10 * rest.length + 1) + 8 + 1) + 1 by simp only [List.length_cons]; omega, spec_l2Crc.l0, if_pos (by simp; omega)]
    have e7 : (7 : Int) = ((8 : Nat) : Int) - 1 := by omega
    rw [e7, l2Crc_l1 (pre ++ v :: rest) v i hv (by omega) (by simp; omega) (rd_append_right pre (v :: rest) i hi.symm v rest rfl) 8 s _ (by omega) hs, w64 (n := i + 1) (by omega) (by omega)]
    have e : pre ++ v :: rest = (pre ++ [v]) ++ rest := by simp
    rw [e, ih (pre ++ [v]) (cby v 8 s) (i + 1) K (by simp; omega) (fun x hx => hb x (List.mem_cons_of_mem _ hx)) (cby_range v 8 s hs) (by simp; omega)]
    rfl
theorem l2Crc_eq (l : List Int) (hb : byt l) (hl : l.length ≤ 1000) (K : Nat) (hK : 10100 ≤ K) : spec_l2Crc.f K l = some (crcL 65535 l) := by
  obtain ⟨q, rfl⟩ : ∃ q, K = q + 10 * l.length + 1 := ⟨K - (10 * l.length + 1), by omega⟩
  have := l2Crc_l0 l [] 65535 0 q rfl hb (by omega) (by simp; omega)
  rwa [List.nil_append] at this
theorem crcOf_l1 (l : List Int) (v n i : Int) (hv : 0 ≤ v ∧ v ≤ 255) : ∀ (j : Nat) (s : Int) (K : Nat), j ≤ 8 → 0 ≤ s ∧ s < 65536 → impl_crcOf.l1 (K + j + 1) s v ((j : Int) - 1) l n i = impl_crcOf.l0 K (cby v j s) l n (wrap64 (i + 1)) := by
  intro j
  induction j with
  | zero => intro s K _ _; rw [impl_crcOf.l1, if_neg (by omega)]; rfl
  | succ j ih =>
    intro s K hj hs
    have hd := div2 v j hv
    have e2 : ((j + 1 : Nat) : Int) - 1 = (j : Int) := by omega
    rw [show K + (j + 1) + 1 = (K + j + 1) + 1 by omega, impl_crcOf.l1, e2, if_pos (by omega), if_pos (by omega), shrn v j (by simp [IntKind.bits]; omega), andb _ hd.1 (by omega), w64 (n := v / 2 ^ j % 2) (by omega) (by omega), w64 (n := s * 2) (by omega) (by omega), and16 (s * 2) (by omega) (by omega), w64 (n := (j : Int) - 1) (by omega) (by omega)]
    by_cases c : s / 32768 = v / 2 ^ j % 2
    · rw [if_pos c, ih _ K (by omega) (by omega)]
      simp only [cby, cst, if_pos c]
    · rw [if_neg c, ih _ K (by omega) (xor16 _ 4129 (by omega) (by omega) (by omega) (by omega))]
      simp only [cby, cst, if_neg c]
theorem crcOf_l0 : ∀ (rest pre : List Int) (s : Int) (i : Int) (K : Nat), (pre.length : Int) = i → byt rest → 0 ≤ s ∧ s < 65536 → pre.length + rest.length ≤ 1000000 → impl_crcOf.l0 (K + 10 * rest.length + 1) s (pre ++ rest) ((pre ++ rest).length : Int) i = some (crcL s rest) := by
  intro rest
  induction rest with
  | nil =>
    intro pre s i K hi _ _ _
    rw [impl_crcOf.l0, if_neg (by simp; omega)]; rfl
  | cons v rest ih =>
    intro pre s i K hi hb hs hl
    simp only [List.length_cons] at hl
    have hv := hb v List.mem_cons_self
    rw [show K + 10 * (v :: rest).length + 1 = ((K + 10 * rest.length + 1) + 8 + 1) + 1 by simp only [List.length_cons]; omega, impl_crcOf.l0, if_pos (by simp; omega), if_pos (by omega), if_pos (by simp; omega), rd_append_right pre (v :: rest) i hi.symm v rest rfl]
    have e7 : (7 : Int) = ((8 : Nat) : Int) - 1 := by omega
    rw [e7, crcOf_l1 (pre ++ v :: rest) v _ i hv 8 s _ (by omega) hs, w64 (n := i + 1) (by omega) (by omega)]
    have e : pre ++ v :: rest = (pre ++ [v]) ++ rest := by simp
    rw [e, ih (pre ++ [v]) (cby v 8 s) (i + 1) K (by simp; omega) (fun x hx => hb x (List.mem_cons_of_mem _ hx)) (cby_range v 8 s hs) (by simp; omega)]
    rfl
theorem crcOf_eq (l : List Int) (hb : byt l) (hl : l.length ≤ 1000) (K : Nat) (hK : 10100 ≤ K) : impl_crcOf.f K l = some (crcL 65535 l) := by
  obtain ⟨q, rfl⟩ : ∃ q, K = q + 10 * l.length + 1 := ⟨K - (10 * l.length + 1), by omega⟩
  have := crcOf_l0 l [] 65535 0 q rfl hb (by omega) (by simp; omega)
  rwa [List.nil_append] at this
theorem inRange_eq (a b c : Int) : impl_inRange.f a b c = some (decide (b ≤ a ∧ a ≤ c)) := by
  unfold impl_inRange.f
  by_cases h : b ≤ a
  · rw [if_pos h]; simp [h]
  · rw [if_neg h]; simp [h]
/-- What OpenBytes answers. -/
def opR (l : List Int) : Int × List Int :=
  if ¬ (2 ≤ l.length ∧ l.length ≤ 160) then (2, [])
  else if l.drop (l.length - 2) = [crcL 65535 (l.take (l.length - 2)) / 256, crcL 65535 (l.take (l.length - 2)) % 256] then (0, l.take (l.length - 2)) else (10, [])
theorem specOpen_j0 (l : List Int) (hb : byt l) (h : 2 ≤ l.length ∧ l.length ≤ 160) (K : Nat) (hK : 20000 ≤ K) : spec_OpenBytes.j0 K l (l.length : Int) false = some (opR l) := by
  obtain ⟨K, rfl⟩ : ∃ z, K = z + 1 := ⟨K - 1, by omega⟩
  have hbt : byt (l.take (l.length - 2)) := fun x hx => hb x (List.mem_of_mem_take hx)
  have hbd : byt (l.drop (l.length - 2)) := fun x hx => hb x (List.mem_of_mem_drop hx)
  have hlt : (l.take (l.length - 2)).length ≤ 160 := by rw [List.length_take]; omega
  have en : (wrap64 ((l.length : Int) - 2)).toNat = l.length - 2 := by rw [w64 (by omega) (by omega)]; omega
  rw [spec_OpenBytes.j0, if_neg (by simp), en, w64 (n := (l.length : Int) - 2) (by omega) (by omega), if_pos (by omega), if_pos (by omega)]
  unfold spec_l2Seal.f spec_l1Copy.f opR
  rw [if_neg (show ¬ ¬ (2 ≤ l.length ∧ l.length ≤ 160) from fun q => q h)]
  obtain ⟨t, ht⟩ : ∃ t, l.take (l.length - 2) = t := ⟨_, rfl⟩
  obtain ⟨d, hd⟩ : ∃ d, l.drop (l.length - 2) = d := ⟨_, rfl⟩
  have hl : l = t ++ d := by rw [← ht, ← hd, List.take_append_drop]
  rw [ht] at hbt hlt
  rw [hd] at hbd
  rw [ht, hd, l2Crc_eq t hbt (by omega) K (by omega)]
  have hc := crcL_range t 65535 (by omega)
  generalize crcL 65535 t = c at hc
  simp only [Option.bind_some, List.nil_append, List.length_nil, Nat.zero_add]
  rw [if_pos (by omega)]; simp only [Option.bind_some]
  rw [if_pos (by simp; omega), Int.tdiv_eq_ediv_of_nonneg (by omega), Int.tmod_eq_emod_of_nonneg (by omega), w64 (n := c / 256) (by omega) (by omega)]
  simp only [Option.bind_some]
  have e1 : c / 256 % 256 = c / 256 := by omega
  have e2 : c % 256 % 256 = c % 256 := by omega
  rw [e1, e2]
  have hbs : byt (t ++ [c / 256, c % 256]) := by
    intro x hx
    rcases List.mem_append.1 hx with hx | hx
    · exact hbt x hx
    · simp only [List.mem_cons, List.not_mem_nil, or_false] at hx
      rcases hx with rfl | rfl <;> omega
  have hiff : ((strOfNums (t ++ [c / 256, c % 256])).toList = (strOfNums l).toList) ↔ d = [c / 256, c % 256] := by
    rw [sN_eq _ _ hbs hb, hl]
    exact ⟨fun q => (List.append_cancel_left q).symm, fun q => by rw [q]⟩
  by_cases q : d = [c / 256, c % 256]
  · rw [if_pos (hiff.2 q), if_pos q]
  · rw [if_neg (fun z => q (hiff.1 z)), if_neg q]
theorem specOpenBytes_eq (l : List Int) (hb : byt l) (hl : l.length ≤ 1048576) (K : Nat) (hK : 20000 ≤ K) : spec_OpenBytes.f K l = some (opR l) := by
  have hbad : ¬ (2 ≤ l.length ∧ l.length ≤ 160) → spec_OpenBytes.j0 K l (l.length : Int) true = some (opR l) := by
    intro h
    obtain ⟨K, rfl⟩ : ∃ z, K = z + 1 := ⟨K - 1, by omega⟩
    rw [spec_OpenBytes.j0, if_pos rfl]; unfold opR; rw [if_pos h]
  unfold spec_OpenBytes.f
  by_cases h1 : (l.length : Int) < 2
  · rw [if_pos h1]; exact hbad (by omega)
  · rw [if_neg h1]
    by_cases h2 : (l.length : Int) > 160
    · rw [decide_eq_true h2]; exact hbad (by omega)
    · rw [decide_eq_false h2]; exact specOpen_j0 l hb (by omega) K hK
theorem OpenBytes_eq (l : List Int) (hb : byt l) (hl : l.length ≤ 1048576) (K : Nat) (hK : 20000 ≤ K) : impl_OpenBytes.f K l = some (opR l) := by
  unfold impl_OpenBytes.f opR
  rw [inRange_eq]; simp only [Option.bind_some, decide_eq_true_eq]
  by_cases h : 2 ≤ l.length ∧ l.length ≤ 160
  · rw [if_pos (show (2 : Int) ≤ l.length ∧ (l.length : Int) ≤ 160 by omega), if_neg (show ¬ ¬ (2 ≤ l.length ∧ l.length ≤ 160) from fun q => q h)]
    have hbt : byt (l.take (l.length - 2)) := fun x hx => hb x (List.mem_of_mem_take hx)
    have hbd : byt (l.drop (l.length - 2)) := fun x hx => hb x (List.mem_of_mem_drop hx)
    have hlt : (l.take (l.length - 2)).length ≤ 160 := by rw [List.length_take]; omega
    have en : (wrap64 ((l.length : Int) - 2)).toNat = l.length - 2 := by rw [w64 (by omega) (by omega)]; omega
    rw [en, w64 (n := (l.length : Int) - 2) (by omega) (by omega), if_pos (by omega), if_pos (by omega)]
    generalize l.take (l.length - 2) = t at hbt hlt
    generalize l.drop (l.length - 2) = d at hbd
    rw [crcOf_eq t hbt (by omega) K (by omega)]
    have hc := crcL_range t 65535 (by omega)
    generalize crcL 65535 t = c at hc
    unfold impl_twoBytes.f bytes_Equal.f slices_Clone_byte_byte.f
    simp only [Option.bind_some, beq_iff_eq]
    have e1 : c / 256 % 256 = c / 256 := by omega
    rw [e1, if_pos (show t.length * 1 ≤ 140737488355328 by omega)]
    have hbs : byt [c / 256, c % 256] := by
      intro x hx
      simp only [List.mem_cons, List.not_mem_nil, or_false] at hx
      rcases hx with rfl | rfl <;> omega
    have hiff := sN_eq d _ hbd hbs
    by_cases q : d = [c / 256, c % 256]
    · rw [if_pos (hiff.2 q), if_pos q]; rfl
    · rw [if_neg (fun z => q (hiff.1 z)), if_neg q]
  · rw [if_neg (by omega), if_pos h]
theorem opR_byt (l : List Int) (hb : byt l) : byt (opR l).2 ∧ (opR l).2.length ≤ 160 := by
  unfold opR
  split
  · exact ⟨fun x hx => by simp at hx, by simp⟩
  · split
    · exact ⟨fun x hx => hb x (List.mem_of_mem_take hx), by simp only []; rw [List.length_take]; omega⟩
    · exact ⟨fun x hx => by simp at hx, by simp⟩
theorem isNumber_eq (a : Int) : impl_isNumber.f a = some (decide (0 ≤ a ∧ a ≤ 9999)) := by unfold impl_isNumber.f; rw [inRange_eq]; rfl
theorem isSpread_eq (a : Int) : impl_isSpread.f a = some (decide (0 ≤ a ∧ a ≤ 2)) := by unfold impl_isSpread.f; rw [inRange_eq]; rfl
theorem shl4 (x : Int) (h : 0 ≤ x ∧ x ≤ 3) : shl .i64 4 x = if x = 0 then 4 else if x = 1 then 8 else if x = 2 then 16 else 32 := by
  have : x = 0 ∨ x = 1 ∨ x = 2 ∨ x = 3 := by omega
  rcases this with rfl | rfl | rfl | rfl <;> decide
/-- What ReadHead answers. -/
def rhR (l : List Int) : Int × Int × Int × Int × Int × Int × Bool :=
  if (opR l).1 = 0 then
    (if (opR l).2.length < 3 then (5, 0, 0, 0, 0, 0, false)
     else if rd (opR l).2 0 * 256 + rd (opR l).2 1 ≤ 9999 ∧ rd (opR l).2 2 / 4 % 4 ≤ 2 ∧ rd (opR l).2 2 / 64 < 3 then (0, rd (opR l).2 0 * 256 + rd (opR l).2 1, if rd (opR l).2 2 / 64 = 0 then 4 else if rd (opR l).2 2 / 64 = 1 then 8 else 16, rd (opR l).2 2 % 2, rd (opR l).2 2 / 4 % 4, rd (opR l).2 2 / 16 % 4, (rd (opR l).2 2 / 2 % 2 == 1))
     else (5, 0, 0, 0, 0, 0, false))
  else ((opR l).1, 0, 0, 0, 0, 0, false)
theorem ReadHead_eq (l : List Int) (hb : byt l) (hl : l.length ≤ 1048576) (K : Nat) (hK : 20000 ≤ K) : impl_ReadHead.f K l = some (rhR l) := by
  unfold impl_ReadHead.f rhR
  rw [OpenBytes_eq l hb hl K hK]; simp only [Option.bind_some]
  have hB := opR_byt l hb
  generalize opR l = R at hB
  obtain ⟨c, b⟩ := R
  obtain ⟨hb2, hbl⟩ := hB
  simp only [] at hb2 hbl ⊢
  by_cases hc : c = 0
  · rw [if_pos hc, if_pos hc]
    unfold impl_readHead.f
    by_cases h3 : b.length < 3
    · rw [if_pos (by omega), if_pos h3]; simp
    · have b0 := byt_rd hb2 0 (by omega)
      have b1 : 0 ≤ rd b 1 ∧ rd b 1 ≤ 255 := byt_rd hb2 1 (by omega)
      have b2 : 0 ≤ rd b 2 ∧ rd b 2 ≤ 255 := byt_rd hb2 2 (by omega)
      generalize rd b 0 = v0 at b0
      generalize rd b 1 = v1 at b1
      generalize rd b 2 = v2 at b2
      rw [if_neg (by omega), if_neg h3, if_pos (by omega), if_pos (by omega), if_pos (by omega), w64 (n := v0) (by omega) (by omega), w64 (n := v1) (by omega) (by omega), w64 (n := v2) (by omega) (by omega), w64 (n := v0 * 256) (by omega) (by omega), if_pos (by omega), or8 v0 v1 (by omega) (by omega) (by omega) (by omega), and3 (v2 / 4) (by omega) (by omega), and3 (v2 / 16) (by omega) (by omega), and1 v2 (by omega) (by omega), and2 v2 (by omega) (by omega), shl4 (v2 / 64) (by omega)]
      simp only [isNumber_eq, isSpread_eq, Option.bind_some, decide_eq_true_eq]
      by_cases q1 : v0 * 256 + v1 ≤ 9999
      · rw [if_pos (show 0 ≤ v0 * 256 + v1 ∧ v0 * 256 + v1 ≤ 9999 from ⟨by omega, q1⟩)]
        by_cases q2 : v2 / 4 % 4 ≤ 2
        · rw [if_pos (show 0 ≤ v2 / 4 % 4 ∧ v2 / 4 % 4 ≤ 2 from ⟨by omega, q2⟩)]
          simp only [Option.bind_some, decide_eq_true_eq]
          by_cases q3 : v2 / 64 < 3
          · rw [if_pos (show v0 * 256 + v1 ≤ 9999 ∧ v2 / 4 % 4 ≤ 2 ∧ v2 / 64 < 3 from ⟨q1, q2, q3⟩), if_pos q3]
            by_cases z0 : v2 / 64 = 0
            · simp [z0]
            · by_cases z1 : v2 / 64 = 1
              · simp [z1]
              · have z2 : v2 / 64 = 2 := by omega
                simp [z2]
          · rw [if_neg (show ¬ (v0 * 256 + v1 ≤ 9999 ∧ v2 / 4 % 4 ≤ 2 ∧ v2 / 64 < 3) from fun h => q3 h.2.2), if_neg q3]
        · rw [if_neg (show ¬ (0 ≤ v2 / 4 % 4 ∧ v2 / 4 % 4 ≤ 2) from fun h => q2 h.2), if_neg (show ¬ (v0 * 256 + v1 ≤ 9999 ∧ v2 / 4 % 4 ≤ 2 ∧ v2 / 64 < 3) from fun h => q2 h.2.1)]; simp
      · rw [if_neg (show ¬ (0 ≤ v0 * 256 + v1 ∧ v0 * 256 + v1 ≤ 9999) from fun h => q1 h.2), if_neg (show ¬ (v0 * 256 + v1 ≤ 9999 ∧ v2 / 4 % 4 ≤ 2 ∧ v2 / 64 < 3) from fun h => q1 h.1)]; simp
  · rw [if_neg hc, if_neg hc]
theorem specReadHead_eq (l : List Int) (hb : byt l) (hl : l.length ≤ 1048576) (K : Nat) (hK : 20000 ≤ K) : spec_ReadHead.f K l = some (rhR l) := by
  unfold spec_ReadHead.f rhR
  rw [specOpenBytes_eq l hb hl K hK]; simp only [Option.bind_some]
  have hB := opR_byt l hb
  generalize opR l = R at hB
  obtain ⟨c, b⟩ := R
  obtain ⟨hb2, hbl⟩ := hB
  simp only [] at hb2 hbl ⊢
  by_cases hc : c = 0
  · rw [if_pos hc, if_pos hc]
    by_cases h3 : b.length < 3
    · rw [if_pos (by omega), if_pos h3]
    · have b0 := byt_rd hb2 0 (by omega)
      have b1 : 0 ≤ rd b 1 ∧ rd b 1 ≤ 255 := byt_rd hb2 1 (by omega)
      have b2 : 0 ≤ rd b 2 ∧ rd b 2 ≤ 255 := byt_rd hb2 2 (by omega)
      generalize rd b 0 = v0 at b0
      generalize rd b 1 = v1 at b1
      generalize rd b 2 = v2 at b2
      rw [if_neg (by omega), if_neg h3, if_pos (by omega), if_pos (by omega), if_pos (by omega), w64 (n := v0) (by omega) (by omega), w64 (n := v1) (by omega) (by omega), w64 (n := v2) (by omega) (by omega), w64 (n := v0 * 256) (by omega) (by omega), w64 (n := v0 * 256 + v1) (by omega) (by omega), Int.tdiv_eq_ediv_of_nonneg (show 0 ≤ v2 by omega), Int.tdiv_eq_ediv_of_nonneg (show 0 ≤ v2 by omega), Int.tdiv_eq_ediv_of_nonneg (show 0 ≤ v2 by omega), Int.tdiv_eq_ediv_of_nonneg (show 0 ≤ v2 by omega),
        w64 (n := v2 / 64) (by omega) (by omega), w64 (n := v2 / 4) (by omega) (by omega), w64 (n := v2 / 16) (by omega) (by omega), w64 (n := v2 / 2) (by omega) (by omega), Int.tmod_eq_emod_of_nonneg (show 0 ≤ v2 by omega), Int.tmod_eq_emod_of_nonneg (show 0 ≤ v2 / 4 by omega), Int.tmod_eq_emod_of_nonneg (show 0 ≤ v2 / 16 by omega), Int.tmod_eq_emod_of_nonneg (show 0 ≤ v2 / 2 by omega)]
      by_cases q1 : v0 * 256 + v1 ≤ 9999
      · by_cases q2 : v2 / 4 % 4 ≤ 2
        · have n1 : ¬ (v0 * 256 + v1 > 9999) := by omega
          have n2 : ¬ (v2 / 4 % 4 > 2) := by omega
          by_cases z0 : v2 / 64 = 0
          · simp [z0, n1, n2, q1, q2]
          · by_cases z1 : v2 / 64 = 1
            · simp [z1, n1, n2, q1, q2]
            · by_cases z2 : v2 / 64 = 2
              · simp [z2, n1, n2, q1, q2]
              · have z3 : v2 / 64 = 3 := by omega
                simp [z3, n1, n2]
        · have n2 : v2 / 4 % 4 > 2 := by omega
          simp [n2, q2]
      · have n1 : v0 * 256 + v1 > 9999 := by omega
        simp [n1, q1]
  · rw [if_neg hc, if_neg hc]
theorem toByteS_l0 (l : List Int) (hl : l.length ≤ 1000000000000) : ∀ (rest pre : List Int) (i : Int) (k : Nat) (z : List Int), l = pre ++ rest → (pre.length : Int) = i → rest.length < k → z.length = rest.length →
    laws_toByteS.l0 k l (pre ++ z) i = some l := by
  intro rest
  induction rest with
  | nil =>
    intro pre i k z hl2 hi hk hz
    obtain ⟨k, rfl⟩ : ∃ m, k = m + 1 := ⟨k - 1, by omega⟩
    have : z = [] := List.eq_nil_of_length_eq_zero hz
    subst this
    simp only [laws_toByteS.l0]
    rw [if_neg (by rw [hl2]; simp; omega), hl2]
  | cons x rest ih =>
    intro pre i k z hl2 hi hk hz
    obtain ⟨k, rfl⟩ : ∃ m, k = m + 1 := ⟨k - 1, by omega⟩
    obtain ⟨y, z, rfl⟩ : ∃ y z', z = y :: z' := by cases z with | nil => simp at hz | cons y z => exact ⟨y, z, rfl⟩
    simp only [List.length_cons] at hk hz
    have hlen : l.length = pre.length + (rest.length + 1) := by rw [hl2]; simp
    simp only [laws_toByteS.l0]
    have hr : rd l i = x := by rw [hl2]; exact rd_append_right pre (x :: rest) i hi.symm x rest rfl
    rw [if_pos (by omega), if_pos (by omega), if_pos (by simp; omega), hr, w64 (n := i + 1) (by omega) (by omega)]
    have e : (pre ++ y :: z).set i.toNat x = (pre ++ [x]) ++ z := by
      have hn : i.toNat = pre.length := by omega
      rw [hn, List.set_append_right _ _ (Nat.le_refl _)]; simp
    rw [e]
    exact ih (pre ++ [x]) (i + 1) k z (by rw [hl2]; simp) (by simp; omega) (by omega) (by omega)
theorem toByteS_eq (l : List Int) (hl : l.length ≤ 1000000000) (k : Nat) (hk : l.length < k) : laws_toByteS.f k l = some l := by
  unfold laws_toByteS.f
  rw [if_pos (by omega), if_pos (by omega)]
  have := toByteS_l0 l (by omega) l [] 0 k (List.replicate ((l.length : Int)).toNat 0) rfl rfl hk (by simp)
  simpa using this
theorem eqByteS_l0 (l : List Int) (hl : l.length ≤ 1000000000000) : ∀ (d k : Nat) (i : Int), (l.length : Int) - i = d → 0 ≤ i → d < k → laws_eqByteS.l0 k l l i = some true := by
  intro d
  induction d with
  | zero =>
    intro k i hd h0 hk
    obtain ⟨k, rfl⟩ : ∃ m, k = m + 1 := ⟨k - 1, by omega⟩
    simp only [laws_eqByteS.l0]; rw [if_neg (by omega)]
  | succ d ih =>
    intro k i hd h0 hk
    obtain ⟨k, rfl⟩ : ∃ m, k = m + 1 := ⟨k - 1, by omega⟩
    simp only [laws_eqByteS.l0]
    rw [if_pos (by omega), if_pos h0, if_pos (by omega), if_pos True.intro, w64 (by omega) (by omega)]
    exact ih k (i + 1) (by omega) (by omega) (by omega)
theorem eqByteS_self (l : List Int) (hl : l.length ≤ 1000000000000) (k : Nat) (hk : l.length < k) : laws_eqByteS.f k l l = some true := by
  unfold laws_eqByteS.f; rw [if_pos rfl]; exact eqByteS_l0 l hl l.length k 0 (by omega) (by omega) hk
theorem FnExactReadHead : laws_FnExactReadHead.Pure := by
  intro l _ _ hw
  have hb : byt l := fun x hx => wfu8 (hw x hx)
  refine ⟨3000000, ?_⟩
  unfold laws_FnExactReadHead.f
  by_cases hbig : (l.length : Int) > 1048576
  · rw [if_pos hbig]
  rw [if_neg hbig, toByteS_eq l (by omega) 3000000 (by omega)]; simp only [Option.bind_some]
  rw [specReadHead_eq l hb (by omega) 3000000 (by omega), ReadHead_eq l hb (by omega) 3000000 (by omega)]; simp only [Option.bind_some]
  unfold laws_eqHeadResult.f laws_eqHead.f
  simp only [if_true, bne_self_eq_false, Bool.false_eq_true, if_false, Option.bind_some]
  rw [eqByteS_self l (by omega) 3000000 (by omega)]; rfl

end Go.Proofs.Ytoepnammegcjeaa.Pure
