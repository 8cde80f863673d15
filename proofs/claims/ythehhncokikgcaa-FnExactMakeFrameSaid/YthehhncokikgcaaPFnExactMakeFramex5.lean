-- Contracts of the functions that the law reaches, written by wip/xprint.py of this repo.
import Derived.Test.YthehhncokikgcaaPFnExactMakeFramex0
import Derived.Test.YthehhncokikgcaaPFnExactMakeFramex1
import Derived.Test.YthehhncokikgcaaPFnExactMakeFramex2
import Derived.Test.YthehhncokikgcaaPFnExactMakeFramex4
namespace Go.Proofs.Ythehhncokikgcaa.PFnExactMakeFrame
open Go.RowKit Go.Proofs.YthehhncokikgcaaW.PrintWords Go.Proofs.YthehhncokikgcaaW.PrintLast Go.Proofs.YthehhncokikgcaaW.PrintMore
attribute [local go_sem] max2_int min2_int max_two min_two max_three min_three max_four min_four   -- for this text's walks alone
set_option linter.unusedVariables false
set_option linter.unusedSimpArgs false

/-! ### spec_l12Search: function 174 -/
mutual
def spec_l12Search.l0 : Nat → List Int → Int → Int → List Int → Int → Int → Option (List Int)
 | 0, _, _, _, _, _, _ => none
 | k + 1, x0, x1, x5, x6, x7, x8 => if x8 < (x0.length : Int) then (if 0 ≤ x8 then ((spec_l1Abs.f (rd x0 x8)).bind fun t188 => (if x5 = 0 then (none) else (if x8 < (x6.length : Int) then ((some (x6.set (x8 : Int).toNat (wrap64 (Int.tdiv (wrap64 (x1 * t188)) x5)) : List Int)).bind fun y189 => (spec_l12Search.l0 k x0 x1 x5 y189 (wrap64 (x7 - (rd y189 x8))) (wrap64 (x8 + 1)))) else (none)))) else (none)) else (if 0 ≤ (x0.length : Int) then (if ((x0.length : Int) : Int).toNat ≤ 281474976710656 then (spec_l12Search.l1 k x0 x1 x5 x6 x7 (List.replicate ((x0.length : Int) : Int).toNat false)) else (none)) else (none))
def spec_l12Search.l1 : Nat → List Int → Int → Int → List Int → Int → List Bool → Option (List Int)
 | 0, _, _, _, _, _, _ => none
 | k + 1, x0, x1, x5, x6, x7, x9 => if x7 > 0 then (spec_l12Search.l2 k x0 x1 x5 x6 x7 x9 (-1) 0) else (spec_l12Search.l3 k x0 x6 0)
def spec_l12Search.l2 : Nat → List Int → Int → Int → List Int → Int → List Bool → Int → Int → Option (List Int)
 | 0, _, _, _, _, _, _, _, _ => none
 | k + 1, x0, x1, x5, x6, x7, x9, x10, x11 => if x11 < (x0.length : Int) then (if 0 ≤ x11 then (if x11 < (x9.length : Int) then (if rdOf false x9 x11 = true then (spec_l12Search.l2 k x0 x1 x5 x6 x7 x9 x10 (wrap64 (x11 + 1))) else (if x10 < 0 then (spec_l12Search.l2 k x0 x1 x5 x6 x7 x9 x11 (wrap64 (x11 + 1))) else ((spec_l1Abs.f (rd x0 x11)).bind fun t199 => (if x5 = 0 then (none) else (if 0 ≤ x10 then (if x10 < (x0.length : Int) then ((spec_l1Abs.f (rd x0 x10)).bind fun t201 => (if (Int.tmod (wrap64 (x1 * t199)) x5) > (Int.tmod (wrap64 (x1 * t201)) x5) then (spec_l12Search.l2 k x0 x1 x5 x6 x7 x9 x11 (wrap64 (x11 + 1))) else (spec_l12Search.l2 k x0 x1 x5 x6 x7 x9 x10 (wrap64 (x11 + 1))))) else (none)) else (none)))))) else (none)) else (none)) else (if x10 ≥ 0 then (if 0 ≤ x10 then (if x10 < (x9.length : Int) then (if x10 < (x6.length : Int) then (spec_l12Search.l1 k x0 x1 x5 (x6.set (x10 : Int).toNat (wrap64 ((rd x6 x10) + 1))) (wrap64 (x7 - 1)) (x9.set (x10 : Int).toNat true)) else (none)) else (none)) else (none)) else (spec_l12Search.l1 k x0 x1 x5 x6 (wrap64 (x7 - 1)) x9))
def spec_l12Search.l3 : Nat → List Int → List Int → Int → Option (List Int)
 | 0, _, _, _ => none
 | k + 1, x0, x6, x12 => if x12 < (x0.length : Int) then (if 0 ≤ x12 then (if (rd x0 x12) < 0 then (if x12 < (x6.length : Int) then (spec_l12Search.l3 k x0 (x6.set (x12 : Int).toNat (wrap64 (-(rd x6 x12)))) (wrap64 (x12 + 1))) else (none)) else (spec_l12Search.l3 k x0 x6 (wrap64 (x12 + 1)))) else (none)) else (some x6)
end
def spec_l12Search.f (k : Nat) (l0 : List Int) (a1 : Int) : Option (List Int) := (spec_l1Norm.f k l0).bind fun t182 => ((spec_l1Zeros.f (l0.length : Int)).bind fun t183 => (if t182 = 0 then (if 0 < (t183.length : Int) then (some (t183.set (0 : Int).toNat a1)) else (none)) else (spec_l12Search.l0 k l0 a1 t182 t183 a1 0)))
theorem spec_l12Search.mono_l : ∀ k, (∀ y0 y1 y2 y3 y4 y5, LeO (spec_l12Search.l0 k y0 y1 y2 y3 y4 y5) (spec_l12Search.l0 (k + 1) y0 y1 y2 y3 y4 y5)) ∧ (∀ y0 y1 y2 y3 y4 y5, LeO (spec_l12Search.l1 k y0 y1 y2 y3 y4 y5) (spec_l12Search.l1 (k + 1) y0 y1 y2 y3 y4 y5)) ∧ (∀ y0 y1 y2 y3 y4 y5 y6 y7, LeO (spec_l12Search.l2 k y0 y1 y2 y3 y4 y5 y6 y7) (spec_l12Search.l2 (k + 1) y0 y1 y2 y3 y4 y5 y6 y7)) ∧ (∀ y0 y1 y2, LeO (spec_l12Search.l3 k y0 y1 y2) (spec_l12Search.l3 (k + 1) y0 y1 y2))
 | 0 => ⟨fun _ _ _ _ _ _ r h => by simp [spec_l12Search.l0] at h, fun _ _ _ _ _ _ r h => by simp [spec_l12Search.l1] at h, fun _ _ _ _ _ _ _ _ r h => by simp [spec_l12Search.l2] at h, fun _ _ _ r h => by simp [spec_l12Search.l3] at h⟩
 | k + 1 => by
  obtain ⟨ih0, ih1, ih2, ih3⟩ := spec_l12Search.mono_l k
  refine ⟨?_, ?_, ?_, ?_⟩
  ·intro y0 y1 y2 y3 y4 y5
   unfold spec_l12Search.l0
   repeat' first
   | (with_reducible exact ih0 _ _ _ _ _ _)
   | (with_reducible exact ih1 _ _ _ _ _ _)
   | (with_reducible exact ih2 _ _ _ _ _ _ _ _)
   | (with_reducible exact ih3 _ _ _)
   | (with_reducible exact spec_l1Norm.mono _ _)
   | (with_reducible exact LeO.refl _)
   | (with_reducible exact LeO.none _)
   | (with_reducible refine LeO.ite ?_ ?_)
   | (with_reducible refine LeO.bind ?_ (fun _ => ?_))
   | exact ih0 _ _ _ _ _ _
   | exact ih1 _ _ _ _ _ _
   | exact ih2 _ _ _ _ _ _ _ _
   | exact ih3 _ _ _
   | exact spec_l1Norm.mono _ _
   | exact LeO.none _
   | refine LeO.ite ?_ ?_
   | refine LeO.bind ?_ (fun _ => ?_)
  ·intro y0 y1 y2 y3 y4 y5
   unfold spec_l12Search.l1
   repeat' first
   | (with_reducible exact ih0 _ _ _ _ _ _)
   | (with_reducible exact ih1 _ _ _ _ _ _)
   | (with_reducible exact ih2 _ _ _ _ _ _ _ _)
   | (with_reducible exact ih3 _ _ _)
   | (with_reducible exact spec_l1Norm.mono _ _)
   | (with_reducible exact LeO.refl _)
   | (with_reducible exact LeO.none _)
   | (with_reducible refine LeO.ite ?_ ?_)
   | (with_reducible refine LeO.bind ?_ (fun _ => ?_))
   | exact ih0 _ _ _ _ _ _
   | exact ih1 _ _ _ _ _ _
   | exact ih2 _ _ _ _ _ _ _ _
   | exact ih3 _ _ _
   | exact spec_l1Norm.mono _ _
   | exact LeO.none _
   | refine LeO.ite ?_ ?_
   | refine LeO.bind ?_ (fun _ => ?_)
  ·intro y0 y1 y2 y3 y4 y5 y6 y7
   unfold spec_l12Search.l2
   repeat' first
   | (with_reducible exact ih0 _ _ _ _ _ _)
   | (with_reducible exact ih1 _ _ _ _ _ _)
   | (with_reducible exact ih2 _ _ _ _ _ _ _ _)
   | (with_reducible exact ih3 _ _ _)
   | (with_reducible exact spec_l1Norm.mono _ _)
   | (with_reducible exact LeO.refl _)
   | (with_reducible exact LeO.none _)
   | (with_reducible refine LeO.ite ?_ ?_)
   | (with_reducible refine LeO.bind ?_ (fun _ => ?_))
   | exact ih0 _ _ _ _ _ _
   | exact ih1 _ _ _ _ _ _
   | exact ih2 _ _ _ _ _ _ _ _
   | exact ih3 _ _ _
   | exact spec_l1Norm.mono _ _
   | exact LeO.none _
   | refine LeO.ite ?_ ?_
   | refine LeO.bind ?_ (fun _ => ?_)
  ·intro y0 y1 y2
   unfold spec_l12Search.l3
   repeat' first
   | (with_reducible exact ih0 _ _ _ _ _ _)
   | (with_reducible exact ih1 _ _ _ _ _ _)
   | (with_reducible exact ih2 _ _ _ _ _ _ _ _)
   | (with_reducible exact ih3 _ _ _)
   | (with_reducible exact spec_l1Norm.mono _ _)
   | (with_reducible exact LeO.refl _)
   | (with_reducible exact LeO.none _)
   | (with_reducible refine LeO.ite ?_ ?_)
   | (with_reducible refine LeO.bind ?_ (fun _ => ?_))
   | exact ih0 _ _ _ _ _ _
   | exact ih1 _ _ _ _ _ _
   | exact ih2 _ _ _ _ _ _ _ _
   | exact ih3 _ _ _
   | exact spec_l1Norm.mono _ _
   | exact LeO.none _
   | refine LeO.ite ?_ ?_
   | refine LeO.bind ?_ (fun _ => ?_)
theorem spec_l12Search.mono : ∀ a0 a1 k, LeO (spec_l12Search.f k a0 a1) (spec_l12Search.f (k + 1) a0 a1) := by
 intro a0 a1 k
 obtain ⟨ih0, ih1, ih2, ih3⟩ := spec_l12Search.mono_l k
 unfold spec_l12Search.f
 repeat' first
   | (with_reducible exact ih0 _ _ _ _ _ _)
   | (with_reducible exact ih1 _ _ _ _ _ _)
   | (with_reducible exact ih2 _ _ _ _ _ _ _ _)
   | (with_reducible exact ih3 _ _ _)
   | (with_reducible exact spec_l1Norm.mono _ _)
   | (with_reducible exact LeO.refl _)
   | (with_reducible exact LeO.none _)
   | (with_reducible refine LeO.ite ?_ ?_)
   | (with_reducible refine LeO.bind ?_ (fun _ => ?_))
   | exact ih0 _ _ _ _ _ _
   | exact ih1 _ _ _ _ _ _
   | exact ih2 _ _ _ _ _ _ _ _
   | exact ih3 _ _ _
   | exact spec_l1Norm.mono _ _
   | exact LeO.none _
   | refine LeO.ite ?_ ?_
   | refine LeO.bind ?_ (fun _ => ?_)
def spec_l12Search.T19 : Bool × List (List Nat × List Nat) := (true, [([], []), ([], []), ([0, 1], [0, 1]), ([2], [2]), ([3], [3]), ([4], [4]), ([5], [5]), ([6, 5], [5, 6]), ([7, 5, 5], [5, 7]), ([8], [8]), ([8], [8]), ([8], [8]), ([10, 11, 8], [8, 10, 11]), ([12, 8], [8, 12]), ([13, 8, 8], [8, 13]), ([9, 14, 8], [8, 9, 14]), ([8], [8]), ([15, 16, 8], [8, 15, 16]), ([8], [8]), ([8], [8]), ([8], [8]), ([19, 20, 8], [8, 19, 20]), ([21, 8], [8, 21]), ([22, 14, 8], [8, 22]), ([18, 23, 8], [8, 18, 23]), ([8], [8]), ([24, 25, 8], [8, 24, 25]), ([17, 26, 8], [8, 17, 26]), ([8, 27, 5], [5, 8, 27]), ([5, 28], [5, 28])])
def spec_l12Search.B19 : List Nat := [0, 0, 3, 7, 15, 31, 63, 127, 255, 511, 511, 511, 3583, 7679, 15871, 32767, 511, 131071, 511, 511, 511, 1573375, 3670527, 7896575, 16547327, 511, 66878975, 134217727, 268435455, 536870911]
theorem spec_l12Search.tab19 : rtab .any (opsOf Try.f174 19) = spec_l12Search.T19 := by kernel_rfl
theorem spec_l12Search.bits19 : waitsOk spec_l12Search.T19.2 spec_l12Search.B19 = true := by kernel_rfl
set_option maxHeartbeats 8000000 in
set_option maxRecDepth 100000 in
theorem spec_l12Search.calls (k : Nat) (A0 : Option Addr) (c0 : Nat) (l0 : List Int) (a1 : Int) (r : List Int) (w : World) (hr0 : Kd.C (Kd.int .i64) w A0 l0.length l0) (hc0 : l0.length ≤ c0) (h : spec_l12Search.f k l0 a1 = some r) :
  Calls Try.prog 174 #[.slice A0 l0.length c0, .int .i64 a1] w fun e w' => ∃ v0_ : Value, e = .returned (v0_) ∧ Kd.R (Kd.int .i64) 2 w' w.heap.size (fun _ => True) v0_ r ∧ Below w.heap.size w w' := by
 have HR0 := Aside0.mk hr0
 have HC0 := Aside0.mk hc0
 clear hr0 hc0
 have HB := Aside0.mk (Below.refl w.heap.size w)
 have H : ((spec_l1Norm.f k l0).bind fun t182 => ((spec_l1Zeros.f (l0.length : Int)).bind fun t183 => (if t182 = 0 then (if 0 < (t183.length : Int) then (some (t183.set (0 : Int).toNat a1)) else (none)) else (spec_l12Search.l0 k l0 a1 t182 t183 a1 0)))) = some r := h
 clear h
 replace H := bnd H
 obtain ⟨t182, A3, H⟩ := H
 replace H := bnd H
 obtain ⟨t183, A4, H⟩ := H
 by_cases c5 : t182 = 0
 ·rw [if_pos c5] at H
  have c5b0 : (t182 == 0) = true := beq_iff_eq.mpr c5
  have c5b1 : (t182 != 0) = false := bne_eq_false_iff_eq.mpr c5
  clear c5
  by_cases c6 : 0 < (t183.length : Int)
  ·rw [if_pos c6] at H
   have c6b0 : decide (0 < (t183.length : Int)) = true := decide_eq_true c6
   have c6b1 : decide (0 < t183.length) = true := decide_eq_true (by omega)
   clear c6
   obtain ⟨y186, hy186⟩ : ∃ y_ : List Int, y_ = (t183.set (0 : Int).toNat a1) := ⟨_, rfl⟩
   replace H : (some y186) = some r := by first | (rw [hy186]; with_reducible exact H) | (have H2_ := (Option.bind_some _ _).symm.trans H; rw [hy186]; with_reducible exact H2_) | (have H2_ := (Option.bind_some _ _).symm.trans H; with_reducible exact H2_) | with_reducible exact H | (rw [hy186]; exact H) | exact H
   have Ny186 := Aside0.mk hy186
   clear hy186
   obtain rfl := Option.some.inj H
   go_enter Try.func174, Try.ntmps174
   go_wp2_with (first | ((with_reducible refine gate_callee (f := 194) rfl ?_); refine gl_ 14 Try.func194 #[.slice A0 l0.length c0] ?_; (with_reducible refine (spec_l1Norm.calls k _ _ l0 t182 _ ?side1 ?side2 A3.out).mono ?_); (case side1 => repeat (first | exact HR0.out | (with_reducible refine Kd.C_alloc ?_ _) | (with_reducible refine Kd.C_drewN ?_ _) | (with_reducible refine Kd.C_drew ?_))); (case side2 => exact HC0.out); rintro e w' ⟨rfl, ⟨nd, rfl⟩⟩; refine ⟨_, rfl, ?_⟩) | ((with_reducible refine gate_callee (f := 136) rfl ?_); refine gl_ 17 Try.func136 #[.int .i64 (l0.length : Int)] ?_; (with_reducible refine (spec_l1Zeros.calls (l0.length : Int) t183 _ A4.out).mono ?_); rintro e w8 ⟨v184, rfl, ho0, hb⟩; refine ⟨_, rfl, ?_⟩; have HO185 := rlw ho0; replace HB := hbs hb; (try clear hb); (try clear ho0); have p7 : 0 ≤ (0 : Int) := (by omega); have q7 : (0 : Int) < ((t183.length : Int) : Int) := dta; have qi7 : (0 < t183.length) = True := eq_true (by omega); obtain ⟨go7, co7, eo7, gb7, gl7, cl7, HG7⟩ := Kd.R_form HO185.out (by omega); (first | cases eo7 | (injection eo7 with ea_ en_ ec_; (first | subst ea_ | (injection ea_ with ea_; subst ea_)); subst ec_; clear en_)); have GB7 := Aside0.mk gb7; have GG7 := Aside0.mk HG7; clear gb7 gl7 HG7; obtain ⟨hx7_0, hf7_0⟩ := Kd.R_celln 0 HO185.out (0 : Int) p7 q7; (try rw [show ((0 : Int)).toNat = 0 from rfl] at hx7_0); (try simp only [Nat.reduceMul, Nat.zero_mul, Nat.zero_add, Nat.reduceAdd] at hx7_0); (try rw [show ((0 : Int)).toNat = 0 from rfl] at hf7_0); (try simp only [Nat.reduceMul, Nat.zero_mul, Nat.zero_add, Nat.reduceAdd] at hf7_0); replace p7 := eq_true p7; replace q7 := eq_true q7; obtain ⟨hy9_, hz9_⟩ := Kd.R_celln 0 HO185.out (0 : Int) (by omega) (dta); (try simp only [Int.reduceToNat, Int.toNat_zero, Int.toNat_ofNat, Nat.reduceMul, Nat.zero_mul, Nat.zero_add] at hy9_ hz9_); (try rw [show ((0 : Int)).toNat = 0 from rfl] at hy9_); (try rw [show ((0 : Int)).toNat = 0 from rfl] at hz9_); have HP9 := Kd.R_putg HO185.out (0 : Int) a1) | ((with_reducible refine gate_store (t := 2) (p := 22) rfl ?_); refine store_event (t := 2) (p := 22) (v := ?vo_w10) (w1 := (w8.setCell ⟨go7, (0 : Int).toNat, none⟩ (.int .i64 a1))) ?hg ?ho ?hn ?hr ?_; (case ho => rfl); (case hg => rfl); (case hn => rfl); (case hr => first | (go_simp; done) | (go_simp; rfl)); intro w10 hw; have hg : w8.grownBy w10 (some go7) := (by rw [hw]; exact HP9.2); have hp_ : Kd.R (Kd.int .i64) 2 w10 w.heap.size (fun _ => True) (.slice (some ⟨go7, 0, none⟩) t183.length co7) y186 := (by rw [hw, Ny186.out]; exact HP9.1); clear HP9; replace HO185 := am hp_; replace HB := am (by rw [hw]; exact below_set (HB.out) GB7.out : Below w.heap.size w w10); clear hg hw hp_))
   go_ret
   exact ⟨_, enq, by (with_reducible repeat (first | apply Kd.R_alloc | apply Kd.R_drewN | apply Kd.R_drew)); exact HO185.out, bnw⟩
  ·rw [if_neg c6] at H
   exact absurd H (by simp)
 ·rw [if_neg c5] at H
  have c5b0 : (t182 == 0) = false := beq_eq_false_iff_ne.mpr c5
  have c5b1 : (t182 != 0) = true := bne_iff_ne.mpr c5
  have H' := Aside0.mk H
  clear H
  go_enter Try.func174, Try.ntmps174
  go_wp2_with (first | ((with_reducible refine gate_callee (f := 194) rfl ?_); refine gl_ 14 Try.func194 #[.slice A0 l0.length c0] ?_; (with_reducible refine (spec_l1Norm.calls k _ _ l0 t182 _ ?side1 ?side2 A3.out).mono ?_); (case side1 => repeat (first | exact HR0.out | (with_reducible refine Kd.C_alloc ?_ _) | (with_reducible refine Kd.C_drewN ?_ _) | (with_reducible refine Kd.C_drew ?_))); (case side2 => exact HC0.out); rintro e w' ⟨rfl, ⟨nd, rfl⟩⟩; refine ⟨_, rfl, ?_⟩) | ((with_reducible refine gate_callee (f := 136) rfl ?_); refine gl_ 17 Try.func136 #[.int .i64 (l0.length : Int)] ?_; (with_reducible refine (spec_l1Zeros.calls (l0.length : Int) t183 _ A4.out).mono ?_); rintro e w11 ⟨v184, rfl, ho0, hb⟩; refine ⟨_, rfl, ?_⟩; have HO185 := rlw ho0; replace HB := hbs hb; (try clear hb); (try clear ho0)))
  go_loopg [7, 8] k (fun kq v7 v8 w' => ∃ (x6_1 : List Int) (x7_1 : Int) (x8_1 : Int), v7 = .int .i64 x7_1 ∧ v8 = .int .i64 x8_1 ∧ Aside0 (spec_l12Search.l0 kq l0 a1 t182 x6_1 x7_1 x8_1 = some r) ∧ Aside0 (kq ≤ k) ∧ Aside0 (Kd.R (Kd.int .i64) 2 w' w.heap.size (fun _ => True) v184 x6_1) ∧ Aside0 (Below w.heap.size w w'))
  case atStart => exact ⟨(t183), (a1), (0), rq, rq, H', ⟨Nat.le_refl _⟩, ⟨by (with_reducible repeat (first | apply Kd.R_alloc | apply Kd.R_drewN | apply Kd.R_drew)); exact HO185.out⟩, ⟨bnw⟩⟩
  case round =>
   clear H'
   try clear c1
   try clear p2
   try clear c5
   try clear c5b0
   try clear c5b1
   try clear c6
   try clear c6b0
   try clear c6b1
   try clear p7
   try clear q7
   try clear hx7
   try clear qi7
   try clear hf7
   try clear hx7_0
   try clear p7
   try clear q7
   obtain ⟨x6_1, x7_1, x8_1, rfl, rfl, HA, HK1, HO_6, HB⟩ := hrel
   cases gk with
   | zero => exact absurd HA.out (by simp [spec_l12Search.l0])
   | succ k1 =>
    have H := HA.out
    clear HA
    simp only [spec_l12Search.l0] at H
    by_cases c12 : x8_1 < (l0.length : Int)
    ·rw [if_pos c12] at H
     have c12b0 : decide (x8_1 < (l0.length : Int)) = true := decide_eq_true c12
     clear c12
     by_cases c13 : 0 ≤ x8_1
     ·rw [if_pos c13] at H
      have c13b0 : decide (0 ≤ x8_1) = true := decide_eq_true c13
      clear c13
      replace H := bnd H
      obtain ⟨t188, A14, H⟩ := H
      by_cases c15 : t182 = 0
      ·rw [if_pos c15] at H
       exact absurd H (by simp)
      ·rw [if_neg c15] at H
       have c15b0 : (t182 == 0) = false := beq_eq_false_iff_ne.mpr c15
       have c15b1 : (t182 != 0) = true := bne_iff_ne.mpr c15
       by_cases c16 : x8_1 < (x6_1.length : Int)
       ·rw [if_pos c16] at H
        have c16b0 : decide (x8_1 < (x6_1.length : Int)) = true := decide_eq_true c16
        clear c16
        obtain ⟨y189, hy189⟩ : ∃ y_ : List Int, y_ = (x6_1.set (x8_1 : Int).toNat (wrap64 (Int.tdiv (wrap64 (a1 * t188)) t182))) := ⟨_, rfl⟩
        replace H : (spec_l12Search.l0 k1 l0 a1 t182 y189 (wrap64 (x7_1 - (rd y189 x8_1))) (wrap64 (x8_1 + 1))) = some r := by first | (rw [hy189]; with_reducible exact H) | (have H2_ := (Option.bind_some _ _).symm.trans H; rw [hy189]; with_reducible exact H2_) | (have H2_ := (Option.bind_some _ _).symm.trans H; with_reducible exact H2_) | with_reducible exact H | (rw [hy189]; exact H) | exact H
        have Ny189 := Aside0.mk hy189
        clear hy189
        have H' := Aside0.mk H
        clear H
        have p187 : 0 ≤ (x8_1 : Int) := dta
        have q187 : x8_1 < (l0.length : Int) := dta
        obtain ⟨ad187, e187, hx187_0⟩ := Kd.at_int HR0.out x8_1 p187 q187
        cases e187
        replace hx187_0 := (HB.out.cell (World.block_lt_of_cell? w _ hx187_0)).trans hx187_0
        replace p187 := eq_true p187
        replace q187 := eq_true q187
        go_wp2_with (first | ((with_reducible refine gate_callee (f := 70) rfl ?_); refine gl_ 38 Try.func70 #[.int .i64 (rd l0 x8_1)] ?_; (with_reducible refine (spec_l1Abs.calls (rd l0 x8_1) t188 _ A14.out).mono ?_); rintro e w' ⟨rfl, ⟨nd, rfl⟩⟩; refine ⟨_, rfl, ?_⟩; (try ((repeat rw [World.drewN_drewN wr]); rw [drewN_self wr]; generalize hq_ : World.drewN wr _ = wr; have n0_ : Aside0 (Kd.R (Kd.int .i64) 2 wr w.heap.size (fun _ => True) v184 x6_1) := ⟨by rw [← hq_]; exact (rpl HO_6.out)⟩; have n1_ : Aside0 (Below w.heap.size w wr) := ⟨by rw [← hq_]; exact bnw⟩; clear HO_6 HB hq_; have HO_6 := n0_; have HB := n1_; clear n0_ n1_)); have p17 : 0 ≤ (x8_1 : Int) := dta; have q17 : (x8_1 : Int) < ((x6_1.length : Int) : Int) := dta; obtain ⟨go17, co17, eo17, gb17, gl17, cl17, HG17⟩ := Kd.R_form HO_6.out (by omega); (first | cases eo17 | (injection eo17 with ea_ en_ ec_; (first | subst ea_ | (injection ea_ with ea_; subst ea_)); subst ec_; clear en_)); have GB17 := Aside0.mk gb17; have GG17 := Aside0.mk HG17; clear gb17 gl17 HG17; obtain ⟨hx17_0, hf17_0⟩ := Kd.R_celln 0 HO_6.out (x8_1 : Int) p17 q17; replace p17 := eq_true p17; replace q17 := eq_true q17; obtain ⟨hy18_, hz18_⟩ := Kd.R_celln 0 HO_6.out (x8_1 : Int) (dta) (dta); have HP18 := Kd.R_putg HO_6.out (x8_1 : Int) (wrap64 (Int.tdiv (wrap64 (a1 * t188)) t182))) | ((with_reducible refine gate_store (t := 2) (p := 42) rfl ?_); refine store_event (t := 2) (p := 42) (v := ?vo_w19) (w1 := (wr.setCell ⟨go17, (x8_1 : Int).toNat, none⟩ (.int .i64 (wrap64 (Int.tdiv (wrap64 (a1 * t188)) t182))))) ?hg ?ho ?hn ?hr ?_; (case ho => rfl); (case hg => rfl); (case hn => rfl); (case hr => first | (go_simp; done) | (go_simp; rfl)); intro w19 hw; have hg : wr.grownBy w19 (some go17) := (by rw [hw]; exact HP18.2); have hp_ : Kd.R (Kd.int .i64) 2 w19 w.heap.size (fun _ => True) (.slice (some ⟨go17, 0, none⟩) x6_1.length co17) y189 := (by rw [hw, Ny189.out]; exact HP18.1); clear HP18; replace HO_6 := am hp_; replace HB := am (by rw [hw]; exact below_set (HB.out) GB17.out : Below w.heap.size w w19); clear hg hw hp_; have p190 : 0 ≤ (x8_1 : Int) := dta; have q190 : x8_1 < (y189.length : Int) := (by have h_ : (x8_1 : Int) < ((x6_1.length : Int) : Int) := dta; first | (have e_ := (Kd.R_reads' HO_6.out).1; omega) | simpa only [Ny189.out, List.length_set] using h_); have ql190 : ((x8_1 : Int) < ((x6_1.length : Int) : Int)) = True := eq_true (dta); obtain ⟨ad190, e190, hx190_0⟩ := Kd.at_int (Kd.R_reads' HO_6.out).2.2 x8_1 p190 q190; obtain rfl : (⟨go17, 0, none⟩ : Addr) = ad190 := (by injection e190); (first | simp only [add_plain] at hx190_0 | simp only [add_at] at hx190_0 | simp only [Addr.add, Nat.zero_add] at hx190_0 | skip); replace p190 := eq_true p190; replace q190 := eq_true q190))
        go_roundg k1
        case measure => have := HK1.out; omega
        case rel => exact ⟨(y189), (wrap64 (x7_1 - (rd y189 x8_1))), (wrap64 (x8_1 + 1)), rq, rq, H', ⟨by have := HK1.out; omega⟩, ⟨by (with_reducible repeat (first | apply Kd.R_alloc | apply Kd.R_drewN | apply Kd.R_drew)); exact HO_6.out⟩, ⟨bnw⟩⟩
       ·rw [if_neg c16] at H
        exact absurd H (by simp)
     ·rw [if_neg c13] at H
      exact absurd H (by simp)
    ·rw [if_neg c12] at H
     have c12b0 : decide (x8_1 < (l0.length : Int)) = false := decide_eq_false c12
     clear c12
     by_cases c20 : 0 ≤ (l0.length : Int)
     ·rw [if_pos c20] at H
      have c20b0 := eq_true c20
      have c20b1 : decide (0 ≤ (l0.length : Int)) = true := decide_eq_true c20
      clear c20
      by_cases c21 : ((l0.length : Int) : Int).toNat ≤ 281474976710656
      ·rw [if_pos c21] at H
       have c21b0 := eq_true c21
       have c21b1 : decide (((l0.length : Int) : Int).toNat ≤ 281474976710656) = true := decide_eq_true c21
       clear c21
       obtain ⟨y191, hy191⟩ : ∃ y_ : List Bool, y_ = (List.replicate ((l0.length : Int) : Int).toNat false) := ⟨_, rfl⟩
       replace H : (spec_l12Search.l1 k1 l0 a1 t182 x6_1 x7_1 y191) = some r := by first | (rw [hy191]; with_reducible exact H) | (have H2_ := (Option.bind_some _ _).symm.trans H; rw [hy191]; with_reducible exact H2_) | (have H2_ := (Option.bind_some _ _).symm.trans H; with_reducible exact H2_) | with_reducible exact H | (rw [hy191]; exact H) | exact H
       have Ny191 := Aside0.mk hy191
       clear hy191
       have H' := Aside0.mk H
       clear H
       go_wp2_with (first | ((with_reducible refine gate_dst (N := 51) rfl ?_); refine Kd.R_make Kd.bool _ 4 rfl (N := 51) rfl 157 _ _ rfl (l0.length : Int) rfl rfl Try.underlying157 (.bool false) 1 info4 rfl (by decide) (by omega) false (ok := fun _ => True) (okp := fun _ => True) rfl (fun _ hk => hk) trivial (dta) (Nat.le_trans (Nat.mul_le_mul_right _ (dta : (l0.length : Int).toNat ≤ 281474976710656)) (by omega)) (Below.refl _ _) (Nat.le_refl _) ?_; intro v192 w22 ho23 hb hg_ hnew_; clear hg_ hnew_; (first | rw [← Ny191.out] at ho23 | (simp only [Int.reduceToNat] at ho23; rw [← Ny191.out] at ho23)); replace HO_6 := rbl HO_6 hb; have HO193 := rlw ho23; replace HB := hbs hb; clear hb ho23))
       go_loopg [7] k1 (fun kq v7 w' => ∃ (x6_2 : List Int) (x7_2 : Int) (x9_2 : List Bool), v7 = .int .i64 x7_2 ∧ Aside0 (spec_l12Search.l1 kq l0 a1 t182 x6_2 x7_2 x9_2 = some r) ∧ Aside0 (kq ≤ k1) ∧ Aside0 (Kd.R (Kd.int .i64) 2 w' w.heap.size (fun _ => True) v184 x6_2) ∧ Aside0 (Kd.R Kd.bool 4 w' w.heap.size (fun _ => True) v192 x9_2) ∧ Aside0 (Below w.heap.size w w'))
       case atStart => exact ⟨(x6_1), (x7_1), (y191), rq, H', ⟨Nat.le_refl _⟩, ⟨by (with_reducible repeat (first | apply Kd.R_alloc | apply Kd.R_drewN | apply Kd.R_drew)); exact HO_6.out⟩, ⟨by (with_reducible repeat (first | apply Kd.R_alloc | apply Kd.R_drewN | apply Kd.R_drew)); exact HO193.out⟩, ⟨bnw⟩⟩
       case round =>
        clear H'
        try clear c1
        try clear p1
        try clear q1
        try clear hx1
        try clear c2
        try clear p2
        try clear c5
        try clear c5b0
        try clear c5b1
        try clear c6
        try clear c6b0
        try clear c6b1
        try clear p6
        try clear c7
        try clear p7
        try clear q7
        try clear hx7
        try clear qi7
        try clear hf7
        try clear c12
        try clear c12b0
        try clear c13
        try clear c13b0
        try clear c15
        try clear c15b0
        try clear c15b1
        try clear c16
        try clear c16b0
        try clear c17
        try clear p17
        try clear q17
        try clear hx17
        try clear hf17
        try clear p18
        try clear q18
        try clear hx18
        try clear c19
        try clear p19
        try clear q19
        try clear hx19
        try clear c20
        try clear c20b0
        try clear c20b1
        try clear c21
        try clear c21b0
        try clear c21b1
        try clear hx17_0
        try clear hx187_0
        try clear hx190_0
        try clear hx7_0
        try clear p17
        try clear p187
        try clear p190
        try clear p2
        try clear p7
        try clear q17
        try clear q187
        try clear q190
        try clear q7
        obtain ⟨x6_2, x7_2, x9_2, rfl, HA, HK2, HO_6, HO_9, HB⟩ := hrel
        cases gk with
        | zero => exact absurd HA.out (by simp [spec_l12Search.l1])
        | succ k2 =>
         have H := HA.out
         clear HA
         simp only [spec_l12Search.l1] at H
         by_cases c24 : x7_2 > 0
         ·rw [if_pos c24] at H
          have c24b0 : decide (0 < x7_2) = true := decide_eq_true c24
          clear c24
          have H' := Aside0.mk H
          clear H
          go_wp2
          go_loopg [10, 11] k2 (fun kq v10 v11 w' => ∃ (x10_3 : Int) (x11_3 : Int), v10 = .int .i64 x10_3 ∧ v11 = .int .i64 x11_3 ∧ Aside0 (spec_l12Search.l2 kq l0 a1 t182 x6_2 x7_2 x9_2 x10_3 x11_3 = some r) ∧ Aside0 (kq ≤ k2) ∧ Aside0 (Kd.R (Kd.int .i64) 2 w' w.heap.size (fun _ => True) v184 x6_2) ∧ Aside0 (Kd.R Kd.bool 4 w' w.heap.size (fun _ => True) v192 x9_2) ∧ Aside0 (Below w.heap.size w w'))
          case atStart => exact ⟨((-1)), (0), rq, rq, H', ⟨Nat.le_refl _⟩, ⟨by (with_reducible repeat (first | apply Kd.R_alloc | apply Kd.R_drewN | apply Kd.R_drew)); exact HO_6.out⟩, ⟨by (with_reducible repeat (first | apply Kd.R_alloc | apply Kd.R_drewN | apply Kd.R_drew)); exact HO_9.out⟩, ⟨bnw⟩⟩
          case round =>
           clear H'
           try clear c1
           try clear p1
           try clear q1
           try clear hx1
           try clear c2
           try clear p2
           try clear c5
           try clear c5b0
           try clear c5b1
           try clear c6
           try clear c6b0
           try clear c6b1
           try clear p6
           try clear c7
           try clear p7
           try clear q7
           try clear hx7
           try clear qi7
           try clear hf7
           try clear c12
           try clear c12b0
           try clear c13
           try clear c13b0
           try clear c15
           try clear c15b0
           try clear c15b1
           try clear c16
           try clear c16b0
           try clear c17
           try clear p17
           try clear q17
           try clear hx17
           try clear hf17
           try clear p18
           try clear q18
           try clear hx18
           try clear c19
           try clear p19
           try clear q19
           try clear hx19
           try clear c20
           try clear c20b0
           try clear c20b1
           try clear c21
           try clear c21b0
           try clear c21b1
           try clear c24
           try clear c24b0
           try clear hx17_0
           try clear hx187_0
           try clear hx190_0
           try clear hx7_0
           try clear p1
           try clear p17
           try clear p18
           try clear p187
           try clear p19
           try clear p190
           try clear p2
           try clear p6
           try clear p7
           try clear q1
           try clear q17
           try clear q18
           try clear q187
           try clear q19
           try clear q190
           try clear q7
           obtain ⟨x10_3, x11_3, rfl, rfl, HA, HK3, HO_6, HO_9, HB⟩ := hrel
           cases gk with
           | zero => exact absurd HA.out (by simp [spec_l12Search.l2])
           | succ k3 =>
            have H := HA.out
            clear HA
            simp only [spec_l12Search.l2] at H
            by_cases c25 : x11_3 < (l0.length : Int)
            ·rw [if_pos c25] at H
             have c25b0 : decide (x11_3 < (l0.length : Int)) = true := decide_eq_true c25
             clear c25
             by_cases c26 : 0 ≤ x11_3
             ·rw [if_pos c26] at H
              have c26b0 : decide (0 ≤ x11_3) = true := decide_eq_true c26
              clear c26
              by_cases c27 : x11_3 < (x9_2.length : Int)
              ·rw [if_pos c27] at H
               have c27b0 : decide (x11_3 < (x9_2.length : Int)) = true := decide_eq_true c27
               clear c27
               obtain ⟨bq28, hbq28⟩ : ∃ b_ : Bool, b_ = (rdOf false x9_2 x11_3) := ⟨_, rfl⟩
               replace H : (if bq28 = true then (spec_l12Search.l2 k3 l0 a1 t182 x6_2 x7_2 x9_2 x10_3 (wrap64 (x11_3 + 1))) else (if x10_3 < 0 then (spec_l12Search.l2 k3 l0 a1 t182 x6_2 x7_2 x9_2 x11_3 (wrap64 (x11_3 + 1))) else ((spec_l1Abs.f (rd l0 x11_3)).bind fun t199 => (if t182 = 0 then (none) else (if 0 ≤ x10_3 then (if x10_3 < (l0.length : Int) then ((spec_l1Abs.f (rd l0 x10_3)).bind fun t201 => (if (Int.tmod (wrap64 (a1 * t199)) t182) > (Int.tmod (wrap64 (a1 * t201)) t182) then (spec_l12Search.l2 k3 l0 a1 t182 x6_2 x7_2 x9_2 x11_3 (wrap64 (x11_3 + 1))) else (spec_l12Search.l2 k3 l0 a1 t182 x6_2 x7_2 x9_2 x10_3 (wrap64 (x11_3 + 1))))) else (none)) else (none)))))) = some r := by rw [← hbq28] at H; exact H
               have Nbq28 := Aside0.mk hbq28
               clear hbq28
               by_cases c29 : bq28 = true
               ·subst c29
                replace H : (spec_l12Search.l2 k3 l0 a1 t182 x6_2 x7_2 x9_2 x10_3 (wrap64 (x11_3 + 1))) = some r := by rw [if_pos rfl] at H; exact H
                have H' := Aside0.mk H
                clear H
                try go_wp2
                replace HO_6 := am (Kd.R_drew HO_6.out)
                replace HO_9 := am (Kd.R_drew HO_9.out)
                replace HB := am (below_drew1 HB.out)
                obtain ⟨Ao31, co31, eo31⟩ := Kd.R_slice HO_9.out
                (first | subst eo31 | (injection eo31 with f1_ f2_ f3_; have f4_ := f1_.symm; have f5_ := f3_.symm; clear f1_ f2_ f3_; subst f4_; subst f5_))
                have p197 : 0 ≤ (x11_3 : Int) := dta
                have q197 : x11_3 < (x9_2.length : Int) := dta
                obtain ⟨ad197, e197, hx197_0⟩ := Kd.at_bool (Kd.R_reads' HO_9.out).2.2 x11_3 p197 q197
                (try rw [← Nbq28.out] at hx197_0)
                cases e197
                replace p197 := eq_true p197
                replace q197 := eq_true q197
                refine start_ (n := 30) (S := fun w' => w'.cell? (ad197.add (x11_3).toNat) = some (.bool true)) (ds := []) #[false, false, false, false, false, false, false, false, false, false, false, false, false, false, false, false, false, false, false, false, false, false, false, false, false, false, false, false, false, false] (by kernel_rfl) rfl rfl (hx197_0) (fun hHeld => ?_); refine with_tabW spec_l12Search.tab19 spec_l12Search.bits19 (fun HT_ HW_ => ?_)
                generalize wr.drew = w30 at HO_6 HO_9 HB hx197_0 hHeld ⊢
                refine pu_ 0 62 HT_ ?_
                refine pu_ 1 63 HT_ ?_
                refine pu_ 2 64 HT_ ?_
                refine tk_ 3 65 HT_ HW_ hHeld ?_
                refine pu_ 4 66 HT_ ?_
                refine pu_ 5 67 HT_ ?_
                refine pure_ (i := 6) (N := some 68) (v := undef) (a' := ?_) #[true, true, true, true, true, true, true, false, false, false, false, false, false, false, false, false, false, false, false, false, false, false, false, false, false, false, false, false, false, false] rfl rfl (any_of HT_.out (by kernel_rfl)) (fun _ _ _ h => h) (Or.inr ⟨by rfl, rfl⟩) ?_ ?_
                rotate_left
                ·exact apr
                refine pure_ (i := 7) (N := some 69) (v := undef) (a' := ?_) #[true, true, true, true, true, true, true, true, false, false, false, false, false, false, false, false, false, false, false, false, false, false, false, false, false, false, false, false, false, false] rfl rfl (any_of HT_.out (by kernel_rfl)) (fun _ _ _ h => h) (Or.inr ⟨by rfl, rfl⟩) ?_ ?_
                rotate_left
                ·exact apr
                refine pure_ (i := 8) (N := some 70) (v := undef) (a' := ?_) #[true, true, true, true, true, true, true, true, true, false, false, false, false, false, false, false, false, false, false, false, false, false, false, false, false, false, false, false, false, false] rfl rfl (any_of HT_.out (by kernel_rfl)) (fun _ _ _ h => h) (Or.inr ⟨by rfl, rfl⟩) ?_ ?_
                rotate_left
                ·exact apr
                refine pure_ (i := 9) (N := some 71) (v := undef) (a' := ?_) #[true, true, true, true, true, true, true, true, true, true, false, false, false, false, false, false, false, false, false, false, false, false, false, false, false, false, false, false, false, false] rfl rfl (any_of HT_.out (by kernel_rfl)) (fun _ _ _ h => h) (Or.inr ⟨by rfl, rfl⟩) ?_ ?_
                rotate_left
                ·exact apr
                refine pure_ (i := 10) (N := some 72) (v := undef) (a' := ?_) #[true, true, true, true, true, true, true, true, true, true, true, false, false, false, false, false, false, false, false, false, false, false, false, false, false, false, false, false, false, false] rfl rfl (any_of HT_.out (by kernel_rfl)) (fun _ _ _ h => h) (Or.inr ⟨by rfl, rfl⟩) ?_ ?_
                rotate_left
                ·exact apr
                refine pure_ (i := 11) (N := some 73) (v := undef) (a' := ?_) #[true, true, true, true, true, true, true, true, true, true, true, true, false, false, false, false, false, false, false, false, false, false, false, false, false, false, false, false, false, false] rfl rfl (any_of HT_.out (by kernel_rfl)) (fun _ _ _ h => h) (Or.inr ⟨by rfl, rfl⟩) ?_ ?_
                rotate_left
                ·exact apr
                refine pure_ (i := 12) (N := some 74) (v := undef) (a' := ?_) #[true, true, true, true, true, true, true, true, true, true, true, true, true, false, false, false, false, false, false, false, false, false, false, false, false, false, false, false, false, false] rfl rfl (any_of HT_.out (by kernel_rfl)) (fun _ _ _ h => h) (Or.inr ⟨by rfl, rfl⟩) ?_ ?_
                rotate_left
                ·exact apr
                refine pure_ (i := 13) (N := some 75) (v := undef) (a' := ?_) #[true, true, true, true, true, true, true, true, true, true, true, true, true, true, false, false, false, false, false, false, false, false, false, false, false, false, false, false, false, false] rfl rfl (any_of HT_.out (by kernel_rfl)) (fun _ _ _ h => h) (Or.inr ⟨by rfl, rfl⟩) ?_ ?_
                rotate_left
                ·exact apr
                refine pure_ (i := 14) (N := some 76) (v := undef) (a' := ?_) #[true, true, true, true, true, true, true, true, true, true, true, true, true, true, true, false, false, false, false, false, false, false, false, false, false, false, false, false, false, false] rfl rfl (any_of HT_.out (by kernel_rfl)) (fun _ _ _ h => h) (Or.inr ⟨by rfl, rfl⟩) ?_ ?_
                rotate_left
                ·exact apr
                refine pure_ (i := 15) (N := some 77) (v := undef) (a' := ?_) #[true, true, true, true, true, true, true, true, true, true, true, true, true, true, true, true, false, false, false, false, false, false, false, false, false, false, false, false, false, false] rfl rfl (any_of HT_.out (by kernel_rfl)) (fun _ _ _ h => h) (Or.inr ⟨by rfl, rfl⟩) ?_ ?_
                rotate_left
                ·exact apr
                refine pure_ (i := 16) (N := some 78) (v := undef) (a' := ?_) #[true, true, true, true, true, true, true, true, true, true, true, true, true, true, true, true, true, false, false, false, false, false, false, false, false, false, false, false, false, false] rfl rfl (any_of HT_.out (by kernel_rfl)) (fun _ _ _ h => h) (Or.inr ⟨by rfl, rfl⟩) ?_ ?_
                rotate_left
                ·exact apr
                refine pure_ (i := 17) (N := some 79) (v := undef) (a' := ?_) #[true, true, true, true, true, true, true, true, true, true, true, true, true, true, true, true, true, true, false, false, false, false, false, false, false, false, false, false, false, false] rfl rfl (any_of HT_.out (by kernel_rfl)) (fun _ _ _ h => h) (Or.inr ⟨by rfl, rfl⟩) ?_ ?_
                rotate_left
                ·exact apr
                refine pure_ (i := 18) (N := some 80) (v := undef) (a' := ?_) #[true, true, true, true, true, true, true, true, true, true, true, true, true, true, true, true, true, true, true, false, false, false, false, false, false, false, false, false, false, false] rfl rfl (any_of HT_.out (by kernel_rfl)) (fun _ _ _ h => h) (Or.inr ⟨by rfl, rfl⟩) ?_ ?_
                rotate_left
                ·exact apr
                refine pure_ (i := 19) (N := some 81) (v := undef) (a' := ?_) #[true, true, true, true, true, true, true, true, true, true, true, true, true, true, true, true, true, true, true, true, false, false, false, false, false, false, false, false, false, false] rfl rfl (any_of HT_.out (by kernel_rfl)) (fun _ _ _ h => h) (Or.inr ⟨by rfl, rfl⟩) ?_ ?_
                rotate_left
                ·exact apr
                refine pure_ (i := 20) (N := some 82) (v := undef) (a' := ?_) #[true, true, true, true, true, true, true, true, true, true, true, true, true, true, true, true, true, true, true, true, true, false, false, false, false, false, false, false, false, false] rfl rfl (any_of HT_.out (by kernel_rfl)) (fun _ _ _ h => h) (Or.inr ⟨by rfl, rfl⟩) ?_ ?_
                rotate_left
                ·exact apr
                refine pure_ (i := 21) (N := some 83) (v := undef) (a' := ?_) #[true, true, true, true, true, true, true, true, true, true, true, true, true, true, true, true, true, true, true, true, true, true, false, false, false, false, false, false, false, false] rfl rfl (any_of HT_.out (by kernel_rfl)) (fun _ _ _ h => h) (Or.inr ⟨by rfl, rfl⟩) ?_ ?_
                rotate_left
                ·exact apr
                refine pure_ (i := 22) (N := some 84) (v := undef) (a' := ?_) #[true, true, true, true, true, true, true, true, true, true, true, true, true, true, true, true, true, true, true, true, true, true, true, false, false, false, false, false, false, false] rfl rfl (any_of HT_.out (by kernel_rfl)) (fun _ _ _ h => h) (Or.inr ⟨by rfl, rfl⟩) ?_ ?_
                rotate_left
                ·exact apr
                refine pure_ (i := 23) (N := some 85) (v := undef) (a' := ?_) #[true, true, true, true, true, true, true, true, true, true, true, true, true, true, true, true, true, true, true, true, true, true, true, true, false, false, false, false, false, false] rfl rfl (any_of HT_.out (by kernel_rfl)) (fun _ _ _ h => h) (Or.inr ⟨by rfl, rfl⟩) ?_ ?_
                rotate_left
                ·exact apr
                refine pure_ (i := 24) (N := some 86) (v := undef) (a' := ?_) #[true, true, true, true, true, true, true, true, true, true, true, true, true, true, true, true, true, true, true, true, true, true, true, true, true, false, false, false, false, false] rfl rfl (any_of HT_.out (by kernel_rfl)) (fun _ _ _ h => h) (Or.inr ⟨by rfl, rfl⟩) ?_ ?_
                rotate_left
                ·exact apr
                refine pure_ (i := 25) (N := some 87) (v := undef) (a' := ?_) #[true, true, true, true, true, true, true, true, true, true, true, true, true, true, true, true, true, true, true, true, true, true, true, true, true, true, false, false, false, false] rfl rfl (any_of HT_.out (by kernel_rfl)) (fun _ _ _ h => h) (Or.inr ⟨by rfl, rfl⟩) ?_ ?_
                rotate_left
                ·exact apr
                refine pure_ (i := 26) (N := some 88) (v := undef) (a' := ?_) #[true, true, true, true, true, true, true, true, true, true, true, true, true, true, true, true, true, true, true, true, true, true, true, true, true, true, true, false, false, false] rfl rfl (any_of HT_.out (by kernel_rfl)) (fun _ _ _ h => h) (Or.inr ⟨by rfl, rfl⟩) ?_ ?_
                rotate_left
                ·exact apr
                refine pure_ (i := 27) (N := some 89) (v := undef) (a' := ?_) #[true, true, true, true, true, true, true, true, true, true, true, true, true, true, true, true, true, true, true, true, true, true, true, true, true, true, true, true, false, false] rfl rfl (any_of HT_.out (by kernel_rfl)) (fun _ _ _ h => h) (Or.inr ⟨by rfl, rfl⟩) ?_ ?_
                rotate_left
                ·exact apr
                refine pure_ (i := 28) (N := some 90) (v := undef) (a' := ?_) #[true, true, true, true, true, true, true, true, true, true, true, true, true, true, true, true, true, true, true, true, true, true, true, true, true, true, true, true, true, false] rfl rfl (any_of HT_.out (by kernel_rfl)) (fun _ _ _ h => h) (Or.inr ⟨by rfl, rfl⟩) ?_ ?_
                rotate_left
                ·exact apr
                refine pu_ 29 91 HT_ ?_
                refine done_ (done_of HT_.out (by kernel_rfl)) ?_
                try go_wp2
                go_roundg k3
                case measure => have := HK1.out; have := HK2.out; have := HK3.out; omega
                case rel => exact ⟨(x10_3), (wrap64 (x11_3 + 1)), rq, rq, H', ⟨by have := HK1.out; have := HK2.out; have := HK3.out; omega⟩, ⟨by (with_reducible repeat (first | apply Kd.R_alloc | apply Kd.R_drewN | apply Kd.R_drew)); exact HO_6.out⟩, ⟨by (with_reducible repeat (first | apply Kd.R_alloc | apply Kd.R_drewN | apply Kd.R_drew)); exact HO_9.out⟩, ⟨bnw⟩⟩
               ·replace c29 := Bool.eq_false_iff.mpr c29
                subst c29
                replace H : (if x10_3 < 0 then (spec_l12Search.l2 k3 l0 a1 t182 x6_2 x7_2 x9_2 x11_3 (wrap64 (x11_3 + 1))) else ((spec_l1Abs.f (rd l0 x11_3)).bind fun t199 => (if t182 = 0 then (none) else (if 0 ≤ x10_3 then (if x10_3 < (l0.length : Int) then ((spec_l1Abs.f (rd l0 x10_3)).bind fun t201 => (if (Int.tmod (wrap64 (a1 * t199)) t182) > (Int.tmod (wrap64 (a1 * t201)) t182) then (spec_l12Search.l2 k3 l0 a1 t182 x6_2 x7_2 x9_2 x11_3 (wrap64 (x11_3 + 1))) else (spec_l12Search.l2 k3 l0 a1 t182 x6_2 x7_2 x9_2 x10_3 (wrap64 (x11_3 + 1))))) else (none)) else (none))))) = some r := by rw [if_neg (show ¬ (false = true) by decide)] at H; exact H
                by_cases c32 : x10_3 < 0
                ·rw [if_pos c32] at H
                 have c32b0 : decide (x10_3 < 0) = true := decide_eq_true c32
                 clear c32
                 have H' := Aside0.mk H
                 clear H
                 try go_wp2
                 replace HO_6 := am (Kd.R_drew HO_6.out)
                 replace HO_9 := am (Kd.R_drew HO_9.out)
                 replace HB := am (below_drew1 HB.out)
                 obtain ⟨Ao34, co34, eo34⟩ := Kd.R_slice HO_9.out
                 (first | subst eo34 | (injection eo34 with f1_ f2_ f3_; have f4_ := f1_.symm; have f5_ := f3_.symm; clear f1_ f2_ f3_; subst f4_; subst f5_))
                 have p197 : 0 ≤ (x11_3 : Int) := dta
                 have q197 : x11_3 < (x9_2.length : Int) := dta
                 obtain ⟨ad197, e197, hx197_0⟩ := Kd.at_bool (Kd.R_reads' HO_9.out).2.2 x11_3 p197 q197
                 (try rw [← Nbq28.out] at hx197_0)
                 cases e197
                 replace p197 := eq_true p197
                 replace q197 := eq_true q197
                 refine start_ (n := 30) (S := fun w' => w'.cell? (ad197.add (x11_3).toNat) = some (.bool false)) (ds := []) #[false, false, false, false, false, false, false, false, false, false, false, false, false, false, false, false, false, false, false, false, false, false, false, false, false, false, false, false, false, false] (by kernel_rfl) rfl rfl (hx197_0) (fun hHeld => ?_); refine with_tabW spec_l12Search.tab19 spec_l12Search.bits19 (fun HT_ HW_ => ?_)
                 generalize wr.drew = w33 at HO_6 HO_9 HB hx197_0 hHeld ⊢
                 refine pu_ 0 62 HT_ ?_
                 refine pu_ 1 63 HT_ ?_
                 refine pu_ 2 64 HT_ ?_
                 refine tk_ 3 65 HT_ HW_ hHeld ?_
                 refine pu_ 4 66 HT_ ?_
                 refine pu_ 5 67 HT_ ?_
                 refine pu_ 6 68 HT_ ?_
                 refine pu_ 7 69 HT_ ?_
                 refine pu_ 8 70 HT_ ?_
                 refine pure_ (i := 9) (N := some 71) (v := undef) (a' := ?_) #[true, true, true, true, true, true, true, true, true, true, false, false, false, false, false, false, false, false, false, false, false, false, false, false, false, false, false, false, false, false] rfl rfl (any_of HT_.out (by kernel_rfl)) (fun _ _ _ h => h) (Or.inr ⟨by rfl, rfl⟩) ?_ ?_
                 rotate_left
                 ·exact apr
                 refine pure_ (i := 10) (N := some 72) (v := undef) (a' := ?_) #[true, true, true, true, true, true, true, true, true, true, true, false, false, false, false, false, false, false, false, false, false, false, false, false, false, false, false, false, false, false] rfl rfl (any_of HT_.out (by kernel_rfl)) (fun _ _ _ h => h) (Or.inr ⟨by rfl, rfl⟩) ?_ ?_
                 rotate_left
                 ·exact apr
                 refine pure_ (i := 11) (N := some 73) (v := undef) (a' := ?_) #[true, true, true, true, true, true, true, true, true, true, true, true, false, false, false, false, false, false, false, false, false, false, false, false, false, false, false, false, false, false] rfl rfl (any_of HT_.out (by kernel_rfl)) (fun _ _ _ h => h) (Or.inr ⟨by rfl, rfl⟩) ?_ ?_
                 rotate_left
                 ·exact apr
                 refine pure_ (i := 12) (N := some 74) (v := undef) (a' := ?_) #[true, true, true, true, true, true, true, true, true, true, true, true, true, false, false, false, false, false, false, false, false, false, false, false, false, false, false, false, false, false] rfl rfl (any_of HT_.out (by kernel_rfl)) (fun _ _ _ h => h) (Or.inr ⟨by rfl, rfl⟩) ?_ ?_
                 rotate_left
                 ·exact apr
                 refine pure_ (i := 13) (N := some 75) (v := undef) (a' := ?_) #[true, true, true, true, true, true, true, true, true, true, true, true, true, true, false, false, false, false, false, false, false, false, false, false, false, false, false, false, false, false] rfl rfl (any_of HT_.out (by kernel_rfl)) (fun _ _ _ h => h) (Or.inr ⟨by rfl, rfl⟩) ?_ ?_
                 rotate_left
                 ·exact apr
                 refine pure_ (i := 14) (N := some 76) (v := undef) (a' := ?_) #[true, true, true, true, true, true, true, true, true, true, true, true, true, true, true, false, false, false, false, false, false, false, false, false, false, false, false, false, false, false] rfl rfl (any_of HT_.out (by kernel_rfl)) (fun _ _ _ h => h) (Or.inr ⟨by rfl, rfl⟩) ?_ ?_
                 rotate_left
                 ·exact apr
                 refine pure_ (i := 15) (N := some 77) (v := undef) (a' := ?_) #[true, true, true, true, true, true, true, true, true, true, true, true, true, true, true, true, false, false, false, false, false, false, false, false, false, false, false, false, false, false] rfl rfl (any_of HT_.out (by kernel_rfl)) (fun _ _ _ h => h) (Or.inr ⟨by rfl, rfl⟩) ?_ ?_
                 rotate_left
                 ·exact apr
                 refine pure_ (i := 16) (N := some 78) (v := undef) (a' := ?_) #[true, true, true, true, true, true, true, true, true, true, true, true, true, true, true, true, true, false, false, false, false, false, false, false, false, false, false, false, false, false] rfl rfl (any_of HT_.out (by kernel_rfl)) (fun _ _ _ h => h) (Or.inr ⟨by rfl, rfl⟩) ?_ ?_
                 rotate_left
                 ·exact apr
                 refine pure_ (i := 17) (N := some 79) (v := undef) (a' := ?_) #[true, true, true, true, true, true, true, true, true, true, true, true, true, true, true, true, true, true, false, false, false, false, false, false, false, false, false, false, false, false] rfl rfl (any_of HT_.out (by kernel_rfl)) (fun _ _ _ h => h) (Or.inr ⟨by rfl, rfl⟩) ?_ ?_
                 rotate_left
                 ·exact apr
                 refine pure_ (i := 18) (N := some 80) (v := undef) (a' := ?_) #[true, true, true, true, true, true, true, true, true, true, true, true, true, true, true, true, true, true, true, false, false, false, false, false, false, false, false, false, false, false] rfl rfl (any_of HT_.out (by kernel_rfl)) (fun _ _ _ h => h) (Or.inr ⟨by rfl, rfl⟩) ?_ ?_
                 rotate_left
                 ·exact apr
                 refine pure_ (i := 19) (N := some 81) (v := undef) (a' := ?_) #[true, true, true, true, true, true, true, true, true, true, true, true, true, true, true, true, true, true, true, true, false, false, false, false, false, false, false, false, false, false] rfl rfl (any_of HT_.out (by kernel_rfl)) (fun _ _ _ h => h) (Or.inr ⟨by rfl, rfl⟩) ?_ ?_
                 rotate_left
                 ·exact apr
                 refine pure_ (i := 20) (N := some 82) (v := undef) (a' := ?_) #[true, true, true, true, true, true, true, true, true, true, true, true, true, true, true, true, true, true, true, true, true, false, false, false, false, false, false, false, false, false] rfl rfl (any_of HT_.out (by kernel_rfl)) (fun _ _ _ h => h) (Or.inr ⟨by rfl, rfl⟩) ?_ ?_
                 rotate_left
                 ·exact apr
                 refine pure_ (i := 21) (N := some 83) (v := undef) (a' := ?_) #[true, true, true, true, true, true, true, true, true, true, true, true, true, true, true, true, true, true, true, true, true, true, false, false, false, false, false, false, false, false] rfl rfl (any_of HT_.out (by kernel_rfl)) (fun _ _ _ h => h) (Or.inr ⟨by rfl, rfl⟩) ?_ ?_
                 rotate_left
                 ·exact apr
                 refine pure_ (i := 22) (N := some 84) (v := undef) (a' := ?_) #[true, true, true, true, true, true, true, true, true, true, true, true, true, true, true, true, true, true, true, true, true, true, true, false, false, false, false, false, false, false] rfl rfl (any_of HT_.out (by kernel_rfl)) (fun _ _ _ h => h) (Or.inr ⟨by rfl, rfl⟩) ?_ ?_
                 rotate_left
                 ·exact apr
                 refine pure_ (i := 23) (N := some 85) (v := undef) (a' := ?_) #[true, true, true, true, true, true, true, true, true, true, true, true, true, true, true, true, true, true, true, true, true, true, true, true, false, false, false, false, false, false] rfl rfl (any_of HT_.out (by kernel_rfl)) (fun _ _ _ h => h) (Or.inr ⟨by rfl, rfl⟩) ?_ ?_
                 rotate_left
                 ·exact apr
                 refine pure_ (i := 24) (N := some 86) (v := undef) (a' := ?_) #[true, true, true, true, true, true, true, true, true, true, true, true, true, true, true, true, true, true, true, true, true, true, true, true, true, false, false, false, false, false] rfl rfl (any_of HT_.out (by kernel_rfl)) (fun _ _ _ h => h) (Or.inr ⟨by rfl, rfl⟩) ?_ ?_
                 rotate_left
                 ·exact apr
                 refine pure_ (i := 25) (N := some 87) (v := undef) (a' := ?_) #[true, true, true, true, true, true, true, true, true, true, true, true, true, true, true, true, true, true, true, true, true, true, true, true, true, true, false, false, false, false] rfl rfl (any_of HT_.out (by kernel_rfl)) (fun _ _ _ h => h) (Or.inr ⟨by rfl, rfl⟩) ?_ ?_
                 rotate_left
                 ·exact apr
                 refine pure_ (i := 26) (N := some 88) (v := undef) (a' := ?_) #[true, true, true, true, true, true, true, true, true, true, true, true, true, true, true, true, true, true, true, true, true, true, true, true, true, true, true, false, false, false] rfl rfl (any_of HT_.out (by kernel_rfl)) (fun _ _ _ h => h) (Or.inr ⟨by rfl, rfl⟩) ?_ ?_
                 rotate_left
                 ·exact apr
                 refine pure_ (i := 27) (N := some 89) (v := undef) (a' := ?_) #[true, true, true, true, true, true, true, true, true, true, true, true, true, true, true, true, true, true, true, true, true, true, true, true, true, true, true, true, false, false] rfl rfl (any_of HT_.out (by kernel_rfl)) (fun _ _ _ h => h) (Or.inr ⟨by rfl, rfl⟩) ?_ ?_
                 rotate_left
                 ·exact apr
                 refine pu_ 28 90 HT_ ?_
                 refine pu_ 29 91 HT_ ?_
                 refine done_ (done_of HT_.out (by kernel_rfl)) ?_
                 try go_wp2
                 go_roundg k3
                 case measure => have := HK1.out; have := HK2.out; have := HK3.out; omega
                 case rel => exact ⟨(x11_3), (wrap64 (x11_3 + 1)), rq, rq, H', ⟨by have := HK1.out; have := HK2.out; have := HK3.out; omega⟩, ⟨by (with_reducible repeat (first | apply Kd.R_alloc | apply Kd.R_drewN | apply Kd.R_drew)); exact HO_6.out⟩, ⟨by (with_reducible repeat (first | apply Kd.R_alloc | apply Kd.R_drewN | apply Kd.R_drew)); exact HO_9.out⟩, ⟨bnw⟩⟩
                ·rw [if_neg c32] at H
                 have c32b0 : decide (x10_3 < 0) = false := decide_eq_false c32
                 clear c32
                 replace H := bnd H
                 obtain ⟨t199, A35, H⟩ := H
                 by_cases c36 : t182 = 0
                 ·rw [if_pos c36] at H
                  exact absurd H (by simp)
                 ·rw [if_neg c36] at H
                  have c36b0 : (t182 == 0) = false := beq_eq_false_iff_ne.mpr c36
                  have c36b1 : (t182 != 0) = true := bne_iff_ne.mpr c36
                  by_cases c37 : 0 ≤ x10_3
                  ·rw [if_pos c37] at H
                   have c37b0 : decide (0 ≤ x10_3) = true := decide_eq_true c37
                   clear c37
                   by_cases c38 : x10_3 < (l0.length : Int)
                   ·rw [if_pos c38] at H
                    have c38b0 : decide (x10_3 < (l0.length : Int)) = true := decide_eq_true c38
                    clear c38
                    replace H := bnd H
                    obtain ⟨t201, A39, H⟩ := H
                    by_cases c40 : (Int.tmod (wrap64 (a1 * t199)) t182) > (Int.tmod (wrap64 (a1 * t201)) t182)
                    ·rw [if_pos c40] at H
                     have c40b0 : decide ((Int.tmod (wrap64 (a1 * t201)) t182) < (Int.tmod (wrap64 (a1 * t199)) t182)) = true := decide_eq_true c40
                     clear c40
                     have H' := Aside0.mk H
                     clear H
                     try go_wp2
                     replace HO_6 := am (Kd.R_drew HO_6.out)
                     replace HO_9 := am (Kd.R_drew HO_9.out)
                     replace HB := am (below_drew1 HB.out)
                     obtain ⟨Ao42, co42, eo42⟩ := Kd.R_slice HO_9.out
                     (first | subst eo42 | (injection eo42 with f1_ f2_ f3_; have f4_ := f1_.symm; have f5_ := f3_.symm; clear f1_ f2_ f3_; subst f4_; subst f5_))
                     have p197 : 0 ≤ (x11_3 : Int) := dta
                     have q197 : x11_3 < (x9_2.length : Int) := dta
                     obtain ⟨ad197, e197, hx197_0⟩ := Kd.at_bool (Kd.R_reads' HO_9.out).2.2 x11_3 p197 q197
                     (try rw [← Nbq28.out] at hx197_0)
                     cases e197
                     replace p197 := eq_true p197
                     replace q197 := eq_true q197
                     have p198 : 0 ≤ (x11_3 : Int) := dta
                     have q198 : x11_3 < (l0.length : Int) := dta
                     obtain ⟨ad198, e198, hx198_0⟩ := Kd.at_int HR0.out x11_3 p198 q198
                     have hw198_0 := hx198_0
                     cases e198
                     replace hx198_0 := (HB.out.cell (World.block_lt_of_cell? w _ hx198_0)).trans hx198_0
                     replace p198 := eq_true p198
                     replace q198 := eq_true q198
                     have p200 : 0 ≤ (x10_3 : Int) := dta
                     have q200 : x10_3 < (l0.length : Int) := dta
                     obtain ⟨ad200, e200, hx200_0⟩ := Kd.at_int HR0.out x10_3 p200 q200
                     have hw200_0 := hx200_0
                     obtain rfl : ad198 = ad200 := (by injection e200)
                     replace hx200_0 := (HB.out.cell (World.block_lt_of_cell? w _ hx200_0)).trans hx200_0
                     replace p200 := eq_true p200
                     replace q200 := eq_true q200
                     refine start_ (n := 30) (S := fun w' => w'.cell? (ad197.add (x11_3).toNat) = some (.bool false) ∧ w'.cell? (ad198.add (x11_3).toNat) = some (.int .i64 (rd l0 x11_3)) ∧ w'.cell? (ad198.add (x10_3).toNat) = some (.int .i64 (rd l0 x10_3))) (ds := []) #[false, false, false, false, false, false, false, false, false, false, false, false, false, false, false, false, false, false, false, false, false, false, false, false, false, false, false, false, false, false] (by kernel_rfl) rfl rfl ⟨hx197_0, ((HB.out.cell (World.block_lt_of_cell? w _ hw198_0)).trans hw198_0), ((HB.out.cell (World.block_lt_of_cell? w _ hw200_0)).trans hw200_0)⟩ (fun hHeld => ?_); refine with_tabW spec_l12Search.tab19 spec_l12Search.bits19 (fun HT_ HW_ => ?_)
                     generalize wr.drew = w41 at HO_6 HO_9 HB hx197_0 hx198_0 hx200_0 hHeld ⊢
                     refine pu_ 0 62 HT_ ?_
                     refine pu_ 1 63 HT_ ?_
                     refine pu_ 2 64 HT_ ?_
                     refine tk_ 3 65 HT_ HW_ hHeld ?_
                     refine pu_ 4 66 HT_ ?_
                     refine pu_ 5 67 HT_ ?_
                     refine pu_ 6 68 HT_ ?_
                     refine pu_ 7 69 HT_ ?_
                     refine pu_ 8 70 HT_ ?_
                     refine pu_ 9 71 HT_ ?_
                     refine pu_ 10 72 HT_ ?_
                     refine pu_ 11 73 HT_ ?_
                     refine pu_ 12 74 HT_ ?_
                     refine pu_ 16 78 HT_ ?_
                     refine pu_ 18 80 HT_ ?_
                     refine pu_ 19 81 HT_ ?_
                     refine pu_ 20 82 HT_ ?_
                     refine pu_ 21 83 HT_ ?_
                     refine pu_ 25 87 HT_ ?_
                     refine tk_ 13 75 HT_ HW_ hHeld ?_
                     refine tk_ 22 84 HT_ HW_ hHeld ?_
                     refine on_ 14 HT_ (fun K hK => ?_)
                     refine gs_ Try.func70 #[.int .i64 (rd l0 x11_3)] ?_
                     with_reducible refine (spec_l1Abs.calls (rd l0 x11_3) t199 _ A35.out).mono ?_
                     rintro e w' ⟨rfl, ⟨nd, rfl⟩⟩
                     refine ⟨_, rfl, ?_⟩
                     refine hK.out _ _ ⟨hHeld.1, ((HB.out.cell (World.block_lt_of_cell? w _ hw198_0)).trans hw198_0), ((HB.out.cell (World.block_lt_of_cell? w _ hw200_0)).trans hw200_0)⟩ (fun hHeld => ?_)
                     clear hK K
                     refine nm_ 76 ?_
                     refine pu_ 15 77 HT_ ?_
                     refine pu_ 17 79 HT_ ?_
                     refine on_ 23 HT_ (fun K hK => ?_)
                     refine gs_ Try.func70 #[.int .i64 (rd l0 x10_3)] ?_
                     with_reducible refine (spec_l1Abs.calls (rd l0 x10_3) t201 _ A39.out).mono ?_
                     rintro e w' ⟨rfl, ⟨nd, rfl⟩⟩
                     refine ⟨_, rfl, ?_⟩
                     refine hK.out _ _ ⟨hHeld.1, ((HB.out.cell (World.block_lt_of_cell? w _ hw198_0)).trans hw198_0), ((HB.out.cell (World.block_lt_of_cell? w _ hw200_0)).trans hw200_0)⟩ (fun hHeld => ?_)
                     clear hK K
                     refine nm_ 85 ?_
                     refine pu_ 24 86 HT_ ?_
                     refine pu_ 26 88 HT_ ?_
                     refine pu_ 27 89 HT_ ?_
                     refine pu_ 28 90 HT_ ?_
                     refine pu_ 29 91 HT_ ?_
                     refine done_ (done_of HT_.out (by kernel_rfl)) ?_
                     try go_wp2
                     go_roundg k3
                     case measure => have := HK1.out; have := HK2.out; have := HK3.out; omega
                     case rel => exact ⟨(x11_3), (wrap64 (x11_3 + 1)), rq, rq, H', ⟨by have := HK1.out; have := HK2.out; have := HK3.out; omega⟩, ⟨by (with_reducible repeat (first | apply Kd.R_alloc | apply Kd.R_drewN | apply Kd.R_drew)); exact HO_6.out⟩, ⟨by (with_reducible repeat (first | apply Kd.R_alloc | apply Kd.R_drewN | apply Kd.R_drew)); exact HO_9.out⟩, ⟨bnw⟩⟩
                    ·rw [if_neg c40] at H
                     have c40b0 : decide ((Int.tmod (wrap64 (a1 * t201)) t182) < (Int.tmod (wrap64 (a1 * t199)) t182)) = false := decide_eq_false c40
                     clear c40
                     have H' := Aside0.mk H
                     clear H
                     try go_wp2
                     replace HO_6 := am (Kd.R_drew HO_6.out)
                     replace HO_9 := am (Kd.R_drew HO_9.out)
                     replace HB := am (below_drew1 HB.out)
                     obtain ⟨Ao44, co44, eo44⟩ := Kd.R_slice HO_9.out
                     (first | subst eo44 | (injection eo44 with f1_ f2_ f3_; have f4_ := f1_.symm; have f5_ := f3_.symm; clear f1_ f2_ f3_; subst f4_; subst f5_))
                     have p197 : 0 ≤ (x11_3 : Int) := dta
                     have q197 : x11_3 < (x9_2.length : Int) := dta
                     obtain ⟨ad197, e197, hx197_0⟩ := Kd.at_bool (Kd.R_reads' HO_9.out).2.2 x11_3 p197 q197
                     (try rw [← Nbq28.out] at hx197_0)
                     cases e197
                     replace p197 := eq_true p197
                     replace q197 := eq_true q197
                     have p198 : 0 ≤ (x11_3 : Int) := dta
                     have q198 : x11_3 < (l0.length : Int) := dta
                     obtain ⟨ad198, e198, hx198_0⟩ := Kd.at_int HR0.out x11_3 p198 q198
                     have hw198_0 := hx198_0
                     cases e198
                     replace hx198_0 := (HB.out.cell (World.block_lt_of_cell? w _ hx198_0)).trans hx198_0
                     replace p198 := eq_true p198
                     replace q198 := eq_true q198
                     have p200 : 0 ≤ (x10_3 : Int) := dta
                     have q200 : x10_3 < (l0.length : Int) := dta
                     obtain ⟨ad200, e200, hx200_0⟩ := Kd.at_int HR0.out x10_3 p200 q200
                     have hw200_0 := hx200_0
                     obtain rfl : ad198 = ad200 := (by injection e200)
                     replace hx200_0 := (HB.out.cell (World.block_lt_of_cell? w _ hx200_0)).trans hx200_0
                     replace p200 := eq_true p200
                     replace q200 := eq_true q200
                     refine start_ (n := 30) (S := fun w' => w'.cell? (ad197.add (x11_3).toNat) = some (.bool false) ∧ w'.cell? (ad198.add (x11_3).toNat) = some (.int .i64 (rd l0 x11_3)) ∧ w'.cell? (ad198.add (x10_3).toNat) = some (.int .i64 (rd l0 x10_3))) (ds := []) #[false, false, false, false, false, false, false, false, false, false, false, false, false, false, false, false, false, false, false, false, false, false, false, false, false, false, false, false, false, false] (by kernel_rfl) rfl rfl ⟨hx197_0, ((HB.out.cell (World.block_lt_of_cell? w _ hw198_0)).trans hw198_0), ((HB.out.cell (World.block_lt_of_cell? w _ hw200_0)).trans hw200_0)⟩ (fun hHeld => ?_); refine with_tabW spec_l12Search.tab19 spec_l12Search.bits19 (fun HT_ HW_ => ?_)
                     generalize wr.drew = w43 at HO_6 HO_9 HB hx197_0 hx198_0 hx200_0 hHeld ⊢
                     refine pu_ 0 62 HT_ ?_
                     refine pu_ 1 63 HT_ ?_
                     refine pu_ 2 64 HT_ ?_
                     refine tk_ 3 65 HT_ HW_ hHeld ?_
                     refine pu_ 4 66 HT_ ?_
                     refine pu_ 5 67 HT_ ?_
                     refine pu_ 6 68 HT_ ?_
                     refine pu_ 7 69 HT_ ?_
                     refine pu_ 8 70 HT_ ?_
                     refine pu_ 9 71 HT_ ?_
                     refine pu_ 10 72 HT_ ?_
                     refine pu_ 11 73 HT_ ?_
                     refine pu_ 12 74 HT_ ?_
                     refine pu_ 16 78 HT_ ?_
                     refine pu_ 18 80 HT_ ?_
                     refine pu_ 19 81 HT_ ?_
                     refine pu_ 20 82 HT_ ?_
                     refine pu_ 21 83 HT_ ?_
                     refine pu_ 25 87 HT_ ?_
                     refine tk_ 13 75 HT_ HW_ hHeld ?_
                     refine tk_ 22 84 HT_ HW_ hHeld ?_
                     refine on_ 14 HT_ (fun K hK => ?_)
                     refine gs_ Try.func70 #[.int .i64 (rd l0 x11_3)] ?_
                     with_reducible refine (spec_l1Abs.calls (rd l0 x11_3) t199 _ A35.out).mono ?_
                     rintro e w' ⟨rfl, ⟨nd, rfl⟩⟩
                     refine ⟨_, rfl, ?_⟩
                     refine hK.out _ _ ⟨hHeld.1, ((HB.out.cell (World.block_lt_of_cell? w _ hw198_0)).trans hw198_0), ((HB.out.cell (World.block_lt_of_cell? w _ hw200_0)).trans hw200_0)⟩ (fun hHeld => ?_)
                     clear hK K
                     refine nm_ 76 ?_
                     refine pu_ 15 77 HT_ ?_
                     refine pu_ 17 79 HT_ ?_
                     refine on_ 23 HT_ (fun K hK => ?_)
                     refine gs_ Try.func70 #[.int .i64 (rd l0 x10_3)] ?_
                     with_reducible refine (spec_l1Abs.calls (rd l0 x10_3) t201 _ A39.out).mono ?_
                     rintro e w' ⟨rfl, ⟨nd, rfl⟩⟩
                     refine ⟨_, rfl, ?_⟩
                     refine hK.out _ _ ⟨hHeld.1, ((HB.out.cell (World.block_lt_of_cell? w _ hw198_0)).trans hw198_0), ((HB.out.cell (World.block_lt_of_cell? w _ hw200_0)).trans hw200_0)⟩ (fun hHeld => ?_)
                     clear hK K
                     refine nm_ 85 ?_
                     refine pu_ 24 86 HT_ ?_
                     refine pu_ 26 88 HT_ ?_
                     refine pu_ 27 89 HT_ ?_
                     refine pu_ 28 90 HT_ ?_
                     refine pu_ 29 91 HT_ ?_
                     refine done_ (done_of HT_.out (by kernel_rfl)) ?_
                     try go_wp2
                     go_roundg k3
                     case measure => have := HK1.out; have := HK2.out; have := HK3.out; omega
                     case rel => exact ⟨(x10_3), (wrap64 (x11_3 + 1)), rq, rq, H', ⟨by have := HK1.out; have := HK2.out; have := HK3.out; omega⟩, ⟨by (with_reducible repeat (first | apply Kd.R_alloc | apply Kd.R_drewN | apply Kd.R_drew)); exact HO_6.out⟩, ⟨by (with_reducible repeat (first | apply Kd.R_alloc | apply Kd.R_drewN | apply Kd.R_drew)); exact HO_9.out⟩, ⟨bnw⟩⟩
                   ·rw [if_neg c38] at H
                    exact absurd H (by simp)
                  ·rw [if_neg c37] at H
                   exact absurd H (by simp)
              ·rw [if_neg c27] at H
               exact absurd H (by simp)
             ·rw [if_neg c26] at H
              exact absurd H (by simp)
            ·rw [if_neg c25] at H
             have c25b0 : decide (x11_3 < (l0.length : Int)) = false := decide_eq_false c25
             clear c25
             by_cases c45 : x10_3 ≥ 0
             ·rw [if_pos c45] at H
              have c45b0 : decide (0 ≤ x10_3) = true := decide_eq_true c45
              clear c45
              by_cases c46 : 0 ≤ x10_3
              ·rw [if_pos c46] at H
               have c46b0 : decide (0 ≤ x10_3) = true := decide_eq_true c46
               clear c46
               by_cases c47 : x10_3 < (x9_2.length : Int)
               ·rw [if_pos c47] at H
                have c47b0 : decide (x10_3 < (x9_2.length : Int)) = true := decide_eq_true c47
                clear c47
                obtain ⟨y194, hy194⟩ : ∃ y_ : List Bool, y_ = (x9_2.set (x10_3 : Int).toNat true) := ⟨_, rfl⟩
                replace H : (if x10_3 < (x6_2.length : Int) then (spec_l12Search.l1 k3 l0 a1 t182 (x6_2.set (x10_3 : Int).toNat (wrap64 ((rd x6_2 x10_3) + 1))) (wrap64 (x7_2 - 1)) y194) else (none)) = some r := by first | (rw [hy194]; with_reducible exact H) | (have H2_ := (Option.bind_some _ _).symm.trans H; rw [hy194]; with_reducible exact H2_) | (have H2_ := (Option.bind_some _ _).symm.trans H; with_reducible exact H2_) | with_reducible exact H | (rw [hy194]; exact H) | exact H
                have Ny194 := Aside0.mk hy194
                clear hy194
                by_cases c49 : x10_3 < (x6_2.length : Int)
                ·rw [if_pos c49] at H
                 have c49b0 : decide (x10_3 < (x6_2.length : Int)) = true := decide_eq_true c49
                 clear c49
                 obtain ⟨y196, hy196⟩ : ∃ y_ : List Int, y_ = (x6_2.set (x10_3 : Int).toNat (wrap64 ((rd x6_2 x10_3) + 1))) := ⟨_, rfl⟩
                 replace H : (spec_l12Search.l1 k3 l0 a1 t182 y196 (wrap64 (x7_2 - 1)) y194) = some r := by first | (rw [hy196]; with_reducible exact H) | (have H2_ := (Option.bind_some _ _).symm.trans H; rw [hy196]; with_reducible exact H2_) | (have H2_ := (Option.bind_some _ _).symm.trans H; with_reducible exact H2_) | with_reducible exact H | (rw [hy196]; exact H) | exact H
                 have Ny196 := Aside0.mk hy196
                 clear hy196
                 have H' := Aside0.mk H
                 clear H
                 have p48 : 0 ≤ (x10_3 : Int) := dta
                 have q48 : (x10_3 : Int) < ((x9_2.length : Int) : Int) := dta
                 obtain ⟨go48, co48, eo48, gb48, gl48, cl48, HG48⟩ := Kd.R_form HO_9.out (by omega)
                 (first | cases eo48 | (injection eo48 with ea_ en_ ec_; (first | subst ea_ | (injection ea_ with ea_; subst ea_)); subst ec_; clear en_))
                 have GB48 := Aside0.mk gb48
                 have GG48 := Aside0.mk HG48
                 clear gb48 gl48 HG48
                 obtain ⟨hx48_0, hf48_0⟩ := Kd.R_celln false HO_9.out (x10_3 : Int) p48 q48
                 replace p48 := eq_true p48
                 replace q48 := eq_true q48
                 have HP51 := Kd.R_putg HO_9.out (x10_3 : Int) true
                 go_wp2_with (first | ((with_reducible refine gate_store (t := 4) (p := 97) rfl ?_); refine store_event (t := 4) (p := 97) (v := ?vo_w52) (w1 := (wr.setCell ⟨go48, (x10_3 : Int).toNat, none⟩ (.bool true))) ?hg ?ho ?hn ?hr ?_; (case ho => rfl); (case hg => rfl); (case hn => rfl); (case hr => first | (go_simp; done) | (go_simp; rfl)); intro w52 hw; have hg : wr.grownBy w52 (some go48) := (by rw [hw]; exact HP51.2); have hp_ : Kd.R Kd.bool 4 w52 w.heap.size (fun _ => True) (.slice (some ⟨go48, 0, none⟩) x9_2.length co48) y194 := (by rw [hw, Ny194.out]; exact HP51.1); clear HP51; replace HO_6 := am (Kd.R_over' (v := (.slice (some ⟨go48, 0, none⟩) x9_2.length co48)) (rpl HO_6.out) (Kd.R_typed HO_9.out) (by decide) hg); replace HO_9 := am hp_; replace HB := am (by rw [hw]; exact below_set (HB.out) GB48.out : Below w.heap.size w w52); clear hg hw hp_; obtain ⟨Ao53, co53, eo53⟩ := Kd.R_slice HO_6.out; subst eo53; have p195 : 0 ≤ (x10_3 : Int) := dta; have q195 : x10_3 < (x6_2.length : Int) := dta; obtain ⟨ad195, e195, hx195_0⟩ := Kd.at_int (Kd.R_reads' HO_6.out).2.2 x10_3 p195 q195; cases e195; replace p195 := eq_true p195; replace q195 := eq_true q195; have p50 : 0 ≤ (x10_3 : Int) := dta; have q50 : (x10_3 : Int) < ((x6_2.length : Int) : Int) := dta; obtain ⟨go50, co50, eo50, gb50, gl50, cl50, HG50⟩ := Kd.R_form HO_6.out (by omega); (first | cases eo50 | (injection eo50 with ea_ en_ ec_; (first | subst ea_ | (injection ea_ with ea_; subst ea_)); subst ec_; clear en_)); have GB50 := Aside0.mk gb50; have GG50 := Aside0.mk HG50; clear gb50 gl50 HG50; (first | simp only [add_plain] at hx195_0 | skip); obtain ⟨hx50_0, hf50_0⟩ := Kd.R_celln 0 HO_6.out (x10_3 : Int) p50 q50; replace p50 := eq_true p50; replace q50 := eq_true q50; obtain ⟨hy54_, hz54_⟩ := Kd.R_celln 0 HO_6.out (x10_3 : Int) (dta) (dta); have HP54 := Kd.R_putg HO_6.out (x10_3 : Int) (wrap64 ((rd x6_2 x10_3) + 1))) | ((with_reducible refine gate_store (t := 2) (p := 103) rfl ?_); refine store_event (t := 2) (p := 103) (v := ?vo_w55) (w1 := (w52.setCell ⟨go50, (x10_3 : Int).toNat, none⟩ (.int .i64 (wrap64 ((rd x6_2 x10_3) + 1))))) ?hg ?ho ?hn ?hr ?_; (case ho => rfl); (case hg => rfl); (case hn => rfl); (case hr => first | (go_simp; done) | (go_simp; rfl)); intro w55 hw; have hg : w52.grownBy w55 (some go50) := (by rw [hw]; exact HP54.2); have hp_ : Kd.R (Kd.int .i64) 2 w55 w.heap.size (fun _ => True) (.slice (some ⟨go50, 0, none⟩) x6_2.length co53) y196 := (by rw [hw, Ny196.out]; exact HP54.1); clear HP54; replace HO_9 := am (Kd.R_over' (v := (.slice (some ⟨go50, 0, none⟩) x6_2.length co53)) (rpl HO_9.out) (Kd.R_typed HO_6.out) (by decide) hg); replace HO_6 := am hp_; replace HB := am (by rw [hw]; exact below_set (HB.out) GB50.out : Below w.heap.size w w55); clear hg hw hp_))
                 go_roundg k3
                 case measure => have := HK1.out; have := HK2.out; have := HK3.out; omega
                 case rel => exact ⟨(y196), (wrap64 (x7_2 - 1)), (y194), rq, H', ⟨by have := HK1.out; have := HK2.out; have := HK3.out; omega⟩, ⟨by (with_reducible repeat (first | apply Kd.R_alloc | apply Kd.R_drewN | apply Kd.R_drew)); exact HO_6.out⟩, ⟨by (with_reducible repeat (first | apply Kd.R_alloc | apply Kd.R_drewN | apply Kd.R_drew)); exact HO_9.out⟩, ⟨bnw⟩⟩
                ·rw [if_neg c49] at H
                 exact absurd H (by simp)
               ·rw [if_neg c47] at H
                exact absurd H (by simp)
              ·rw [if_neg c46] at H
               exact absurd H (by simp)
             ·rw [if_neg c45] at H
              have c45b0 : decide (0 ≤ x10_3) = false := decide_eq_false c45
              clear c45
              have H' := Aside0.mk H
              clear H
              go_wp2
              go_roundg k3
              case measure => have := HK1.out; have := HK2.out; have := HK3.out; omega
              case rel => exact ⟨(x6_2), (wrap64 (x7_2 - 1)), (x9_2), rq, H', ⟨by have := HK1.out; have := HK2.out; have := HK3.out; omega⟩, ⟨by (with_reducible repeat (first | apply Kd.R_alloc | apply Kd.R_drewN | apply Kd.R_drew)); exact HO_6.out⟩, ⟨by (with_reducible repeat (first | apply Kd.R_alloc | apply Kd.R_drewN | apply Kd.R_drew)); exact HO_9.out⟩, ⟨bnw⟩⟩
         ·rw [if_neg c24] at H
          have c24b0 : decide (0 < x7_2) = false := decide_eq_false c24
          clear c24
          have H' := Aside0.mk H
          clear H
          go_wp2
          go_loopg [12] k2 (fun kq v12 w' => ∃ (x6_3 : List Int) (x12_3 : Int), v12 = .int .i64 x12_3 ∧ Aside0 (spec_l12Search.l3 kq l0 x6_3 x12_3 = some r) ∧ Aside0 (kq ≤ k2) ∧ Aside0 (Kd.R (Kd.int .i64) 2 w' w.heap.size (fun _ => True) v184 x6_3) ∧ Aside0 (Below w.heap.size w w'))
          case atStart => exact ⟨(x6_2), (0), rq, H', ⟨Nat.le_refl _⟩, ⟨by (with_reducible repeat (first | apply Kd.R_alloc | apply Kd.R_drewN | apply Kd.R_drew)); exact HO_6.out⟩, ⟨bnw⟩⟩
          case round =>
           clear H'
           try clear p1
           try clear q1
           try clear hx1
           try clear c2
           try clear p2
           try clear q2
           try clear hx2
           try clear c3
           try clear c4
           try clear p4
           try clear q4
           try clear hx4
           try clear hf4
           try clear p5
           try clear q5
           try clear hx5
           try clear hf5
           try clear p6
           try clear c7
           try clear p19
           try clear q19
           try clear hx19
           try clear p20
           try clear q20
           try clear hx20
           try clear c24
           try clear c24b0
           try clear c25
           try clear c25b0
           try clear c26
           try clear c27
           try clear q28
           try clear c37
           try clear c38
           try clear c40
           try clear c40b0
           try clear c45
           try clear c45b0
           try clear c46
           try clear c46b0
           try clear c47
           try clear c47b0
           try clear p48
           try clear q48
           try clear hx48
           try clear hf48
           try clear c49
           try clear c49b0
           try clear p50
           try clear q50
           try clear hx50
           try clear hf50
           try clear hx195_0
           try clear hx197_0
           try clear hx198_0
           try clear hx200_0
           try clear hx48_0
           try clear hx50_0
           try clear p195
           try clear p197
           try clear p198
           try clear p200
           try clear p48
           try clear p50
           try clear q195
           try clear q197
           try clear q198
           try clear q200
           try clear q48
           try clear q50
           obtain ⟨x6_3, x12_3, rfl, HA, HK3, HO_6, HB⟩ := hrel
           cases gk with
           | zero => exact absurd HA.out (by simp [spec_l12Search.l3])
           | succ k3 =>
            have H := HA.out
            clear HA
            simp only [spec_l12Search.l3] at H
            by_cases c56 : x12_3 < (l0.length : Int)
            ·rw [if_pos c56] at H
             have c56b0 : decide (x12_3 < (l0.length : Int)) = true := decide_eq_true c56
             clear c56
             by_cases c57 : 0 ≤ x12_3
             ·rw [if_pos c57] at H
              have c57b0 : decide (0 ≤ x12_3) = true := decide_eq_true c57
              clear c57
              by_cases c58 : (rd l0 x12_3) < 0
              ·rw [if_pos c58] at H
               have c58b0 : decide ((rd l0 x12_3) < 0) = true := decide_eq_true c58
               clear c58
               by_cases c59 : x12_3 < (x6_3.length : Int)
               ·rw [if_pos c59] at H
                have c59b0 : decide (x12_3 < (x6_3.length : Int)) = true := decide_eq_true c59
                clear c59
                obtain ⟨y204, hy204⟩ : ∃ y_ : List Int, y_ = (x6_3.set (x12_3 : Int).toNat (wrap64 (-(rd x6_3 x12_3)))) := ⟨_, rfl⟩
                replace H : (spec_l12Search.l3 k3 l0 y204 (wrap64 (x12_3 + 1))) = some r := by first | (rw [hy204]; with_reducible exact H) | (have H2_ := (Option.bind_some _ _).symm.trans H; rw [hy204]; with_reducible exact H2_) | (have H2_ := (Option.bind_some _ _).symm.trans H; with_reducible exact H2_) | with_reducible exact H | (rw [hy204]; exact H) | exact H
                have Ny204 := Aside0.mk hy204
                clear hy204
                have H' := Aside0.mk H
                clear H
                have p202 : 0 ≤ (x12_3 : Int) := dta
                have q202 : x12_3 < (l0.length : Int) := dta
                obtain ⟨ad202, e202, hx202_0⟩ := Kd.at_int HR0.out x12_3 p202 q202
                cases e202
                replace hx202_0 := (HB.out.cell (World.block_lt_of_cell? w _ hx202_0)).trans hx202_0
                replace p202 := eq_true p202
                replace q202 := eq_true q202
                obtain ⟨Ao61, co61, eo61⟩ := Kd.R_slice HO_6.out
                subst eo61
                have p203 : 0 ≤ (x12_3 : Int) := dta
                have q203 : x12_3 < (x6_3.length : Int) := dta
                obtain ⟨ad203, e203, hx203_0⟩ := Kd.at_int (Kd.R_reads' HO_6.out).2.2 x12_3 p203 q203
                cases e203
                replace p203 := eq_true p203
                replace q203 := eq_true q203
                have p60 : 0 ≤ (x12_3 : Int) := dta
                have q60 : (x12_3 : Int) < ((x6_3.length : Int) : Int) := dta
                obtain ⟨go60, co60, eo60, gb60, gl60, cl60, HG60⟩ := Kd.R_form HO_6.out (by omega)
                (first | cases eo60 | (injection eo60 with ea_ en_ ec_; (first | subst ea_ | (injection ea_ with ea_; subst ea_)); subst ec_; clear en_))
                have GB60 := Aside0.mk gb60
                have GG60 := Aside0.mk HG60
                clear gb60 gl60 HG60
                (first | simp only [add_plain] at hx203_0 | skip)
                obtain ⟨hx60_0, hf60_0⟩ := Kd.R_celln 0 HO_6.out (x12_3 : Int) p60 q60
                replace p60 := eq_true p60
                replace q60 := eq_true q60
                have HP62 := Kd.R_putg HO_6.out (x12_3 : Int) (wrap64 (-(rd x6_3 x12_3)))
                go_wp2_with (first | ((with_reducible refine gate_store (t := 2) (p := 122) rfl ?_); refine store_event (t := 2) (p := 122) (v := ?vo_w63) (w1 := (wr.setCell ⟨go60, (x12_3 : Int).toNat, none⟩ (.int .i64 (wrap64 (-(rd x6_3 x12_3)))))) ?hg ?ho ?hn ?hr ?_; (case ho => rfl); (case hg => rfl); (case hn => rfl); (case hr => first | (go_simp; done) | (go_simp; rfl)); intro w63 hw; have hg : wr.grownBy w63 (some go60) := (by rw [hw]; exact HP62.2); have hp_ : Kd.R (Kd.int .i64) 2 w63 w.heap.size (fun _ => True) (.slice (some ⟨go60, 0, none⟩) x6_3.length co61) y204 := (by rw [hw, Ny204.out]; exact HP62.1); clear HP62; replace HO_6 := am hp_; replace HB := am (by rw [hw]; exact below_set (HB.out) GB60.out : Below w.heap.size w w63); clear hg hw hp_))
                go_roundg k3
                case measure => have := HK1.out; have := HK2.out; have := HK3.out; omega
                case rel => exact ⟨(y204), (wrap64 (x12_3 + 1)), rq, H', ⟨by have := HK1.out; have := HK2.out; have := HK3.out; omega⟩, ⟨by (with_reducible repeat (first | apply Kd.R_alloc | apply Kd.R_drewN | apply Kd.R_drew)); exact HO_6.out⟩, ⟨bnw⟩⟩
               ·rw [if_neg c59] at H
                exact absurd H (by simp)
              ·rw [if_neg c58] at H
               have c58b0 : decide ((rd l0 x12_3) < 0) = false := decide_eq_false c58
               clear c58
               have H' := Aside0.mk H
               clear H
               have p202 : 0 ≤ (x12_3 : Int) := dta
               have q202 : x12_3 < (l0.length : Int) := dta
               obtain ⟨ad202, e202, hx202_0⟩ := Kd.at_int HR0.out x12_3 p202 q202
               cases e202
               replace hx202_0 := (HB.out.cell (World.block_lt_of_cell? w _ hx202_0)).trans hx202_0
               replace p202 := eq_true p202
               replace q202 := eq_true q202
               go_wp2
               go_roundg k3
               case measure => have := HK1.out; have := HK2.out; have := HK3.out; omega
               case rel => exact ⟨(x6_3), (wrap64 (x12_3 + 1)), rq, H', ⟨by have := HK1.out; have := HK2.out; have := HK3.out; omega⟩, ⟨by (with_reducible repeat (first | apply Kd.R_alloc | apply Kd.R_drewN | apply Kd.R_drew)); exact HO_6.out⟩, ⟨bnw⟩⟩
             ·rw [if_neg c57] at H
              exact absurd H (by simp)
            ·rw [if_neg c56] at H
             have c56b0 : decide (x12_3 < (l0.length : Int)) = false := decide_eq_false c56
             clear c56
             obtain rfl := Option.some.inj H
             go_wp2
             go_ret
             exact ⟨_, enq, by (with_reducible repeat (first | apply Kd.R_alloc | apply Kd.R_drewN | apply Kd.R_drew)); exact HO_6.out, bnw⟩
      ·rw [if_neg c21] at H
       exact absurd H (by simp)
     ·rw [if_neg c20] at H
      exact absurd H (by simp)

end Go.Proofs.Ythehhncokikgcaa.PFnExactMakeFrame
