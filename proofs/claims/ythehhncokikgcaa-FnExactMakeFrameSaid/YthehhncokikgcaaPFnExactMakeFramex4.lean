-- Contracts of the functions that the law reaches, written by wip/xprint.py of this repo.
import Derived.Test.YthehhncokikgcaaPFnExactMakeFramex0
import Derived.Test.YthehhncokikgcaaPFnExactMakeFramex1
import Derived.Test.YthehhncokikgcaaPFnExactMakeFramex2
namespace Go.Proofs.Ythehhncokikgcaa.PFnExactMakeFrame
open Go.RowKit Go.Proofs.YthehhncokikgcaaW.PrintWords Go.Proofs.YthehhncokikgcaaW.PrintLast Go.Proofs.YthehhncokikgcaaW.PrintMore
attribute [local go_sem] max2_int min2_int max_two min_two max_three min_three max_four min_four   -- for this text's walks alone
set_option linter.unusedVariables false
set_option linter.unusedSimpArgs false

/-! ### spec_l6Ask: function 65 -/
def spec_l6Ask.f (k : Nat) (l0 : List Int) (a1 : Int) : Option (Int) := (spec_SizeFault.f (l0.length : Int)).bind fun t152 => (if t152 = 0 then ((spec_l1All.f k l0 (wrap64 (-a1)) a1).bind fun t153 => (if t153 = true then (some 0) else (some 3))) else (some 2))
theorem spec_l6Ask.mono : ∀ a0 a1 k, LeO (spec_l6Ask.f k a0 a1) (spec_l6Ask.f (k + 1) a0 a1) := by
 intro a0 a1 k
 unfold spec_l6Ask.f
 repeat' first
   | (with_reducible exact spec_l1All.mono _ _ _ _)
   | (with_reducible exact LeO.refl _)
   | (with_reducible exact LeO.none _)
   | (with_reducible refine LeO.ite ?_ ?_)
   | (with_reducible refine LeO.bind ?_ (fun _ => ?_))
   | exact spec_l1All.mono _ _ _ _
   | exact LeO.none _
   | refine LeO.ite ?_ ?_
   | refine LeO.bind ?_ (fun _ => ?_)
set_option maxHeartbeats 8000000 in
set_option maxRecDepth 100000 in
theorem spec_l6Ask.calls (k : Nat) (A0 : Option Addr) (c0 : Nat) (l0 : List Int) (a1 : Int) (r : Int) (w : World) (hr0 : Kd.C (Kd.int .i64) w A0 l0.length l0) (hc0 : l0.length ≤ c0) (h : spec_l6Ask.f k l0 a1 = some r) :
  Calls Try.prog 65 #[.slice A0 l0.length c0, .int .i64 a1] w fun e w' => e = .returned (.int .i64 r) ∧ Drawn0 w w' := by
 have HR0 := Aside0.mk hr0
 have HC0 := Aside0.mk hc0
 clear hr0 hc0
 have H : ((spec_SizeFault.f (l0.length : Int)).bind fun t152 => (if t152 = 0 then ((spec_l1All.f k l0 (wrap64 (-a1)) a1).bind fun t153 => (if t153 = true then (some 0) else (some 3))) else (some 2))) = some r := h
 clear h
 replace H := bnd H
 obtain ⟨t152, A3, H⟩ := H
 by_cases c4 : t152 = 0
 ·rw [if_pos c4] at H
  have c4b0 : (t152 == 0) = true := beq_iff_eq.mpr c4
  have c4b1 : (t152 != 0) = false := bne_eq_false_iff_eq.mpr c4
  clear c4
  replace H := bnd H
  obtain ⟨t153, A5, H⟩ := H
  by_cases c6 : t153 = true
  ·subst c6
   replace H : (some 0) = some r := by rw [if_pos rfl] at H; exact H
   obtain rfl := Option.some.inj H
   go_enter Try.func65, Try.ntmps65
   go_wp2_with (first | ((with_reducible refine gate_callee (f := 132) rfl ?_); refine gl_ 7 Try.func132 #[.int .i64 (l0.length : Int)] ?_; (with_reducible refine (spec_SizeFault.calls (l0.length : Int) t152 _ A3.out).mono ?_); rintro e w' ⟨rfl, ⟨nd, rfl⟩⟩; refine ⟨_, rfl, ?_⟩) | ((with_reducible refine gate_callee (f := 133) rfl ?_); refine gl_ 13 Try.func133 #[.slice A0 l0.length c0, .int .i64 (wrap64 (-a1)), .int .i64 a1] ?_; (with_reducible refine (spec_l1All.calls k _ _ l0 (wrap64 (-a1)) a1 true _ ?side1 ?side2 A5.out).mono ?_); (case side1 => repeat (first | exact HR0.out | (with_reducible refine Kd.C_alloc ?_ _) | (with_reducible refine Kd.C_drewN ?_ _) | (with_reducible refine Kd.C_drew ?_))); (case side2 => exact HC0.out); rintro e w' ⟨rfl, ⟨nd, rfl⟩⟩; refine ⟨_, rfl, ?_⟩))
   go_ret
   exact dsq
  ·replace c6 := Bool.eq_false_iff.mpr c6
   subst c6
   replace H : (some 3) = some r := by rw [if_neg (show ¬ (false = true) by decide)] at H; exact H
   obtain rfl := Option.some.inj H
   go_enter Try.func65, Try.ntmps65
   go_wp2_with (first | ((with_reducible refine gate_callee (f := 132) rfl ?_); refine gl_ 7 Try.func132 #[.int .i64 (l0.length : Int)] ?_; (with_reducible refine (spec_SizeFault.calls (l0.length : Int) t152 _ A3.out).mono ?_); rintro e w' ⟨rfl, ⟨nd, rfl⟩⟩; refine ⟨_, rfl, ?_⟩) | ((with_reducible refine gate_callee (f := 133) rfl ?_); refine gl_ 13 Try.func133 #[.slice A0 l0.length c0, .int .i64 (wrap64 (-a1)), .int .i64 a1] ?_; (with_reducible refine (spec_l1All.calls k _ _ l0 (wrap64 (-a1)) a1 false _ ?side1 ?side2 A5.out).mono ?_); (case side1 => repeat (first | exact HR0.out | (with_reducible refine Kd.C_alloc ?_ _) | (with_reducible refine Kd.C_drewN ?_ _) | (with_reducible refine Kd.C_drew ?_))); (case side2 => exact HC0.out); rintro e w' ⟨rfl, ⟨nd, rfl⟩⟩; refine ⟨_, rfl, ?_⟩))
   go_ret
   exact dsq
 ·rw [if_neg c4] at H
  have c4b0 : (t152 == 0) = false := beq_eq_false_iff_ne.mpr c4
  have c4b1 : (t152 != 0) = true := bne_iff_ne.mpr c4
  obtain rfl := Option.some.inj H
  go_enter Try.func65, Try.ntmps65
  go_wp2_with (first | ((with_reducible refine gate_callee (f := 132) rfl ?_); refine gl_ 7 Try.func132 #[.int .i64 (l0.length : Int)] ?_; (with_reducible refine (spec_SizeFault.calls (l0.length : Int) t152 _ A3.out).mono ?_); rintro e w' ⟨rfl, ⟨nd, rfl⟩⟩; refine ⟨_, rfl, ?_⟩))
  go_ret
  exact dsq

/-! ### spec_l13Coefs: function 105 -/
def spec_l13Coefs.f (k : Nat) (a0 : Int) (l1 : List Int) : Option (Int) := (spec_SizeFault.f a0).bind fun t154 => (if t154 = 0 then (if (l1.length : Int) = a0 then ((spec_l6Ask.f k l1 16777216).bind fun t155 => (some t155)) else (some 2)) else (some t154))
theorem spec_l13Coefs.mono : ∀ a0 a1 k, LeO (spec_l13Coefs.f k a0 a1) (spec_l13Coefs.f (k + 1) a0 a1) := by
 intro a0 a1 k
 unfold spec_l13Coefs.f
 repeat' first
   | (with_reducible exact spec_l6Ask.mono _ _ _)
   | (with_reducible exact LeO.refl _)
   | (with_reducible exact LeO.none _)
   | (with_reducible refine LeO.ite ?_ ?_)
   | (with_reducible refine LeO.bind ?_ (fun _ => ?_))
   | exact spec_l6Ask.mono _ _ _
   | exact LeO.none _
   | refine LeO.ite ?_ ?_
   | refine LeO.bind ?_ (fun _ => ?_)
set_option maxHeartbeats 8000000 in
set_option maxRecDepth 100000 in
theorem spec_l13Coefs.calls (k : Nat) (a0 : Int) (A1 : Option Addr) (c1 : Nat) (l1 : List Int) (r : Int) (w : World) (hr1 : Kd.C (Kd.int .i64) w A1 l1.length l1) (hc1 : l1.length ≤ c1) (h : spec_l13Coefs.f k a0 l1 = some r) :
  Calls Try.prog 105 #[.int .i64 a0, .slice A1 l1.length c1] w fun e w' => e = .returned (.int .i64 r) ∧ Drawn0 w w' := by
 have HR1 := Aside0.mk hr1
 have HC1 := Aside0.mk hc1
 clear hr1 hc1
 have H : ((spec_SizeFault.f a0).bind fun t154 => (if t154 = 0 then (if (l1.length : Int) = a0 then ((spec_l6Ask.f k l1 16777216).bind fun t155 => (some t155)) else (some 2)) else (some t154))) = some r := h
 clear h
 replace H := bnd H
 obtain ⟨t154, A3, H⟩ := H
 by_cases c4 : t154 = 0
 ·rw [if_pos c4] at H
  have c4b0 : (t154 == 0) = true := beq_iff_eq.mpr c4
  have c4b1 : (t154 != 0) = false := bne_eq_false_iff_eq.mpr c4
  clear c4
  by_cases c5 : (l1.length : Int) = a0
  ·rw [if_pos c5] at H
   have c5b0 : ((l1.length : Int) == a0) = true := beq_iff_eq.mpr c5
   have c5b1 : ((l1.length : Int) != a0) = false := bne_eq_false_iff_eq.mpr c5
   clear c5
   replace H := bnd H
   obtain ⟨t155, A6, H⟩ := H
   obtain rfl := Option.some.inj H
   go_enter Try.func105, Try.ntmps105
   go_wp2_with (first | ((with_reducible refine gate_callee (f := 132) rfl ?_); refine gl_ 7 Try.func132 #[.int .i64 a0] ?_; (with_reducible refine (spec_SizeFault.calls a0 t154 _ A3.out).mono ?_); rintro e w' ⟨rfl, ⟨nd, rfl⟩⟩; refine ⟨_, rfl, ?_⟩) | ((with_reducible refine gate_callee (f := 65) rfl ?_); refine gl_ 16 Try.func65 #[.slice A1 l1.length c1, .int .i64 16777216] ?_; (with_reducible refine (spec_l6Ask.calls k _ _ l1 16777216 t155 _ ?side1 ?side2 A6.out).mono ?_); (case side1 => repeat (first | exact HR1.out | (with_reducible refine Kd.C_alloc ?_ _) | (with_reducible refine Kd.C_drewN ?_ _) | (with_reducible refine Kd.C_drew ?_))); (case side2 => exact HC1.out); rintro e w' ⟨rfl, ⟨nd, rfl⟩⟩; refine ⟨_, rfl, ?_⟩))
   go_ret
   exact dsq
  ·rw [if_neg c5] at H
   have c5b0 : ((l1.length : Int) == a0) = false := beq_eq_false_iff_ne.mpr c5
   have c5b1 : ((l1.length : Int) != a0) = true := bne_iff_ne.mpr c5
   obtain rfl := Option.some.inj H
   go_enter Try.func105, Try.ntmps105
   go_wp2_with (first | ((with_reducible refine gate_callee (f := 132) rfl ?_); refine gl_ 7 Try.func132 #[.int .i64 a0] ?_; (with_reducible refine (spec_SizeFault.calls a0 t154 _ A3.out).mono ?_); rintro e w' ⟨rfl, ⟨nd, rfl⟩⟩; refine ⟨_, rfl, ?_⟩))
   go_ret
   exact dsq
 ·rw [if_neg c4] at H
  have c4b0 : (t154 == 0) = false := beq_eq_false_iff_ne.mpr c4
  have c4b1 : (t154 != 0) = true := bne_iff_ne.mpr c4
  obtain rfl := Option.some.inj H
  go_enter Try.func105, Try.ntmps105
  go_wp2_with (first | ((with_reducible refine gate_callee (f := 132) rfl ?_); refine gl_ 7 Try.func132 #[.int .i64 a0] ?_; (with_reducible refine (spec_SizeFault.calls a0 t154 _ A3.out).mono ?_); rintro e w' ⟨rfl, ⟨nd, rfl⟩⟩; refine ⟨_, rfl, ?_⟩))
  go_ret
  exact dsq

/-! ### spec_l13Mask: function 171 -/
def spec_l13Mask.l0 : Nat → Int → Int → Int → Int → Option (Int)
 | 0, _, _, _, _ => none
 | k + 1, x5, x6, x7, x8 => if x7 < 3 then (if (wrap64 (x8 * x6)) < x5 then (spec_l13Mask.l0 k x5 x6 (wrap64 (x7 + 1)) (wrap64 (x8 * 4))) else (some x7)) else (some x7)
def spec_l13Mask.f (k : Nat) (a0 : Int) (l1 : List Int) : Option (Int) := if 0 ≤ (wrap64 (Int.tdiv a0 2)) then (if (wrap64 (Int.tdiv a0 2)) ≤ (l1.length : Int) then ((spec_l1Norm.f k (l1.take ((wrap64 (Int.tdiv a0 2)) : Int).toNat)).bind fun t157 => ((spec_l1Norm.f k (l1.drop ((wrap64 (Int.tdiv a0 2)) : Int).toNat)).bind fun t159 => (spec_l13Mask.l0 k t157 t159 0 4))) else (none)) else (none)
theorem spec_l13Mask.mono_l : ∀ k, (∀ y0 y1 y2 y3, LeO (spec_l13Mask.l0 k y0 y1 y2 y3) (spec_l13Mask.l0 (k + 1) y0 y1 y2 y3))
 | 0 => fun _ _ _ _ r h => by simp [spec_l13Mask.l0] at h
 | k + 1 => by
  have ih0 := spec_l13Mask.mono_l k
  ·intro y0 y1 y2 y3
   unfold spec_l13Mask.l0
   repeat' first
   | (with_reducible exact ih0 _ _ _ _)
   | (with_reducible exact spec_l1Norm.mono _ _)
   | (with_reducible exact LeO.refl _)
   | (with_reducible exact LeO.none _)
   | (with_reducible refine LeO.ite ?_ ?_)
   | (with_reducible refine LeO.bind ?_ (fun _ => ?_))
   | exact ih0 _ _ _ _
   | exact spec_l1Norm.mono _ _
   | exact LeO.none _
   | refine LeO.ite ?_ ?_
   | refine LeO.bind ?_ (fun _ => ?_)
theorem spec_l13Mask.mono : ∀ a0 a1 k, LeO (spec_l13Mask.f k a0 a1) (spec_l13Mask.f (k + 1) a0 a1) := by
 intro a0 a1 k
 have ih0 := spec_l13Mask.mono_l k
 unfold spec_l13Mask.f
 repeat' first
   | (with_reducible exact ih0 _ _ _ _)
   | (with_reducible exact spec_l1Norm.mono _ _)
   | (with_reducible exact LeO.refl _)
   | (with_reducible exact LeO.none _)
   | (with_reducible refine LeO.ite ?_ ?_)
   | (with_reducible refine LeO.bind ?_ (fun _ => ?_))
   | exact ih0 _ _ _ _
   | exact spec_l1Norm.mono _ _
   | exact LeO.none _
   | refine LeO.ite ?_ ?_
   | refine LeO.bind ?_ (fun _ => ?_)
set_option maxHeartbeats 8000000 in
set_option maxRecDepth 100000 in
theorem spec_l13Mask.calls (k : Nat) (a0 : Int) (A1 : Option Addr) (c1 : Nat) (l1 : List Int) (r : Int) (w : World) (hr1 : Kd.C (Kd.int .i64) w A1 l1.length l1) (hc1 : l1.length ≤ c1) (h : spec_l13Mask.f k a0 l1 = some r) :
  Calls Try.prog 171 #[.int .i64 a0, .slice A1 l1.length c1] w fun e w' => e = .returned (.int .i64 r) ∧ Drawn0 w w' := by
 have HR1 := Aside0.mk hr1
 have HC1 := Aside0.mk hc1
 clear hr1 hc1
 have H : (if 0 ≤ (wrap64 (Int.tdiv a0 2)) then (if (wrap64 (Int.tdiv a0 2)) ≤ (l1.length : Int) then ((spec_l1Norm.f k (l1.take ((wrap64 (Int.tdiv a0 2)) : Int).toNat)).bind fun t157 => ((spec_l1Norm.f k (l1.drop ((wrap64 (Int.tdiv a0 2)) : Int).toNat)).bind fun t159 => (spec_l13Mask.l0 k t157 t159 0 4))) else (none)) else (none)) = some r := h
 clear h
 obtain ⟨ji3, hji3⟩ : ∃ j_ : Int, (wrap64 (Int.tdiv a0 2)) = j_ := ⟨_, rfl⟩
 replace H : (if 0 ≤ (ji3) then (if (ji3) ≤ (l1.length : Int) then ((spec_l1Norm.f k (l1.take ((ji3) : Int).toNat)).bind fun t157 => ((spec_l1Norm.f k (l1.drop ((ji3) : Int).toNat)).bind fun t159 => (spec_l13Mask.l0 k t157 t159 0 4))) else (none)) else (none)) = some r := by first | (rw [hji3] at H; exact H) | (simp only [hji3] at H ⊢; exact H)
 have hji3w : (IntKind.i64.wrap (Int.tdiv a0 2)) = ji3 := (i64_w _).trans hji3
 by_cases c4 : 0 ≤ (ji3)
 ·rw [if_pos c4] at H
  have c4b0 := eq_true c4
  have c4b1 : decide (0 ≤ (ji3)) = true := decide_eq_true c4
  clear c4
  by_cases c5 : (ji3) ≤ (l1.length : Int)
  ·rw [if_pos c5] at H
   have c5b0 := eq_true c5
   have c5b1 : decide ((ji3) ≤ (l1.length : Int)) = true := decide_eq_true c5
   clear c5
   replace H := bnd H
   obtain ⟨t157, A6, H⟩ := H
   have c7b0 := eq_true (dta : 0 ≤ (ji3))
   have c8b0 := eq_true (dta : (ji3) ≤ (l1.length : Int))
   replace H := bnd H
   obtain ⟨t159, A9, H⟩ := H
   have H' := Aside0.mk H
   clear H
   obtain ⟨i010, hi010, _, hsz10, _⟩ := info_parts info2
   obtain ⟨hcut10, hA10, hC10⟩ := print_take_of (P := Try.prog) (Value.int .i64) 0 24 2 .i64 Try.underlying24 hi010 hsz10 A1 c1 l1 (ji3) (dta) (dta) HC1.out
   have HR156 := Aside0.mk (Kd.C_of_reads (h1 := fun _ => rfl) (hA10 _ (Kd.reads_of_C HR1.out)))
   have HC156 := Aside0.mk hC10
   clear hA10 hC10 hi010 hsz10
   go_enter Try.func171, Try.ntmps171
   go_wp2_with (first | ((with_reducible refine gate_callee (f := 194) rfl ?_); refine goesL_ (some 13) rfl rfl Try.func194 (by kernel_rfl) rfl #[.slice A1 (l1.take ((ji3) : Int).toNat).length c1] rfl (by (try simp only [List.map_toArray, List.map_cons, List.map_nil]); first | done | (rw [show (l1.take ((ji3) : Int).toNat).length = (ji3).toNat from (by rw [List.length_take]; have h_ : ((ji3) : Int) ≤ (l1.length : Int) := dta; omega)] <;> rfl) | (simp only [hji3]; rfl) | rfl | (simp only [List.length_drop, List.length_take]; rfl)) ?_; (with_reducible refine (spec_l1Norm.calls k _ _ (l1.take ((ji3) : Int).toNat) t157 _ ?side1 ?side2 A6.out).mono ?_); (case side1 => repeat (first | exact HR156.out | (with_reducible refine Kd.C_alloc ?_ _) | (with_reducible refine Kd.C_drewN ?_ _) | (with_reducible refine Kd.C_drew ?_))); (case side2 => exact HC156.out); rintro e w' ⟨rfl, ⟨nd, rfl⟩⟩; refine ⟨_, rfl, ?_⟩; obtain ⟨i011, hi011, _, hsz11, _⟩ := info_parts info2; obtain ⟨A11, hcut11, hA11, hC11⟩ := print_drop_of (P := Try.prog) (Value.int .i64) 0 24 2 .i64 Try.underlying24 hi011 hsz11 A1 c1 l1 (ji3) (dta) (dta) HC1.out; have HR158 := Aside0.mk (Kd.C_of_reads (h1 := fun _ => rfl) (hA11 _ (Kd.reads_of_C HR1.out))); have HC158 := Aside0.mk hC11; clear hA11 hC11 hi011 hsz11) | ((with_reducible refine gate_callee (f := 194) rfl ?_); refine goesL_ (some 18) rfl rfl Try.func194 (by kernel_rfl) rfl #[.slice A11 (l1.drop ((ji3) : Int).toNat).length (c1 - (ji3).toNat)] rfl (by (try simp only [List.map_toArray, List.map_cons, List.map_nil]); first | done | (rw [show (l1.drop ((ji3) : Int).toNat).length = (l1.length - (ji3).toNat) from List.length_drop] <;> rfl) | (simp only [hji3]; rfl) | rfl | (simp only [List.length_drop, List.length_take]; rfl)) ?_; (with_reducible refine (spec_l1Norm.calls k _ _ (l1.drop ((ji3) : Int).toNat) t159 _ ?side1 ?side2 A9.out).mono ?_); (case side1 => repeat (first | exact HR158.out | (with_reducible refine Kd.C_alloc ?_ _) | (with_reducible refine Kd.C_drewN ?_ _) | (with_reducible refine Kd.C_drew ?_))); (case side2 => exact HC158.out); rintro e w' ⟨rfl, ⟨nd, rfl⟩⟩; refine ⟨_, rfl, ?_⟩))
   go_loopg [7, 8] k (fun kq v7 v8 w' => ∃ (x7_1 : Int) (x8_1 : Int), v7 = .int .i64 x7_1 ∧ v8 = .int .i64 x8_1 ∧ Aside0 (spec_l13Mask.l0 kq t157 t159 x7_1 x8_1 = some r) ∧ Aside0 (kq ≤ k) ∧ Drawn0 w w')
   case atStart => exact ⟨(0), (4), rq, rq, H', ⟨Nat.le_refl _⟩, by repeat (first | exact Drawn0.refl _ | apply Drawn0.step)⟩
   case round =>
    clear H'
    try clear c1
    try clear p2
    try clear c4
    try clear c4b0
    try clear c4b1
    try clear c5
    try clear c5b0
    try clear c5b1
    try clear p6
    try clear c7
    try clear c7b0
    try clear c8
    try clear c8b0
    obtain ⟨x7_1, x8_1, rfl, rfl, HA, HK1, ⟨m1, rfl⟩⟩ := hrel
    cases gk with
    | zero => exact absurd HA.out (by simp [spec_l13Mask.l0])
    | succ k1 =>
     have H := HA.out
     clear HA
     simp only [spec_l13Mask.l0] at H
     by_cases c12 : x7_1 < 3
     ·rw [if_pos c12] at H
      have c12b0 : decide (x7_1 < 3) = true := decide_eq_true c12
      clear c12
      by_cases c13 : (wrap64 (x8_1 * t159)) < t157
      ·rw [if_pos c13] at H
       have c13b0 : decide ((wrap64 (x8_1 * t159)) < t157) = true := decide_eq_true c13
       clear c13
       have H' := Aside0.mk H
       clear H
       go_wp2
       go_roundg k1
       case measure => have := HK1.out; omega
       case rel => exact ⟨(wrap64 (x7_1 + 1)), (wrap64 (x8_1 * 4)), rq, rq, H', ⟨by have := HK1.out; omega⟩, by repeat (first | exact Drawn0.refl _ | apply Drawn0.step)⟩
      ·rw [if_neg c13] at H
       have c13b0 : decide ((wrap64 (x8_1 * t159)) < t157) = false := decide_eq_false c13
       clear c13
       obtain rfl := Option.some.inj H
       go_wp2
       go_ret
       exact ⟨by first | rfl | (simp; done) | (simp only [← hji3] <;> (first | rfl | simp)) | (simp [*]; done), by repeat (first | exact Drawn0.refl _ | apply Drawn0.step)⟩
     ·rw [if_neg c12] at H
      have c12b0 : decide (x7_1 < 3) = false := decide_eq_false c12
      clear c12
      obtain rfl := Option.some.inj H
      go_wp2
      go_ret
      exact ⟨by first | rfl | (simp; done) | (simp only [← hji3] <;> (first | rfl | simp)) | (simp [*]; done), by repeat (first | exact Drawn0.refl _ | apply Drawn0.step)⟩
  ·rw [if_neg c5] at H
   exact absurd H (by simp)
 ·rw [if_neg c4] at H
  exact absurd H (by simp)

/-! ### spec_l1Round: function 172 -/
def spec_l1Round.f : Nat → Int → Int → Option (Int)
 | 0, _, _ => none
 | k + 1, a0, a1 => if a0 < 0 then ((spec_l1Round.f k (wrap64 (-a0)) a1).bind fun t160 => (some (wrap64 (-t160)))) else (if (wrap64 (2 * a1)) = 0 then (none) else (some (wrap64 (Int.tdiv (wrap64 ((wrap64 (2 * a0)) + a1)) (wrap64 (2 * a1))))))
theorem spec_l1Round.mono_l : ∀ k, (∀ y0 y1, LeO (spec_l1Round.f k y0 y1) (spec_l1Round.f (k + 1) y0 y1))
 | 0 => fun _ _ r h => by simp [spec_l1Round.f] at h
 | k + 1 => by
  have ih0 := spec_l1Round.mono_l k
  ·intro y0 y1
   unfold spec_l1Round.f
   repeat' first
   | (with_reducible exact ih0 _ _)
   | (with_reducible exact LeO.refl _)
   | (with_reducible exact LeO.none _)
   | (with_reducible refine LeO.ite ?_ ?_)
   | (with_reducible refine LeO.bind ?_ (fun _ => ?_))
   | exact ih0 _ _
   | exact LeO.none _
   | refine LeO.ite ?_ ?_
   | refine LeO.bind ?_ (fun _ => ?_)
theorem spec_l1Round.mono : ∀ a0 a1 k, LeO (spec_l1Round.f k a0 a1) (spec_l1Round.f (k + 1) a0 a1) := by
 intro a0 a1 k
 have ih0 := spec_l1Round.mono_l k
 exact ih0 a0 a1
set_option maxHeartbeats 8000000 in
set_option maxRecDepth 100000 in
theorem spec_l1Round.calls (k : Nat) : ∀ (a0 : Int) (a1 : Int) (r : Int) (w : World) (h : spec_l1Round.f k a0 a1 = some r),
  Calls Try.prog 172 #[.int .i64 a0, .int .i64 a1] w fun e w' => e = .returned (.int .i64 r) ∧ Drawn0 w w' := by
 induction k using Nat.strongRecOn with
 | _ k ih =>
 intro a0 a1 r w h
 cases k with
 | zero => exact absurd h (by simp [spec_l1Round.f])
 | succ k =>
 simp only [spec_l1Round.f] at h
 have H : (if a0 < 0 then ((spec_l1Round.f k (wrap64 (-a0)) a1).bind fun t160 => (some (wrap64 (-t160)))) else (if (wrap64 (2 * a1)) = 0 then (none) else (some (wrap64 (Int.tdiv (wrap64 ((wrap64 (2 * a0)) + a1)) (wrap64 (2 * a1))))))) = some r := h
 clear h
 by_cases c3 : a0 < 0
 ·rw [if_pos c3] at H
  have c3b0 : decide (a0 < 0) = true := decide_eq_true c3
  clear c3
  replace H := bnd H
  obtain ⟨t160, A4, H⟩ := H
  obtain rfl := Option.some.inj H
  go_enter Try.func172, Try.ntmps172
  go_wp2_with (first | ((with_reducible refine gate_callee (f := 172) rfl ?_); refine gl_ 10 Try.func172 #[.int .i64 (wrap64 (-a0)), .int .i64 a1] ?_; (with_reducible refine (ih k (by omega) (wrap64 (-a0)) a1 t160 _ A4.out).mono ?_); rintro e w' ⟨rfl, ⟨nd, rfl⟩⟩; refine ⟨_, rfl, ?_⟩))
  go_ret
  exact dsq
 ·rw [if_neg c3] at H
  have c3b0 : decide (a0 < 0) = false := decide_eq_false c3
  clear c3
  by_cases c5 : (wrap64 (2 * a1)) = 0
  ·rw [if_pos c5] at H
   exact absurd H (by simp)
  ·rw [if_neg c5] at H
   have c5b0 : ((wrap64 (2 * a1)) == 0) = false := beq_eq_false_iff_ne.mpr c5
   have c5b1 : ((wrap64 (2 * a1)) != 0) = true := bne_iff_ne.mpr c5
   obtain rfl := Option.some.inj H
   go_enter Try.func172, Try.ntmps172
   go_wp2
   go_ret
   exact dsq

-- NOT PRINTED: function 175 (spec_l13Of)

/-! ### spec_l13Of_any: function 175 -/
/-- A cut of a slice by a band: what the walk tells of it stands in the fact hcut. -/
def spec_l13Of_any.f (f0 : Int) (f1 : Int) : Option Bool := some true
set_option maxHeartbeats 2000000 in
set_option maxRecDepth 100000 in
theorem spec_l13Of_any.calls {V : Value} {A : Option Addr} {n c : Nat} (f0 : Int) (f1 : Int) (r : Bool) (w : World) (hcut : ∀ W : World, (Instr.slice 24 (.slice A n c) (some (.int .i64 f0)) (some (.int .i64 (wrap64 (f0 + f1)))) none).run Try.prog W = .ok V W) (h : spec_l13Of_any.f f0 f1 = some r) :
    Calls Try.prog 175 #[.agg #[.int .i64 f0, .int .i64 f1], .slice A n c] w fun e w' => e = .returned V ∧ Below w.heap.size w w' := by
  have HB := Aside0.mk (Below.refl w.heap.size w)
  clear h
  go_enter Try.func175, Try.ntmps175
  go_wp2
  repeat (go_quiet (fail); try go_wp2)
  go_ret
  exact ⟨by first | rfl | (simp [*]; done) | simp_all, by repeat (first | (with_reducible first | exact HB.out | apply below_alloc | apply pw_below_drewN | apply below_drew1) | exact HB.out)⟩

/-! ### spec_l13Norms: function 173 -/
def spec_l13Norms.l0 : Nat → List Int → List Int → List (S93) → Int → Option (List Int)
 | 0, _, _, _, _ => none
 | k + 1, x1, x5, x6, x7 => if x7 < (x6.length : Int) then (if 0 ≤ x7 then (if 0 ≤ ((rd_T93 x6 x7).f0) then (if ((rd_T93 x6 x7).f0) ≤ (wrap64 (((rd_T93 x6 x7).f0) + ((rd_T93 x6 x7).f1))) then (if (wrap64 (((rd_T93 x6 x7).f0) + ((rd_T93 x6 x7).f1))) ≤ (x1.length : Int) then ((spec_l13Of_any.f ((rd_T93 x6 x7).f0) ((rd_T93 x6 x7).f1)).bind fun t174 => ((spec_l1Norm.f k ((x1.take (wrap64 (((rd_T93 x6 x7).f0) + ((rd_T93 x6 x7).f1))).toNat).drop ((rd_T93 x6 x7).f0).toNat)).bind fun t175 => (if x5.length < 17592186044416 then (spec_l13Norms.l0 k x1 (x5 ++ [t175]) x6 (wrap64 (x7 + 1))) else (none)))) else (none)) else (none)) else (none)) else (none)) else (some x5)
def spec_l13Norms.f (k : Nat) (a0 : Int) (l1 : List Int) : Option (List Int) := (spec_l13Bands.f a0).bind fun t169 => (spec_l13Norms.l0 k l1 (([] : List Int)) t169 0)
theorem spec_l13Norms.mono_l : ∀ k, (∀ y0 y1 y2 y3, LeO (spec_l13Norms.l0 k y0 y1 y2 y3) (spec_l13Norms.l0 (k + 1) y0 y1 y2 y3))
 | 0 => fun _ _ _ _ r h => by simp [spec_l13Norms.l0] at h
 | k + 1 => by
  have ih0 := spec_l13Norms.mono_l k
  ·intro y0 y1 y2 y3
   unfold spec_l13Norms.l0
   repeat' first
   | (with_reducible exact ih0 _ _ _ _)
   | (with_reducible exact spec_l1Norm.mono _ _)
   | (with_reducible exact LeO.refl _)
   | (with_reducible exact LeO.none _)
   | (with_reducible refine LeO.ite ?_ ?_)
   | (with_reducible refine LeO.bind ?_ (fun _ => ?_))
   | exact ih0 _ _ _ _
   | exact spec_l1Norm.mono _ _
   | exact LeO.none _
   | refine LeO.ite ?_ ?_
   | refine LeO.bind ?_ (fun _ => ?_)
theorem spec_l13Norms.mono : ∀ a0 a1 k, LeO (spec_l13Norms.f k a0 a1) (spec_l13Norms.f (k + 1) a0 a1) := by
 intro a0 a1 k
 have ih0 := spec_l13Norms.mono_l k
 unfold spec_l13Norms.f
 repeat' first
   | (with_reducible exact ih0 _ _ _ _)
   | (with_reducible exact spec_l1Norm.mono _ _)
   | (with_reducible exact LeO.refl _)
   | (with_reducible exact LeO.none _)
   | (with_reducible refine LeO.ite ?_ ?_)
   | (with_reducible refine LeO.bind ?_ (fun _ => ?_))
   | exact ih0 _ _ _ _
   | exact spec_l1Norm.mono _ _
   | exact LeO.none _
   | refine LeO.ite ?_ ?_
   | refine LeO.bind ?_ (fun _ => ?_)
set_option maxHeartbeats 8000000 in
set_option maxRecDepth 100000 in
theorem spec_l13Norms.calls (k : Nat) (a0 : Int) (A1 : Option Addr) (c1 : Nat) (l1 : List Int) (r : List Int) (w : World) (hr1 : Kd.C (Kd.int .i64) w A1 l1.length l1) (hc1 : l1.length ≤ c1) (h : spec_l13Norms.f k a0 l1 = some r) :
  Calls Try.prog 173 #[.int .i64 a0, .slice A1 l1.length c1] w fun e w' => ∃ v0_ : Value, e = .returned (v0_) ∧ Kd.R (Kd.int .i64) 2 w' w.heap.size (fun _ => True) v0_ r ∧ Below w.heap.size w w' := by
 have hu93 := Try.underlying93
 have HR1 := Aside0.mk hr1
 have HC1 := Aside0.mk hc1
 clear hr1 hc1
 have HB := Aside0.mk (Below.refl w.heap.size w)
 have H : ((spec_l13Bands.f a0).bind fun t169 => (spec_l13Norms.l0 k l1 (([] : List Int)) t169 0)) = some r := h
 clear h
 obtain ⟨y166, hy166⟩ : ∃ y_ : List Int, y_ = (([] : List Int)) := ⟨_, rfl⟩
 replace H : ((spec_l13Bands.f a0).bind fun t169 => (spec_l13Norms.l0 k l1 y166 t169 0)) = some r := by first | (rw [hy166]; with_reducible exact H) | (have H2_ := (Option.bind_some _ _).symm.trans H; rw [hy166]; with_reducible exact H2_) | (have H2_ := (Option.bind_some _ _).symm.trans H; with_reducible exact H2_) | with_reducible exact H | (rw [hy166]; exact H) | exact H
 have Ny166 := Aside0.mk hy166
 clear hy166
 replace H := bnd H
 obtain ⟨t169, A3, H⟩ := H
 have H' := Aside0.mk H
 clear H
 go_enter Try.func173, Try.ntmps173
 go_wp2_with (first | ((with_reducible refine gate_dst (N := 8) rfl ?_); refine Kd.R_lit (Kd.int .i64) _ 2 ?hg (N := 8) ?hd (xs := ([] : List Int)) (inner := []) (ok := fun _ => True) (okp := fun _ => True) ?hr ?hp (fun _ hk => hk) trivial (Below.refl _ _) (Nat.le_refl _) (by simp) ?_; (case hd => rfl); (case hg => rfl); (case hr => first | (go_simp; done) | (go_simp; rfl)); (case hp => exact (Reps.none _ _)); intro v167 w4 ho5 hb hg_ hnew_; clear hg_ hnew_; (first | rw [← Ny166.out] at ho5 | (simp only [Int.reduceToNat] at ho5; rw [← Ny166.out] at ho5)); have HO168 := rlw ho5; replace HB := hbs hb; clear hb ho5) | ((with_reducible refine gate_callee (f := 145) rfl ?_); refine gl_ 10 Try.func145 #[.int .i64 a0] ?_; (with_reducible refine (spec_l13Bands.calls a0 t169 _ A3.out).mono ?_); rintro e w6 ⟨v170, rfl, ho0, hb⟩; refine ⟨_, rfl, ?_⟩; replace HO168 := rbl HO168 hb; have HO171 := rlw ho0; replace HB := hbs hb; (try clear hb); (try clear ho0)))
 go_loopg [5, 7] k (fun kq v5 v7 w' => ∃ (x5_1 : List Int) (x7_1 : Int), v7 = .int .i64 x7_1 ∧ Aside0 (spec_l13Norms.l0 kq l1 x5_1 t169 x7_1 = some r) ∧ Aside0 (kq ≤ k) ∧ Aside0 (Kd.R (Kd.int .i64) 2 w' w.heap.size (fun _ => True) v5 x5_1) ∧ Aside0 (Kd.R k93 93 w' w.heap.size (fun _ => True) v170 t169) ∧ Aside0 (Below w.heap.size w w'))
 case atStart => exact ⟨(y166), (0), rq, H', ⟨Nat.le_refl _⟩, ⟨by (with_reducible repeat (first | apply Kd.R_alloc | apply Kd.R_drewN | apply Kd.R_drew)); exact HO168.out⟩, ⟨by (with_reducible repeat (first | apply Kd.R_alloc | apply Kd.R_drewN | apply Kd.R_drew)); exact HO171.out⟩, ⟨bnw⟩⟩
 case round =>
  clear H'
  try clear c1
  try clear p2
  obtain ⟨x5_1, x7_1, rfl, HA, HK1, HO_5, HO_6, HB⟩ := hrel
  cases gk with
  | zero => exact absurd HA.out (by simp [spec_l13Norms.l0])
  | succ k1 =>
   have H := HA.out
   clear HA
   simp only [spec_l13Norms.l0] at H
   by_cases c7 : x7_1 < (t169.length : Int)
   ·rw [if_pos c7] at H
    have c7b0 : decide (x7_1 < (t169.length : Int)) = true := decide_eq_true c7
    clear c7
    by_cases c8 : 0 ≤ x7_1
    ·rw [if_pos c8] at H
     have c8b0 : decide (0 ≤ x7_1) = true := decide_eq_true c8
     clear c8
     by_cases c9 : 0 ≤ ((rd_T93 t169 x7_1).f0)
     ·rw [if_pos c9] at H
      have c9b0 := eq_true c9
      have c9b1 : decide (0 ≤ ((rd_T93 t169 x7_1).f0)) = true := decide_eq_true c9
      clear c9
      by_cases c10 : ((rd_T93 t169 x7_1).f0) ≤ (wrap64 (((rd_T93 t169 x7_1).f0) + ((rd_T93 t169 x7_1).f1)))
      ·rw [if_pos c10] at H
       have c10b0 := eq_true c10
       have c10b1 : decide (((rd_T93 t169 x7_1).f0) ≤ (wrap64 (((rd_T93 t169 x7_1).f0) + ((rd_T93 t169 x7_1).f1)))) = true := decide_eq_true c10
       by_cases c11 : (wrap64 (((rd_T93 t169 x7_1).f0) + ((rd_T93 t169 x7_1).f1))) ≤ (l1.length : Int)
       ·rw [if_pos c11] at H
        have c11b0 := eq_true c11
        have c11b1 : decide ((wrap64 (((rd_T93 t169 x7_1).f0) + ((rd_T93 t169 x7_1).f1))) ≤ (l1.length : Int)) = true := decide_eq_true c11
        replace H := bnd H
        obtain ⟨t174, A12, H⟩ := H
        replace H := bnd H
        obtain ⟨t175, A13, H⟩ := H
        by_cases c14 : x5_1.length < 17592186044416
        ·rw [if_pos c14] at H
         have LMc14 := Aside0.mk c14
         clear c14
         obtain ⟨y176, hy176⟩ : ∃ y_ : List Int, y_ = (x5_1 ++ [t175]) := ⟨_, rfl⟩
         replace H : (spec_l13Norms.l0 k1 l1 y176 t169 (wrap64 (x7_1 + 1))) = some r := by first | (rw [hy176]; with_reducible exact H) | (have H2_ := (Option.bind_some _ _).symm.trans H; rw [hy176]; with_reducible exact H2_) | (have H2_ := (Option.bind_some _ _).symm.trans H; with_reducible exact H2_) | with_reducible exact H | (rw [hy176]; exact H) | exact H
         have Ny176 := Aside0.mk hy176
         clear hy176
         have H' := Aside0.mk H
         clear H
         obtain ⟨Ao15, co15, eo15⟩ := Kd.R_slice HO_6.out
         subst eo15
         have p172 : 0 ≤ (x7_1 : Int) := dta
         have q172 : x7_1 < (t169.length : Int) := dta
         obtain ⟨ad172, e172, hx172_0, hx172_1⟩ := at_T93 (Kd.R_reads' HO_6.out).2.2 x7_1 p172 q172
         cases e172
         replace p172 := eq_true p172
         replace q172 := eq_true q172
         obtain ⟨i016, hi016, _, hsz16, _⟩ := info_parts info2
         obtain ⟨A16, hcut16, hA16, hC16⟩ := print_mid_of (P := Try.prog) (Value.int .i64) 0 24 2 .i64 .i64 Try.underlying24 hi016 hsz16 A1 c1 l1 ((rd_T93 t169 x7_1).f0) (wrap64 (((rd_T93 t169 x7_1).f0) + ((rd_T93 t169 x7_1).f1))) (dta) (by first | omega | exact dta) (dta) HC1.out
         have HR173 := Aside0.mk (Kd.C_of_reads (h1 := fun _ => rfl) (hA16 _ (Kd.reads_of_C HR1.out)))
         have HC173 := Aside0.mk hC16
         clear hA16 hC16 hi016 hsz16
         go_wp2_with (first | ((with_reducible refine gate_callee (f := 175) rfl ?_); refine gl_ 23 Try.func175 #[.agg #[.int .i64 ((rd_T93 t169 x7_1).f0), .int .i64 ((rd_T93 t169 x7_1).f1)], .slice A1 l1.length c1] ?_; (with_reducible refine (spec_l13Of_any.calls (hcut := hcut16) ((rd_T93 t169 x7_1).f0) ((rd_T93 t169 x7_1).f1) t174 _ A12.out).mono ?_); rintro e w17 ⟨rfl, hb⟩; refine ⟨_, rfl, ?_⟩; replace HO_5 := rbl HO_5 hb; replace HO_6 := rbl HO_6 hb; replace HB := hbs hb; (try clear hb)) | ((with_reducible refine gate_callee (f := 194) rfl ?_); refine goesL_ (some 24) rfl rfl Try.func194 (by kernel_rfl) rfl #[.slice A16 ((l1.take (wrap64 (((rd_T93 t169 x7_1).f0) + ((rd_T93 t169 x7_1).f1))).toNat).drop ((rd_T93 t169 x7_1).f0).toNat).length (c1 - ((rd_T93 t169 x7_1).f0).toNat)] rfl (by (try simp only [List.map_toArray, List.map_cons, List.map_nil]); first | done | (rw [show ((l1.take (wrap64 (((rd_T93 t169 x7_1).f0) + ((rd_T93 t169 x7_1).f1))).toNat).drop ((rd_T93 t169 x7_1).f0).toNat).length = ((wrap64 (((rd_T93 t169 x7_1).f0) + ((rd_T93 t169 x7_1).f1))).toNat - ((rd_T93 t169 x7_1).f0).toNat) from (by rw [List.length_drop, List.length_take]; have h_ : ((wrap64 (((rd_T93 t169 x7_1).f0) + ((rd_T93 t169 x7_1).f1))) : Int) ≤ (l1.length : Int) := dta; omega)] <;> rfl) | rfl | (simp only [List.length_drop, List.length_take]; rfl)) ?_; (with_reducible refine (spec_l1Norm.calls k1 _ _ ((l1.take (wrap64 (((rd_T93 t169 x7_1).f0) + ((rd_T93 t169 x7_1).f1))).toNat).drop ((rd_T93 t169 x7_1).f0).toNat) t175 _ ?_ ?_ A13.out).mono ?_); exact cpl HR173.out; exact HC173.out; rintro e w' ⟨rfl, ⟨nd, rfl⟩⟩; refine ⟨_, rfl, ?_⟩) | ((with_reducible refine gate_builtin (b := .append) (xs := #[.tmp 17, .tmp 25]) rfl ?_); at_builtin; refine Kd.R_append (Kd.int .i64) (w0 := w) w.heap.size rfl (.tmp 17) (.tmp 25) 24 2 (.int .i64 0) 8 rfl Try.underlying24 info2 rfl (by decide) (by omega) u5 x5_1 t175 [.int .i64 t175] (fun _ => True) (fun _ => False) rfl rfl ?aP (fun _ hk => hk.elim) ?aF ?aO ?aB ?aS ?aL ?_; (case aP => exact rfl); (case aB => exact bnw); (case aF => exact (fun _ _ => trivial)); (case aO => exact (rpl HO_5.out)); (case aS => exact bsz); (case aL => have := LMc14.out; omega); intro v177 w18 ho hb hg hat; rw [← Ny176.out] at ho; replace HO_6 := am (Kd.R_over' (rpl HO_6.out) (Kd.R_typed (rpl HO_5.out)) (by decide) hg); replace HB := am hb; have HO178 := am ho; clear HO_5 ho hb hg hat))
         go_roundg k1
         case measure => have := HK1.out; omega
         case rel => exact ⟨(y176), (wrap64 (x7_1 + 1)), rq, H', ⟨by have := HK1.out; omega⟩, ⟨by (with_reducible repeat (first | apply Kd.R_alloc | apply Kd.R_drewN | apply Kd.R_drew)); exact HO178.out⟩, ⟨by (with_reducible repeat (first | apply Kd.R_alloc | apply Kd.R_drewN | apply Kd.R_drew)); exact HO_6.out⟩, ⟨bnw⟩⟩
        ·rw [if_neg c14] at H
         exact absurd H (by simp)
       ·rw [if_neg c11] at H
        exact absurd H (by simp)
      ·rw [if_neg c10] at H
       exact absurd H (by simp)
     ·rw [if_neg c9] at H
      exact absurd H (by simp)
    ·rw [if_neg c8] at H
     exact absurd H (by simp)
   ·rw [if_neg c7] at H
    have c7b0 : decide (x7_1 < (t169.length : Int)) = false := decide_eq_false c7
    clear c7
    obtain rfl := Option.some.inj H
    obtain ⟨Ao19, co19, eo19⟩ := Kd.R_slice HO_6.out
    subst eo19
    go_wp2
    go_ret
    exact ⟨_, enq, by (with_reducible repeat (first | apply Kd.R_alloc | apply Kd.R_drewN | apply Kd.R_drew)); exact HO_5.out, bnw⟩

/-! ### spec_l1Zeros: function 136 -/
def spec_l1Zeros.f (a0 : Int) : Option (List Int) := if 0 ≤ a0 then (if (a0 : Int).toNat ≤ 35184372088832 then (some (List.replicate (a0 : Int).toNat 0)) else (none)) else (none)
set_option maxHeartbeats 8000000 in
set_option maxRecDepth 100000 in
theorem spec_l1Zeros.calls (a0 : Int) (r : List Int) (w : World) (h : spec_l1Zeros.f a0 = some r) :
  Calls Try.prog 136 #[.int .i64 a0] w fun e w' => ∃ v0_ : Value, e = .returned (v0_) ∧ Kd.R (Kd.int .i64) 2 w' w.heap.size (fun _ => True) v0_ r ∧ Below w.heap.size w w' := by
 have HB := Aside0.mk (Below.refl w.heap.size w)
 have H : (if 0 ≤ a0 then (if (a0 : Int).toNat ≤ 35184372088832 then (some (List.replicate (a0 : Int).toNat 0)) else (none)) else (none)) = some r := h
 clear h
 by_cases c2 : 0 ≤ a0
 ·rw [if_pos c2] at H
  have c2b0 := eq_true c2
  have c2b1 : decide (0 ≤ a0) = true := decide_eq_true c2
  clear c2
  by_cases c3 : (a0 : Int).toNat ≤ 35184372088832
  ·rw [if_pos c3] at H
   have c3b0 := eq_true c3
   have c3b1 : decide ((a0 : Int).toNat ≤ 35184372088832) = true := decide_eq_true c3
   clear c3
   obtain ⟨y179, hy179⟩ : ∃ y_ : List Int, y_ = (List.replicate (a0 : Int).toNat 0) := ⟨_, rfl⟩
   replace H : (some y179) = some r := by first | (rw [hy179]; with_reducible exact H) | (have H2_ := (Option.bind_some _ _).symm.trans H; rw [hy179]; with_reducible exact H2_) | (have H2_ := (Option.bind_some _ _).symm.trans H; with_reducible exact H2_) | with_reducible exact H | (rw [hy179]; exact H) | exact H
   have Ny179 := Aside0.mk hy179
   clear hy179
   obtain rfl := Option.some.inj H
   go_enter Try.func136, Try.ntmps136
   go_wp2_with (first | ((with_reducible refine gate_dst (N := 4) rfl ?_); refine Kd.R_make (Kd.int .i64) _ 2 rfl (N := 4) rfl 24 _ _ rfl a0 rfl rfl Try.underlying24 (.int .i64 0) 8 info2 rfl (by decide) (by omega) 0 (ok := fun _ => True) (okp := fun _ => True) rfl (fun _ hk => hk) trivial (dta) (Nat.le_trans (Nat.mul_le_mul_right _ (dta : a0.toNat ≤ 35184372088832)) (by omega)) (Below.refl _ _) (Nat.le_refl _) ?_; intro v180 w4 ho5 hb hg_ hnew_; clear hg_ hnew_; (first | rw [← Ny179.out] at ho5 | (simp only [Int.reduceToNat] at ho5; rw [← Ny179.out] at ho5)); have HO181 := rlw ho5; replace HB := hbs hb; clear hb ho5))
   go_ret
   exact ⟨_, enq, HO181.out, bnw⟩
  ·rw [if_neg c3] at H
   exact absurd H (by simp)
 ·rw [if_neg c2] at H
  exact absurd H (by simp)

end Go.Proofs.Ythehhncokikgcaa.PFnExactMakeFrame
